/- A part of a proof (see the text that ends in Proof). No conditions. -/
import Derived.Test.YtaicmmejgiaafaaGreatDoorOwHA
set_option linter.unusedVariables false
set_option linter.unusedSimpArgs false
set_option maxRecDepth 10000
namespace Go.Proofs.YtaicmmejgiaafaaGreatDoor
open Go Go.Lv Go.Pl Go.Rx Go.Rx.PS
noncomputable section
def g0:List Value:=[.int .i64 2,.int .i64 2,.int .i64 2,.int .i64 4,.int .i64 4]
def g2:List Value:=[.int .i64 2,.int .i64 2,.int .i64 4,.int .i64 4,.int .i64 2,.int .i64 2,.int .i64 2,.int .i64 2,.int .i64 4]
def g3:List Value:=[.int .u8 1,.int .u8 0,.int .u8 0,.int .u8 0,.int .u8 0,.int .u8 0,.int .u8 16,.int .u8 0,.int .u8 128,.int .u8 0,.int .u8 0,.int .u8 170,.int .u8 0,.int .u8 56,.int .u8 155,.int .u8 113]
def g4:List Value:=[.bool true,.int .i64 0]
def g6:List Value:=[.bool false,.int .i64 0]
def g7:List Value:=[.int .u8 0,.int .u8 1,.int .u8 56,.int .u8 2,.int .u8 57,.int .u8 49,.int .u8 28,.int .u8 3,.int .u8 61,.int .u8 58,.int .u8 42,.int .u8 50,.int .u8 38,.int .u8 29,.int .u8 17,.int .u8 4,.int .u8 62,.int .u8 47,.int .u8 59,.int .u8 36,.int .u8 45,.int .u8 43,.int .u8 51,.int .u8 22,.int .u8 53,.int .u8 39,.int .u8 33,.int .u8 30,.int .u8 24,.int .u8 18,.int .u8 12,.int .u8 5,.int .u8 63,.int .u8 55,.int .u8 48,.int .u8 27,.int .u8 60,.int .u8 41,.int .u8 37,.int .u8 16,.int .u8 46,.int .u8 35,.int .u8 44,.int .u8 21,.int .u8 52,.int .u8 32,.int .u8 23,.int .u8 11,.int .u8 54,.int .u8 26,.int .u8 40,.int .u8 15,.int .u8 34,.int .u8 20,.int .u8 31,.int .u8 10,.int .u8 25,.int .u8 14,.int .u8 19,.int .u8 9,.int .u8 13,.int .u8 8,.int .u8 7,.int .u8 6]
def gl:List (Nat×List Value):=[(0,g0),(2,g2),(3,g3),(4,g4),(6,g6),(7,g7)]
theorem mixed:Tryz.prog.follows .mixedOrders=true:=F5
noncomputable abbrev P_:=Tryz.prog
noncomputable def kt(l:List (Kc P_ gl))(v:Bool):=Bke l v
theorem co(H:Hd){f:Nat}{F:KQ (Yc H.p)->Option (KQ (Yc H.r))}(hf:P_.funcs[f]? =some H.f)(h:∀x,H.u P_ x=F x:=by intro x;kernel_rfl)(hT:NS P_ H.T:=by exact Ath _ _)(hb:okA P_ H=true:=by kernel_rfl):ConOk P_ H.T.gl f ⟨H.p,H.r,F⟩:=Hd.cn mixed H hf hT hb h
theorem ent55:Ent Tryz.prog 55:=Ent.mk Tryz.func55 F5 rfl
theorem ent60:Ent Tryz.prog 60:=Ent.mk Tryz.func60 F5 rfl
abbrev u2{A B R:Type}(f:A->B->R)(x:A×B):=f x.1 x.2
abbrev u3{A B C R:Type}(f:A->B->C->R):=u2 λa=>u2 (f a)
abbrev u4{A B C D R:Type}(f:A->B->C->D->R):=u2 λa=>u3 (f a)
abbrev u5{A B C D E R:Type}(f:A->B->C->D->E->R):=u2 λa=>u4 (f a)
abbrev u6{A B C D E F R:Type}(f:A->B->C->D->E->F->R):=u2 λa=>u5 (f a)
abbrev u7{A B C D E F G R:Type}(f:A->B->C->D->E->F->G->R):=u2 λa=>u6 (f a)
abbrev u8{A B C D E F G H R:Type}(f:A->B->C->D->E->F->G->H->R):=u2 λa=>u7 (f a)
abbrev u9{A B C D E F G H I R:Type}(f:A->B->C->D->E->F->G->H->I->R):=u2 λa=>u8 (f a)
abbrev u10{A B C D E F G H I J R:Type}(f:A->B->C->D->E->F->G->H->I->J->R):=u2 λa=>u9 (f a)
abbrev u11{A B C D E F G H I J K R:Type}(f:A->B->C->D->E->F->G->H->I->J->K->R):=u2 λa=>u10 (f a)
abbrev u12{A B C D E F G H I J K L R:Type}(f:A->B->C->D->E->F->G->H->I->J->K->L->R):=u2 λa=>u11 (f a)
abbrev u13{A B C D E F G H I J K L M R:Type}(f:A->B->C->D->E->F->G->H->I->J->K->L->M->R):=u2 λa=>u12 (f a)
open Go.Proofs.Tryz
namespace F49
def H:Hd:=⟨[],[.agg [Si,Si,Si,Ow 21]],.d,kt [] false,[],f49⟩
def k:Kc P_ gl:=⟨(49,⟨H.p,H.r,λ_=>QB⟩),co H func49⟩
end F49
namespace F81
def H:Hd:=⟨[.agg [Si,Si,Si,Sw]],[.agg [Si,Si]],.d,kt [] false,[],f81⟩
def k:Kc P_ gl:=⟨(81,⟨H.p,H.r,u4 PD⟩),co H func81⟩
end F81
namespace F120
abbrev R_:=(Int32×Int32×Int)
def H:Hd:=⟨[Si],[Sx,Sx,Si],(.seq .d (.seq (.seq .d (.blk (.cut [0,7] [] .d .d))) .d)),kt [] false,[],f120⟩
def k:Kc P_ gl:=⟨(120,⟨H.p,H.r,Te⟩),co H func120⟩
end F120
namespace F67
def H:Hd:=⟨[.agg [Si,Si]],[Si],.d,kt [F120.k] false,[],f67⟩
def k:Kc P_ gl:=⟨(67,⟨H.p,H.r,u2 Gf⟩),co H func67⟩
end F67
namespace F170
def H:Hd:=⟨[Si],[Si,Si],.d,kt [] false,[],f170⟩
def k:Kc P_ gl:=⟨(170,⟨H.p,H.r,Ph⟩),co H func170⟩
end F170
namespace F158
def H:Hd:=⟨[Si,Si],[Si,Si],.d,kt [F170.k] false,[],f158⟩
def k:Kc P_ gl:=⟨(158,⟨H.p,H.r,u2 Ki⟩),co H func158⟩
end F158
namespace F99
def H:Hd:=⟨[.agg [Si,Si,Si,Sw],Si],[Si],.d,kt [F67.k,F81.k,F158.k] false,[],f99⟩
def k:Kc P_ gl:=⟨(99,⟨H.p,H.r,u5 OW⟩),co H func99⟩
end F99
namespace F100
abbrev R_:=Int
def H:Hd:=⟨[Si,Sw],[Si],(.seq .d (.seq .d (.seq .d (.seq .d (.cut [] [] (.seq .d (.blk (.loop [5,6,22,23,24] [] .d))) .d))))),kt [F120.k] false,[],f100⟩
def t4(b f:Int32)(a:LX)(g:Int):S:=⟨[(5,vx b),(6,vx f),(22,vw a),(23,vi (Ac a)),(24,vi g)],[],[]⟩
def z4:Nat->S->Option R_:=H.i P_ [r,r,r,r,l,r,d]
theorem i4(b f:Int32)(a:LX):∀(q:Nat) (g:Int),z4 q (t4 b f a g)=Uu b f a q g:=
 ind (λ_=>by kernel_rfl) λq ih g=>Eq.trans (b:=JC tL (λg=>(z4 q) (t4 b f a g)) b f a g) F5 (by simp only[ih]<;>rfl)
def k:Kc P_ gl:=⟨(100,⟨H.p,H.r,u2 Sm⟩),co H func100 (λx=>Eq.trans (b:=u2 (bG (λb f a g=>z4 Dn (t4 b f a g))) x) F5 (by simp only[i4,Bc]<;>rfl))⟩
end F100
namespace F52
def H:Hd:=⟨[.agg [Si,Si,Si,Sw]],[Si],.d,kt [F99.k,F100.k] false,[],f52⟩
def k:Kc P_ gl:=⟨(52,⟨H.p,H.r,u4 Cl⟩),co H func52⟩
end F52
namespace F54
abbrev R_:=(LB×Int)
abbrev K_:=S->Option R_
def H:Hd:=⟨[Si,Sw],[Ob 5,Si],(.seq .d (.seq .d (.seq .d (.cut [7] [] (.seq .d (.blk (.loop [0,7,17,18,19] [⟨7,[],.own 5 (.int .u8)⟩] (.seq .d (.seq .d (.cut [0,7,17,18,19] [] (.blk (.seq .d (.cut [0,7,9,17,18,19] [] .d (.seq .d (.blk (.loop [0,7,9,17,18,19,28,29] [] .d)))))) .d)))))) .d)))),kt [F100.k] false,[],f54⟩
def t26(b:Int)(a:LX)(k:Int32)(f m:Int)(h:LB):S:=⟨[(0,vi b),(7,.own 0),(9,vx k),(17,vw a),(18,vi (Ac a)),(19,vi f),(28,vi (Bq b (8:Int))),(29,vi m)],[Ab 5 h],[]⟩
def z26(Oq:K_):Nat->S->Option R_:=H.i P_ [r,r,r,l,r,d,(lp Oq),r,r,l,d,r,r,r,d]
def t16(b:Int)(a:LX)(f:Int)(g:LB):S:=⟨[(0,vi b),(7,.own 0),(17,vw a),(18,vi (Ac a)),(19,vi f)],[Ab 5 g],[]⟩
def z16:Nat->S->Option R_:=H.i P_ [r,r,r,l,r,d]
def x26(Oq:K_)(b:Int)(a:LX)(k:Int32)(f m:Int)(h:LB):Option R_:=H.e P_ [r,r,r,l,r,d,(lp Oq),r,r,l,d,r,r,r,d] (t26 b a k f m h)
theorem i26(Oq:K_)(b:Int)(a:LX)(k:Int32)(f:Int):∀(q:Nat) (m:Int) (h:LB),z26 Oq q (t26 b a k f m h)=Lr (λf g=>Oq (t16 b a f g)) b a k f q m h:=
 ind (λ_ _=>by kernel_rfl) λq ih m h=>Eq.trans (b:=FC (VF (λf g=>Oq (t16 b a f g)) b a) (λm h=>(z26 Oq q) (t26 b a k f m h)) b a k f m h) F5 (by simp only[ih]<;>rfl)
theorem e26(Oq:K_)(b:Int)(a:LX):x26 Oq b a=VU (λf g=>Oq (t16 b a f g)) b a:=by funext k f m h;exact Eq.trans F5 ((i26 Oq b a k f Dn m h).trans (by rw[Bc];rfl))
theorem i16(b:Int)(a:LX):∀(q:Nat) (f:Int) (g:LB),z16 q (t16 b a f g)=Hu b a q f g:=
 ind (λ_ _=>by kernel_rfl) λq ih f g=>Eq.trans (b:=FL (UP (x26 (z16 q) b a) b a) pQ b a f g) F5 (by simp only[e26,ih]<;>rfl)
def k:Kc P_ gl:=⟨(54,⟨H.p,H.r,u2 Jy⟩),co H func54 (λx=>Eq.trans (b:=u2 (bH (λb a f g=>z16 Dn (t16 b a f g))) x) F5 (by simp only[i16,Bc]<;>rfl))⟩
end F54
namespace F144
def H:Hd:=⟨[.agg [Si,Si],Si,Ss],[Si,Sz],.d,kt [F67.k,F170.k] false,[],f144⟩
def k:Kc P_ gl:=⟨(144,⟨H.p,H.r,u4 EO⟩),co H func144⟩
end F144
namespace F89
def H:Hd:=⟨[.agg [Si,Si],Si,Ss],[.agg [.agg [Si,Si],Si,Ss,Ob 5,Ow 21,.lf (.list (.list (.int .u8))) (some 22),Ob 5,Sz,Si],Si],.d,kt [F144.k] false,[],f89⟩
def k:Kc P_ gl:=⟨(89,⟨H.p,H.r,u4 eW⟩),co H func89⟩
end F89
namespace F146
def H:Hd:=⟨[.agg [Si,Si]],[Si],.d,kt [] false,[],f146⟩
def k:Kc P_ gl:=⟨(146,⟨H.p,H.r,u2 JM⟩),co H func146⟩
end F146
namespace F149
def H:Hd:=⟨[.agg [.agg [Si,Si],Si,Ss,Sb,Sw,.lf (.list (.list (.int .u8))) none,Sb,Sz,Si],Si],[Si],.d,kt [] false,[],f149⟩
def k:Kc P_ gl:=⟨(149,⟨H.p,H.r,u11 Xy⟩),co H func149⟩
end F149
namespace F148
def H:Hd:=⟨[.agg [.agg [Si,Si],Si,Ss,Sb,Sw,.lf (.list (.list (.int .u8))) none,Sb,Sz,Si],Si,Si],[Sz],.d,kt [] false,[],f148⟩
def k:Kc P_ gl:=⟨(148,⟨H.p,H.r,u12 Xi⟩),co H func148⟩
end F148
namespace F226
abbrev R_:=Bool
abbrev K_:=S->Option R_
def H:Hd:=⟨[.agg [.agg [Si,Si],Si,Ss,Sb,Sw,.lf (.list (.list (.int .u8))) none,Sb,Sz,Si],Si],[Sz],(.seq .d (.seq .d (.cut [1,2,5] [] .d (.seq .d (.seq .d (.cut [1,2,5,6] [] .d (.cut [1,2,5] [] .d (.seq .d (.cut [4] [] (.keep [4,80,81] true) .d))))))))),kt [F100.k,F146.k,F148.k,F149.k] false,[(244,(.seq .d (.cut [4] [] (.keep [4,7,8] true) .d))),(245,.d),(248,(.seq .d (.cut [] [] (.seq .d (.blk (.loop [0,1,7,8] [] (.seq .d (.seq .d (.cut [0,1,7,8] [] (.blk (.seq .d (.cut [0,1,5,7,8,16] [] (.keep [0,1,5,7,8,16] true) .d))) .d)))))) .d)))],f226⟩
def t16(b:List LB)(f a h:Int):S:=⟨[(0,.val (.list (.list (.int .u8))) b),(1,.fn 245 [.ptr 0 []]),(7,vi (Ac b)),(8,vi h)],[.box 3 (vi (Ae (Bq (Ae (Bi (Bi (81:Int) f) a) (7:Int)) (8:Int)) (4:Int)))],[[(4,vt false)],[]]⟩
def z16:Nat->S->Option R_:=H.i P_ [r,r,r,r,r,r,r,r,l,(call 3 244),r,l,(call 2 248),r,l,r,d]
def x13(f a k o:Int)(p m:LB)(g:LX)(b:List LB)(n:LB)(u:Bool)(v:Int):Option R_:=H.e P_ [r,r,r] ⟨[(1,vi f),(2,.ptr 0 []),(5,vi a)],[.box 142 (.agg [.agg [vi a,vi k],vi o,vs p,vb m,vw g,.val (.list (.list (.int .u8))) b,vb n,vt u,vi v])],[]⟩
theorem i16(b:List LB)(f a:Int):∀(q:Nat) (h:Int),z16 q (t16 b f a h)=Lm b f a q h:=
 ind (λ_=>by kernel_rfl) λq ih h=>Eq.trans (b:=Uf (DE (λh=>(z16 q) (t16 b f a h)) b f a) WH b f a h) F5 (by simp only[ih]<;>rfl)
theorem e13:x13=DJ:=Eq.trans (b:=DQ (Ub (Ua (λb f a h=>z16 Dn (t16 b f a h))))) F5 (by simp only[i16,Bc]<;>rfl)
def k:Kc P_ gl:=⟨(226,⟨H.p,H.r,u11 FH⟩),co H func226 (λx=>Eq.trans (b:=u11 (FU x13) x) F5 (by simp only[e13]<;>rfl))⟩
end F226
namespace F196
def H:Hd:=⟨[.agg [.agg [Si,Si],Si,Ss,Sb,Sw,.lf (.list (.list (.int .u8))) none,Sb,Sz,Si]],[Si],.d,kt [F144.k,F226.k] false,[],f196⟩
def k:Kc P_ gl:=⟨(196,⟨H.p,H.r,u10 RB⟩),co H func196⟩
end F196
namespace F122
def Qs(a:LB):Option (LB):=
vo a (
some ([]:LB)) (
(Dt ([]:LB) a).bind λb=>
some b)
theorem UK: @Qs= @Cb:=by
  unfold Qs Cb
  repeat (refine funext λ_=>?_)
  repeat' first
    |with_reducible rfl
    |with_reducible refine Qu ?_ ?_
    |with_reducible refine Qg ?_ ?_ ?_
    |with_reducible refine Qv ?_ ?_ ?_ ?_
    |((with_reducible refine Xf ?_ ?_);focus (intro h;first|(subst h;rfl)|(simp only[h];rfl)|(simp[Dt,Ac,h];done)))
    |with_reducible refine Wk λx=>?_
    |with_reducible refine FW (λ_=>?_) (λ_=>?_)
    |(refine Jh (λh=>by simp only[h,Wx,Gb,Fw,ite_self]) (λx h=>?_);(try simp only[h,Gb]))
    |(refine Ms (λh=>?_) (λh=>?_)<;>simp only[h,if_true,if_false,Bool.false_eq_true])
def H:Hd:=⟨[Sb],[Ob 5],.d,kt [] false,[],f122⟩
def k:Kc P_ gl:=⟨(122,⟨H.p,H.r,Cb⟩),co H func122 (λx=>Eq.trans (b:=Qs x) F5 (by simp only[UK]<;>rfl))⟩
end F122
namespace F184
def Of(a:LX):Option (LX):=
vo a (
some ([]:LX)) (
(Dt ([]:LX) a).bind λb=>
some b)
theorem NH: @Of= @Dr:=by
  unfold Of Dr
  repeat (refine funext λ_=>?_)
  repeat' first
    |with_reducible rfl
    |with_reducible refine Qu ?_ ?_
    |with_reducible refine Qg ?_ ?_ ?_
    |with_reducible refine Qv ?_ ?_ ?_ ?_
    |((with_reducible refine Xf ?_ ?_);focus (intro h;first|(subst h;rfl)|(simp only[h];rfl)|(simp[Dt,Ac,h];done)))
    |with_reducible refine Wk λx=>?_
    |with_reducible refine FW (λ_=>?_) (λ_=>?_)
    |(refine Jh (λh=>by simp only[h,Wx,Gb,Fw,ite_self]) (λx h=>?_);(try simp only[h,Gb]))
    |(refine Ms (λh=>?_) (λh=>?_)<;>simp only[h,if_true,if_false,Bool.false_eq_true])
def H:Hd:=⟨[Sw],[Ow 21],.d,kt [] false,[],f184⟩
def k:Kc P_ gl:=⟨(184,⟨H.p,H.r,Dr⟩),co H func184 (λx=>Eq.trans (b:=Of x) F5 (by simp only[NH]<;>rfl))⟩
end F184
namespace F197
abbrev R_:=(Int×Int×Int×LB×LB×LX×(List LB)×LB×Bool×Int)
def H:Hd:=⟨[.agg [.agg [Si,Si],Si,Ss,Sb,Sw,.lf (.list (.list (.int .u8))) none,Sb,Sz,Si]],[.agg [.agg [Si,Si],Si,Ss,Ob 5,Ow 21,.lf (.list (.list (.int .u8))) (some 22),Ob 5,Sz,Si]],(.seq .d (.cut [1,2] [] .d (.seq .d (.seq .d (.cut [1,2,3] [] (.seq .d (.blk (.loop [1,2,3,26,27] [] .d))) .d))))),kt [F122.k,F184.k] false,[],f197⟩
def t6(w a:List LB)(b f g:Int)(h:LB)(k:Bool)(m:Int)(n:LB)(o:LX)(p:LB)(v:Int)(u:List LB):S:=⟨[(1,.ptr 0 []),(2,.ptr 1 []),(3,.own 2),(26,vi (Ac (WZ w a))),(27,vi v)],[.box 142 (.agg [.agg [vi b,vi f],vi g,vs h,.own 3,.own 4,.val (.list (.list (.int .u8))) a,.own 5,vt k,vi m]),.box 142 (.agg [.agg [vi 0,vi 0],vi 0,vs ([]:LB),.nils,.nils,.nils,.nils,vt false,vi 0]),.arr 22 (.list (.int .u8)) u,Ab 5 n,Aw 21 o,Ab 5 p],[]⟩
def z6:Nat->S->Option R_:=H.i P_ [r,r,r,r,l,r,d]
theorem i6(w a:List LB)(b f g:Int)(h:LB)(k:Bool)(m:Int)(n:LB)(o:LX)(p:LB):∀(q:Nat) (v:Int) (u:List LB),z6 q (t6 w a b f g h k m n o p v u)=Sd w a b f g h k m n o p q v u:=
 ind (λ_ _=>by kernel_rfl) λq ih v u=>Eq.trans (b:=FP pF (λv u=>(z6 q) (t6 w a b f g h k m n o p v u)) w a b f g h k m n o p v u) F5 (by simp only[ih]<;>rfl)
def k:Kc P_ gl:=⟨(197,⟨H.p,H.r,u10 XY⟩),co H func197 (λx=>Eq.trans (b:=u10 (UU (VG (λw a b f g h k m n o p v u=>z6 Dn (t6 w a b f g h k m n o p v u)))) x) F5 (by simp only[i6,Bc]<;>rfl))⟩
end F197
namespace F145
abbrev R_:=(Int×Int×Int×LB×LB×LX×(List LB)×LB×Bool×Int×Int×Int)
def H:Hd:=⟨[.agg [.agg [Si,Si],Si,Ss,Sb,Sw,.lf (.list (.list (.int .u8))) none,Sb,Sz,Si]],[.agg [.agg [Si,Si],Si,Ss,Ob 5,Ow 21,.lf (.list (.list (.int .u8))) (some 22),Ob 5,Sz,Si],Si,Si],(.seq .d (.seq .d (.seq .d (.cut [1,2,6,7] [] .d .d)))),kt [F170.k,F196.k,F197.k] false,[],f145⟩
def k:Kc P_ gl:=⟨(145,⟨H.p,H.r,u10 EV⟩),co H func145⟩
end F145
namespace F97
abbrev R_:=(LX×Int)
abbrev K_:=S->Option R_
def H:Hd:=⟨[Si,Sb],[Ow 21,Si],(.seq .d (.seq .d (.seq .d (.seq .d (.seq .d (.seq .d (.cut [10] [] (.seq .d (.blk (.loop [0,1,9,10,11] [⟨10,[],.own 21 (.int .i32)⟩] (.seq .d (.cut [0,1,9,10,11] [] (.blk (.seq .d (.seq .d (.cut [0,1,9,10,11,12] [] (.seq .d (.blk (.loop [0,1,9,10,11,12,53,54] [] .d))) .d)))) .d))))) .d))))))),kt [F120.k] false,[],f97⟩
def t25(a:Int)(b:LB)(f:Int)(g:LX)(k:Int32)(h:Int):S:=⟨[(0,vi a),(1,vb b),(9,vi (Bq a (8:Int))),(10,.own 0),(11,vi f),(12,vx k),(53,vi (Bq a (8:Int))),(54,vi h)],[Aw 21 g],[]⟩
def z25(Oq:K_):Nat->S->Option R_:=H.i P_ [r,r,r,r,r,r,l,r,d,(lp Oq),r,l,d,r,r,l,r,d]
def t16(a:Int)(b:LB)(f:Int)(g:LX):S:=⟨[(0,vi a),(1,vb b),(9,vi (Bq a (8:Int))),(10,.own 0),(11,vi f)],[Aw 21 g],[]⟩
def z16:Nat->S->Option R_:=H.i P_ [r,r,r,r,r,r,l,r,d]
def x25(Oq:K_)(a:Int)(b:LB)(f:Int)(g:LX)(k:Int32)(h:Int):Option R_:=H.e P_ [r,r,r,r,r,r,l,r,d,(lp Oq),r,l,d,r,r,l,r,d] (t25 a b f g k h)
theorem i25(Oq:K_)(a:Int)(b:LB)(f:Int)(g:LX):∀(q:Nat) (k:Int32) (h:Int),z25 Oq q (t25 a b f g k h)=Fk (λf g=>Oq (t16 a b f g)) a b f g q k h:=
 ind (λ_ _=>by kernel_rfl) λq ih k h=>Eq.trans (b:=Gu (Zl (λf g=>Oq (t16 a b f g)) a b) (λk h=>(z25 Oq q) (t25 a b f g k h)) a b f g k h) F5 (by simp only[ih]<;>rfl)
theorem e25(Oq:K_)(a:Int)(b:LB):x25 Oq a b=Nz (λf g=>Oq (t16 a b f g)) a b:=by funext f g k h;exact Eq.trans F5 ((i25 Oq a b f g Dn k h).trans (by rw[Bc];rfl))
theorem i16(a:Int)(b:LB):∀(q:Nat) (f:Int) (g:LX),z16 q (t16 a b f g)=Ew a b q f g:=
 ind (λ_ _=>by kernel_rfl) λq ih f g=>Eq.trans (b:=Gz (Kr (λf g=>(z16 q) (t16 a b f g)) a b) (x25 (z16 q) a b) eT a b f g) F5 (by simp only[e25,ih]<;>rfl)
def k:Kc P_ gl:=⟨(97,⟨H.p,H.r,u2 Nb⟩),co H func97 (λx=>Eq.trans (b:=u2 (QF (λa b f g=>z16 Dn (t16 a b f g))) x) F5 (by simp only[i16,Bc]<;>rfl))⟩
end F97
namespace F119
abbrev R_:=(UInt64×Int)
abbrev K_:=S->Option R_
def H:Hd:=⟨[Sq,Sb],[Sq,Si],(.seq .d (.seq .d (.cut [4,5] [] (.keep [0,1,4,5,9,10,11,12] true) .d))),kt [] false,[(173,(.seq .d (.cut [1] [] (.seq .d (.blk (.loop [0,1,9,10,11] [] .d))) .d))),(174,(.seq .d (.seq .d (.cut [1] [] (.seq .d (.blk (.loop [1,5] [] (.seq .d (.seq .d (.cut [1,5] [] (.blk (.seq .d (.seq .d (.cut [1,2,3,5] [] (.seq .d (.blk (.loop [1,2,3,5,11] [] .d))) .d)))) .d)))))) .d))))],f119⟩
def t27(a:LB)(b:UInt64)(f:LQ)(h:UInt64)(m:Int):S:=⟨[(0,.ptr 0 []),(1,vq h),(9,vb a),(10,vi (Ac a)),(11,vi m)],[.box 301 (.val (.vec 256 (.int .u64)) f)],[[(0,vq b),(1,vb a),(4,vq 0),(5,vi 0),(9,.ptr 0 []),(10,vq b),(11,vb a)]]⟩
def z27:Nat->S->Option R_:=H.i P_ [r,r,l,(call 3 173),r,l,r,d]
def t21(b:UInt64)(a:LB)(g:Int)(f:LQ)(k:UInt64)(n:Int):S:=⟨[(1,.ptr 0 []),(2,vi g),(3,vq k),(5,vi g),(11,vi n)],[.box 301 (.val (.vec 256 (.int .u64)) f)],[[(0,vq b),(1,vb a),(4,vq 0),(5,vi 0)]]⟩
def z21(Oq:K_):Nat->S->Option R_:=H.i P_ [r,r,l,(call 0 174),r,r,l,r,d,(lp Oq),r,r,l,d,r,r,l,r,d]
def t16(b:UInt64)(a:LB)(g:Int)(f:LQ):S:=⟨[(1,.ptr 0 []),(5,vi g)],[.box 301 (.val (.vec 256 (.int .u64)) f)],[[(0,vq b),(1,vb a),(4,vq 0),(5,vi 0)]]⟩
def z16:Nat->S->Option R_:=H.i P_ [r,r,l,(call 0 174),r,r,l,r,d]
def x27(a:LB)(b:UInt64)(f:LQ)(h:UInt64)(m:Int):Option R_:=H.e P_ [r,r,l,(call 3 173),r,l,r,d] (t27 a b f h m)
def x21(Oq:K_)(b:UInt64)(a:LB)(g:Int)(f:LQ)(k:UInt64)(n:Int):Option R_:=H.e P_ [r,r,l,(call 0 174),r,r,l,r,d,(lp Oq),r,r,l,d,r,r,l,r,d] (t21 b a g f k n)
theorem i27(a:LB)(b:UInt64)(f:LQ):∀(q:Nat) (h:UInt64) (m:Int),z27 q (t27 a b f h m)=Va a b f q h m:=
 ind (λ_ _=>by kernel_rfl) λq ih h m=>Eq.trans (b:=KI bF (λh m=>(z27 q) (t27 a b f h m)) a b f h m) F5 (by simp only[ih]<;>rfl)
theorem e27:x27=ZR:=by funext a b f h m;exact Eq.trans F5 ((i27 a b f Dn h m).trans (by rw[Bc];rfl))
theorem i21(Oq:K_)(b:UInt64)(a:LB)(g:Int)(f:LQ):∀(q:Nat) (k:UInt64) (n:Int),z21 Oq q (t21 b a g f k n)=Vs (λg f=>Oq (t16 b a g f)) b a g f q k n:=
 ind (λ_ _=>by kernel_rfl) λq ih k n=>Eq.trans (b:=IU (JS (λg f=>Oq (t16 b a g f)) b a) (λk n=>(z21 Oq q) (t21 b a g f k n)) b a g f k n) F5 (by simp only[ih]<;>rfl)
theorem e21(Oq:K_)(b:UInt64)(a:LB):x21 Oq b a=cH (λg f=>Oq (t16 b a g f)) b a:=by funext g f k n;exact Eq.trans F5 ((i21 Oq b a g f Dn k n).trans (by rw[Bc];rfl))
theorem i16(b:UInt64)(a:LB):∀(q:Nat) (g:Int) (f:LQ),z16 q (t16 b a g f)=Qx b a q g f:=
 ind (λ_ _=>by kernel_rfl) λq ih g f=>Eq.trans (b:=KL (x21 (z16 q) b a) (ZE x27) b a g f) F5 (by simp only[e21,e27,ih]<;>rfl)
def k:Kc P_ gl:=⟨(119,⟨H.p,H.r,u2 nT⟩),co H func119 (λx=>Eq.trans (b:=u2 (hH (λb a g f=>z16 Dn (t16 b a g f))) x) F5 (by simp only[i16,Bc]<;>rfl))⟩
end F119
namespace F65
def H:Hd:=⟨[Sb],[Sq,Si],.d,kt [F119.k] false,[],f65⟩
def k:Kc P_ gl:=⟨(65,⟨H.p,H.r,jQ⟩),co H func65⟩
end F65
namespace F66
abbrev R_:=LX
def H:Hd:=⟨[Sq],[.lf (.vec 16 (.int .i32)) none],(.seq .d (.seq .d (.cut [2,3] [] (.seq .d (.blk (.loop [0,2,3,5] [] .d))) .d))),kt [] false,[],f66⟩
def t4(f:UInt64)(a:Int)(b:LX):S:=⟨[(0,vq f),(2,.ptr 0 []),(3,.ptr 1 []),(5,vi a)],[.box 64 (.val (.vec 16 (.int .i32)) (List.replicate 16 (0:Int32))),.box 64 (.val (.vec 16 (.int .i32)) b)],[]⟩
def z4:Nat->S->Option R_:=H.i P_ [r,r,l,r,d]
theorem i4(f:UInt64):∀(q:Nat) (a:Int) (b:LX),z4 q (t4 f a b)=QG f q a b:=
 ind (λ_ _=>by kernel_rfl) λq ih a b=>Eq.trans (b:=oM Aak (λa b=>(z4 q) (t4 f a b)) f a b) F5 (by simp only[ih]<;>rfl)
def k:Kc P_ gl:=⟨(66,⟨H.p,H.r,Ahf⟩),co H func66 (λx=>Eq.trans (b:=Ada (λf a b=>z4 Dn (t4 f a b)) x) F5 (by simp only[i4,Bc]<;>rfl))⟩
end F66
namespace F30
def H:Hd:=⟨[Ss],[.lf (.vec 16 (.int .i32)) none,Si],.d,kt [F65.k,F66.k] false,[],f30⟩
def k:Kc P_ gl:=⟨(30,⟨H.p,H.r,Oa⟩),co H func30⟩
end F30
namespace F187
def H:Hd:=⟨[.agg [Si,Si],Sw],[Si],.d,kt [F67.k,F100.k] false,[],f187⟩
def k:Kc P_ gl:=⟨(187,⟨H.p,H.r,u3 RA⟩),co H func187⟩
end F187
namespace F183
def H:Hd:=⟨[Si,Sw],[Si],.d,kt [] false,[],f183⟩
def k:Kc P_ gl:=⟨(183,⟨H.p,H.r,u2 kB⟩),co H func183⟩
end F183
namespace F188
abbrev R_:=(LX×Int)
abbrev K_:=S->Option R_
def H:Hd:=⟨[Si,Sw],[Ow 21,Si],(.seq .d (.seq .d (.seq .d (.cut [7] [] (.seq .d (.blk (.loop [0,7,8] [] (.seq .d (.cut [0,7,8] [] (.blk (.keep [0,7,8,24,25,26,27,28,29] true)) .d))))) .d)))),kt [F183.k,F184.k] true,[(222,(.seq .d (.cut [0,2] [] (.seq .d (.blk (.loop [0,2,7,8] [] .d))) .d)))],f188⟩
def t17(b a f:Int)(g:LX):S:=⟨[(0,.view true 0 [] (.int .i32) a ((Ae a b)-a)),(2,vi (Aq ((Ae a b)-a) (1:Int))),(7,vi (Aq ((Ae a b)-a) (1:Int))),(8,vi f)],[Aw 21 g],[[(0,vi b),(7,.own 0),(8,vi a),(24,.own 0),(25,vi a),(26,vi a),(27,vi b),(28,vi (Ae a b)),(29,.view true 0 [] (.int .i32) a ((Ae a b)-a))]]⟩
def z17(VW:K_):Nat->S->Option R_:=H.i P_ [r,r,r,l,r,d,(lp VW),r,l,d,(call 6 222),r,l,r,d]
def t12(b a:Int)(h:LX):S:=⟨[(0,vi b),(7,.own 0),(8,vi a)],[Aw 21 h],[]⟩
def z12:Nat->S->Option R_:=H.i P_ [r,r,r,l,r,d]
def x17(VW:K_)(b a f:Int)(g:LX):Option R_:=H.e P_ [r,r,r,l,r,d,(lp VW),r,l,d,(call 6 222),r,l,r,d] (t17 b a f g)
theorem i17(VW:K_)(b a:Int):∀(q:Nat) (f:Int) (g:LX),z17 VW q (t17 b a f g)=HX (λa h=>VW (t12 b a h)) b a q f g:=
 ind (λ_ _=>by kernel_rfl) λq ih f g=>Eq.trans (b:=dI (qZ (λa h=>VW (t12 b a h)) b) (λf g=>(z17 VW q) (t17 b a f g)) b a f g) F5 (by simp only[ih]<;>rfl)
theorem e17(VW:K_)(b:Int):x17 VW b=ig (λa h=>VW (t12 b a h)) b:=by funext a f g;exact Eq.trans F5 ((i17 VW b a Dn f g).trans (by rw[Bc];rfl))
theorem i12(b:Int):∀(q:Nat) (a:Int) (h:LX),z12 q (t12 b a h)=IE b q a h:=
 ind (λ_ _=>by kernel_rfl) λq ih a h=>Eq.trans (b:=rE (x17 (z12 q) b) Y9 b a h) F5 (by simp only[e17,ih]<;>rfl)
def k:Kc P_ gl:=⟨(188,⟨H.p,H.r,u2 uz⟩),co H func188 (λx=>Eq.trans (b:=u2 (zS (λb a h=>z12 Dn (t12 b a h))) x) F5 (by simp only[i12,Bc]<;>rfl))⟩
end F188
namespace F179
abbrev R_:=(Int×LX×LX×Int)
def H:Hd:=⟨[Si,.lf (.vec 16 (.int .i32)) none],[.agg [Si,.lf (.vec 16 (.int .i32)) none,.lf (.vec 16 (.int .i32)) none],Si],(.seq .d (.seq .d (.seq (.seq .d (.blk (.cut [4,6,9,11] [] .d .d))) .d))),kt [] false,[],f179⟩
def k:Kc P_ gl:=⟨(179,⟨H.p,H.r,u2 K5⟩),co H func179⟩
end F179
namespace F128
def H:Hd:=⟨[Si,.lf (.vec 16 (.int .i32)) none],[.agg [Si,Sx,.agg [Si,.lf (.vec 16 (.int .i32)) none,.lf (.vec 16 (.int .i32)) none]],Si],.d,kt [F179.k] false,[],f128⟩
def k:Kc P_ gl:=⟨(128,⟨H.p,H.r,u2 Y1⟩),co H func128⟩
end F128
namespace F180
def H:Hd:=⟨[.agg [Si,Sx,.agg [Si,.lf (.vec 16 (.int .i32)) none,.lf (.vec 16 (.int .i32)) none]]],[Si],.d,kt [F179.k] false,[],f180⟩
def k:Kc P_ gl:=⟨(180,⟨H.p,H.r,u5 AO⟩),co H func180⟩
end F180
namespace F218
def H:Hd:=⟨[Si],[Si,Si],.d,kt [] false,[],f218⟩
def k:Kc P_ gl:=⟨(218,⟨H.p,H.r,sR⟩),co H func218⟩
end F218
namespace F219
def H:Hd:=⟨[Si,Sx],[Sx],.d,kt [] false,[],f219⟩
def k:Kc P_ gl:=⟨(219,⟨H.p,H.r,u2 dL⟩),co H func219⟩
end F219
namespace F181
def H:Hd:=⟨[Si,Sx],[Sx,Si],.d,kt [F218.k,F219.k] false,[],f181⟩
def k:Kc P_ gl:=⟨(181,⟨H.p,H.r,u2 AP⟩),co H func181⟩
end F181
namespace F240
def H:Hd:=⟨[.agg [Si,.lf (.vec 16 (.int .i32)) none,.lf (.vec 16 (.int .i32)) none]],[Si],.d,kt [] false,[],f240⟩
def k:Kc P_ gl:=⟨(240,⟨H.p,H.r,u3 PZ⟩),co H func240⟩
end F240
namespace F220
abbrev R_:=(Int32×Int)
def H:Hd:=⟨[.agg [Si,.lf (.vec 16 (.int .i32)) none,.lf (.vec 16 (.int .i32)) none]],[Sx,Si],(.seq .d (.seq .d (.seq .d (.cut [1,5] [] (.seq .d (.blk (.loop [1,5,18,19] [] .d))) .d)))),kt [F240.k] false,[],f220⟩
def t4(b:LX)(a:Int)(f:LX)(h:Int32)(g:Int):S:=⟨[(1,.ptr 0 []),(5,vx h),(18,.val (.vec 16 (.int .i32)) b),(19,vi g)],[.box 200 (.agg [vi a,.val (.vec 16 (.int .i32)) b,.val (.vec 16 (.int .i32)) f])],[]⟩
def z4:Nat->S->Option R_:=H.i P_ [r,r,r,l,r,d]
theorem i4(b:LX)(a:Int)(f:LX):∀(q:Nat) (h:Int32) (g:Int),z4 q (t4 b a f h g)=Ye b a f q h g:=
 ind (λ_ _=>by kernel_rfl) λq ih h g=>Eq.trans (b:=RH gO (λh g=>(z4 q) (t4 b a f h g)) b a f h g) F5 (by simp only[ih]<;>rfl)
def k:Kc P_ gl:=⟨(220,⟨H.p,H.r,u3 bB⟩),co H func220 (λx=>Eq.trans (b:=u3 (gJ (λb a f h g=>z4 Dn (t4 b a f h g))) x) F5 (by simp only[i4,Bc]<;>rfl))⟩
end F220
namespace F247
def H:Hd:=⟨[Si],[Sx],.d,kt [] false,[],f247⟩
def k:Kc P_ gl:=⟨(247,⟨H.p,H.r,jK⟩),co H func247⟩
end F247
namespace F241
abbrev R_:=(Int×LX×LX×Int)
def H:Hd:=⟨[.agg [Si,.lf (.vec 16 (.int .i32)) none,.lf (.vec 16 (.int .i32)) none],Sx],[.agg [Si,.lf (.vec 16 (.int .i32)) none,.lf (.vec 16 (.int .i32)) none],Si],(.seq .d (.seq .d (.seq .d (.cut [2,4] [] (.seq .d (.blk (.loop [1,2,4,19,20] [] .d))) .d)))),kt [F240.k,F247.k] false,[],f241⟩
def t4(h:Int32)(f:LX)(g a:Int)(b:LX):S:=⟨[(1,vx h),(2,.ptr 0 []),(4,.ptr 1 []),(19,.val (.vec 16 (.int .i32)) f),(20,vi a)],[.box 200 (.agg [vi g,.val (.vec 16 (.int .i32)) b,.val (.vec 16 (.int .i32)) f]),.box 200 (.agg [vi 0,.val (.vec 16 (.int .i32)) (List.replicate 16 (0:Int32)),.val (.vec 16 (.int .i32)) (List.replicate 16 (0:Int32))])],[]⟩
def z4:Nat->S->Option R_:=H.i P_ [r,r,r,l,r,d]
theorem i4(h:Int32)(f:LX)(g:Int):∀(q:Nat) (a:Int) (b:LX),z4 q (t4 h f g a b)=Xx h f g q a b:=
 ind (λ_ _=>by kernel_rfl) λq ih a b=>Eq.trans (b:=RI yH (λa b=>(z4 q) (t4 h f g a b)) h f g a b) F5 (by simp only[ih]<;>rfl)
def k:Kc P_ gl:=⟨(241,⟨H.p,H.r,u4 oN⟩),co H func241 (λx=>Eq.trans (b:=u4 (gY (λh f g a b=>z4 Dn (t4 h f g a b))) x) F5 (by simp only[i4,Bc]<;>rfl))⟩
end F241
namespace F242
def fY(j2:Int32->Int->LX->LX->Option (Int×LX×LX×Int))(b:Int)(f a:LX)(g:Int32):Option (Int×LX×LX×Int):=
(PZ b f a).bind λh=>
if(Bg h 0)then
some (0,(List.replicate 16 (0:Int32)),(List.replicate 16 (0:Int32)),h)
else
both (
(jT 16 1 16).bind λ_=>
(jT 16 0 16).bind λ_=>
j2 g b f a) [
(jT 16 0 16).bind λ_=>
(jT 16 1 16).bind λ_=>
j2 g b f a]
theorem X5: @fY= @XU:=by
  unfold fY XU
  repeat (refine funext λ_=>?_)
  repeat' first
    |with_reducible rfl
    |with_reducible refine Qu ?_ ?_
    |with_reducible refine Qg ?_ ?_ ?_
    |with_reducible refine Qv ?_ ?_ ?_ ?_
    |((with_reducible refine Xf ?_ ?_);focus (intro h;first|(subst h;rfl)|(simp only[h];rfl)|(simp[Dt,Ac,h];done)))
    |with_reducible refine Wk λx=>?_
    |with_reducible refine FW (λ_=>?_) (λ_=>?_)
    |(refine Jh (λh=>by simp only[h,Wx,Gb,Fw,ite_self]) (λx h=>?_);(try simp only[h,Gb]))
    |(refine Ms (λh=>?_) (λh=>?_)<;>simp only[h,if_true,if_false,Bool.false_eq_true])
abbrev R_:=(Int×LX×LX×Int)
def H:Hd:=⟨[.agg [Si,.lf (.vec 16 (.int .i32)) none,.lf (.vec 16 (.int .i32)) none],Sx],[.agg [Si,.lf (.vec 16 (.int .i32)) none,.lf (.vec 16 (.int .i32)) none],Si],(.seq .d (.seq .d (.cut [1,2,4] [] .d .d))),kt [F240.k] false,[],f242⟩
def k:Kc P_ gl:=⟨(242,⟨H.p,H.r,u4 wR⟩),co H func242 (λx=>Eq.trans (b:=u4 (fY nL) x) F5 (by simp only[X5]<;>rfl))⟩
end F242
namespace F221
def H:Hd:=⟨[.agg [Si,.lf (.vec 16 (.int .i32)) none,.lf (.vec 16 (.int .i32)) none],Sx,Sx],[.agg [Si,.lf (.vec 16 (.int .i32)) none,.lf (.vec 16 (.int .i32)) none]],.d,kt [F241.k,F242.k] false,[],f221⟩
def k:Kc P_ gl:=⟨(221,⟨H.p,H.r,u5 ZG⟩),co H func221⟩
end F221
namespace F223
def H:Hd:=⟨[.agg [Si,.lf (.vec 16 (.int .i32)) none,.lf (.vec 16 (.int .i32)) none],Sx],[Sx,.agg [Si,.lf (.vec 16 (.int .i32)) none,.lf (.vec 16 (.int .i32)) none],Si],.d,kt [F220.k,F221.k] false,[],f223⟩
def k:Kc P_ gl:=⟨(223,⟨H.p,H.r,u4 fX⟩),co H func223⟩
end F223
namespace F189
def MO(a:Int)(b:Int32)(f:Int)(g h:LX)(k:Int32):Option (Int32×Int×Int32×Int×LX×LX×Int):=
(AO a b f g h).bind λm=>
if(Bg m 0)then
some (0,0,0,0,(List.replicate 16 (0:Int32)),(List.replicate 16 (0:Int32)),m)
else
(AP a b).bind λ(n,y)=>
(fX f g h (Aq k n)).bind λ(o,p,u,v,w)=>
bo (
some (o,a,k,p,u,v,w))
theorem tW: @MO= @Xv:=by
  unfold MO Xv;simp only[lB,OR,QM]
def H:Hd:=⟨[.agg [Si,Sx,.agg [Si,.lf (.vec 16 (.int .i32)) none,.lf (.vec 16 (.int .i32)) none]],Sx],[Sx,.agg [Si,Sx,.agg [Si,.lf (.vec 16 (.int .i32)) none,.lf (.vec 16 (.int .i32)) none]],Si],(.seq .d (.seq .d (.seq .d (.seq .d (.seq (.mode false) .d))))),kt [F180.k,F181.k,F223.k] false,[],f189⟩
def k:Kc P_ gl:=⟨(189,⟨H.p,H.r,u6 Xv⟩),co H func189 (λx=>Eq.trans (b:=u6 MO x) F5 (by simp only[tW]<;>rfl))⟩
end F189
namespace F190
def H:Hd:=⟨[Sx],[Su],.d,kt [] false,[],f190⟩
def k:Kc P_ gl:=⟨(190,⟨H.p,H.r,vR⟩),co H func190⟩
end F190
namespace F137
abbrev R_:=(LU×Int)
def H:Hd:=⟨[.agg [Si,Si],.lf (.vec 16 (.int .i32)) none,Sw],[Ov 134,Si],(.seq .d (.seq .d (.seq .d (.seq .d (.seq .d (.cut [3,9,11] [] (.seq .d (.blk (.loop [3,4,9,11,36] [] .d))) (.seq .d (.cut [13] [] (.seq .d (.blk (.loop [3,11,13,49,50,51] [⟨13,[],.own 134 (.int .u32)⟩] .d))) .d)))))))),kt [F128.k,F187.k,F188.k,F189.k,F190.k] false,[],f137⟩
def t10(b:LX)(a f g:Int)(k:List (Int×Int32×(Int×LX×LX×Unit)×Unit))(h:LU):S:=⟨[(3,.ptr 0 []),(11,.ptr 1 []),(13,.own 2),(49,.own 3),(50,vi (Ac b)),(51,vi g)],[.box 63 (.agg [vi a,vi f]),.box 203 (.val (.vec 6 (.cons (.int .i64) (.cons (.int .i32) (.cons (.cons (.int .i64) (.cons (.vec 16 (.int .i32)) (.cons (.vec 16 (.int .i32)) .nil))) .nil)))) k),Av 134 h,Aw 21 b],[]⟩
def z10:Nat->S->Option R_:=H.i P_ [r,r,r,r,r,r,r,l,r,d]
def t7(a f:Int)(n b:LX)(o:Int)(m:List (Int×Int32×(Int×LX×LX×Unit)×Unit)):S:=⟨[(3,.ptr 0 []),(4,.ptr 1 []),(9,.own 2),(11,.ptr 3 []),(36,vi o)],[.box 63 (.agg [vi a,vi f]),.box 64 (.val (.vec 16 (.int .i32)) n),Aw 21 b,.box 203 (.val (.vec 6 (.cons (.int .i64) (.cons (.int .i32) (.cons (.cons (.int .i64) (.cons (.vec 16 (.int .i32)) (.cons (.vec 16 (.int .i32)) .nil))) .nil)))) m)],[]⟩
def z7:Nat->S->Option R_:=H.i P_ [r,r,r,r,r,l,r,d]
def x10(b:LX)(a f g:Int)(k:List (Int×Int32×(Int×LX×LX×Unit)×Unit))(h:LU):Option R_:=H.e P_ [r,r,r,r,r,r,r,l,r,d] (t10 b a f g k h)
theorem i10(b:LX)(a f:Int):∀(q:Nat) (g:Int) (k:List (Int×Int32×(Int×LX×LX×Unit)×Unit)) (h:LU),z10 q (t10 b a f g k h)=Mq b a f q g k h:=
 ind (λ_ _ _=>by kernel_rfl) λq ih g k h=>Eq.trans (b:=Xe cT (λg k h=>(z10 q) (t10 b a f g k h)) b a f g k h) F5 (by simp only[ih]<;>rfl)
theorem e10:x10=ZI:=by funext b a f g k h;exact Eq.trans F5 ((i10 b a f Dn g k h).trans (by rw[Bc];rfl))
theorem i7(a f:Int)(n b:LX):∀(q:Nat) (o:Int) (m:List (Int×Int32×(Int×LX×LX×Unit)×Unit)),z7 q (t7 a f n b o m)=KM a f n b q o m:=
 ind (λ_ _=>by kernel_rfl) λq ih o m=>Eq.trans (b:=dM (dF x10) (λo m=>(z7 q) (t7 a f n b o m)) a f n b o m) F5 (by simp only[e10,ih]<;>rfl)
def k:Kc P_ gl:=⟨(137,⟨H.p,H.r,u4 JW⟩),co H func137 (λx=>Eq.trans (b:=u4 (JX (λa f n b o m=>z7 Dn (t7 a f n b o m))) x) F5 (by simp only[i7,Bc]<;>rfl))⟩
end F137
namespace F123
def H:Hd:=⟨[],[.agg [Si,Si,Sq,Sq]],.d,kt [] false,[],f123⟩
def k:Kc P_ gl:=⟨(123,⟨H.p,H.r,λ_=>D4⟩),co H func123⟩
end F123
namespace F138
abbrev R_:=((List (Int×Int×UInt64×UInt64×Unit)))
def H:Hd:=⟨[],[.lf (.vec 6 (.cons (.int .i64) (.cons (.int .i64) (.cons (.int .u64) (.cons (.int .u64) .nil))))) none],(.seq .d (.seq .d (.cut [0,1] [] (.seq .d (.blk (.loop [0,1,3] [] .d))) .d))),kt [F123.k] false,[],f138⟩
def t4(b:Int)(a:List (Int×Int×UInt64×UInt64×Unit)):S:=⟨[(0,.ptr 0 []),(1,.ptr 1 []),(3,vi b)],[.box 192 (.val (.vec 6 (.cons (.int .i64) (.cons (.int .i64) (.cons (.int .u64) (.cons (.int .u64) .nil))))) (List.replicate 6 ((0:Int),(0:Int),(0:UInt64),(0:UInt64),()))),.box 192 (.val (.vec 6 (.cons (.int .i64) (.cons (.int .i64) (.cons (.int .u64) (.cons (.int .u64) .nil))))) a)],[]⟩
def z4:Nat->S->Option R_:=H.i P_ [r,r,l,r,d]
theorem i4:∀(q:Nat) (b:Int) (a:List (Int×Int×UInt64×UInt64×Unit)),z4 q (t4 b a)=II q b a:=
 ind (λ_ _=>by kernel_rfl) λq ih b a=>Eq.trans (b:=fT fL (λb a=>(z4 q) (t4 b a)) b a) F5 (by simp only[ih]<;>rfl)
def k:Kc P_ gl:=⟨(138,⟨H.p,H.r,λ_=>LH⟩),co H func138 (λx=>Eq.trans (b:=JP (λb a=>z4 Dn (t4 b a))) F5 (by simp only[i4,Bc]<;>rfl))⟩
end F138
namespace F126
def H:Hd:=⟨[.agg [Sb,Si]],[Si],.d,kt [] false,[],f126⟩
def k:Kc P_ gl:=⟨(126,⟨H.p,H.r,u2 Le⟩),co H func126⟩
end F126
namespace F176
def ZZ(j4:Int->Int->UInt64->UInt64->Option Int)(a b:Int)(f g:UInt64):Option Int:=
both (
bo (
j4 a b f g)) [
j4 a b f g]
theorem H2: @ZZ= @QZ:=by
  unfold ZZ QZ
  repeat (refine funext λ_=>?_)
  repeat' first
    |with_reducible rfl
    |with_reducible refine Qu ?_ ?_
    |with_reducible refine Qg ?_ ?_ ?_
    |with_reducible refine Qv ?_ ?_ ?_ ?_
    |((with_reducible refine Xf ?_ ?_);focus (intro h;first|(subst h;rfl)|(simp only[h];rfl)|(simp[Dt,Ac,h];done)))
    |with_reducible refine Wk λx=>?_
    |with_reducible refine FW (λ_=>?_) (λ_=>?_)
    |(refine Jh (λh=>by simp only[h,Wx,Gb,Fw,ite_self]) (λx h=>?_);(try simp only[h,Gb]))
    |(refine Ms (λh=>?_) (λh=>?_)<;>simp only[h,if_true,if_false,Bool.false_eq_true])
def YU(j3:Int->Int->UInt64->UInt64->Option Int)(a b:Int)(f g:UInt64):Option Int:=
both (
bo (
j3 a b f g)) [
j3 a b f g]
theorem J3: @YU= @RJ:=by
  unfold YU RJ
  repeat (refine funext λ_=>?_)
  repeat' first
    |with_reducible rfl
    |with_reducible refine Qu ?_ ?_
    |with_reducible refine Qg ?_ ?_ ?_
    |with_reducible refine Qv ?_ ?_ ?_ ?_
    |((with_reducible refine Xf ?_ ?_);focus (intro h;first|(subst h;rfl)|(simp only[h];rfl)|(simp[Dt,Ac,h];done)))
    |with_reducible refine Wk λx=>?_
    |with_reducible refine FW (λ_=>?_) (λ_=>?_)
    |(refine Jh (λh=>by simp only[h,Wx,Gb,Fw,ite_self]) (λx h=>?_);(try simp only[h,Gb]))
    |(refine Ms (λh=>?_) (λh=>?_)<;>simp only[h,if_true,if_false,Bool.false_eq_true])
abbrev R_:=Int
def H:Hd:=⟨[.agg [Si,Si,Sq,Sq]],[Si],(.seq .d (.seq .d (.cut [1,3] [] (.mode false) (.cut [1,3] [] (.mode false) .d)))),kt [] false,[],f176⟩
def x3(a b:Int)(f g:UInt64):Option R_:=H.e P_ [r,r,r] ⟨[(1,.ptr 0 []),(3,.ptr 1 [])],[.box 191 (.agg [vi a,vi b,vq f,vq g]),.box 191 (.agg [vi (Iu (H5 a (0:Int)) (24:Int)),vi (Iu (H5 b (0:Int)) (24:Int)),vq f,vq g])],[]⟩
theorem e3:x3=iD:=Eq.trans (b:=ZZ gA) F5 (by rw[H2];rfl)
def k:Kc P_ gl:=⟨(176,⟨H.p,H.r,u4 bV⟩),co H func176 (λx=>Eq.trans (b:=u4 (YU x3) x) F5 (by rw[J3];simp only[e3]<;>rfl))⟩
end F176
namespace F191
def H:Hd:=⟨[.agg [Si,Si,Sq,Sq],Su],[Si,Su],.d,kt [] false,[],f191⟩
def k:Kc P_ gl:=⟨(191,⟨H.p,H.r,u5 QH⟩),co H func191⟩
end F191
namespace F224
def H:Hd:=⟨[.agg [Sb,Si]],[.agg [Ob 5,Si]],.d,kt [F122.k] false,[],f224⟩
def k:Kc P_ gl:=⟨(224,⟨H.p,H.r,u2 jP⟩),co H func224⟩
end F224
namespace F192
abbrev R_:=(LB×Int×Int)
abbrev K_:=S->Option R_
def H:Hd:=⟨[.agg [Sb,Si],Sq,Si],[.agg [Ob 5,Si],Si],(.seq .d (.seq .d (.seq .d (.cut [3,6] [] (.keep [1,2,3,6,40,41] true) .d)))),kt [F126.k,F224.k] false,[(175,(.blk (.loop [0,1,2] [] (.seq .d (.blk (.cut [0,1,2] [] .d (.seq .d (.cut [0,1,2,7] [] .d .d))))))))],f192⟩
def t15(b:UInt64)(a:Int)(m:UInt64)(h f:Int)(o:LB):S:=⟨[(0,.ptr 0 []),(1,vq m),(2,vi h)],[.box 113 (.agg [.own 2,vi f]),.box 113 (.agg [.nils,vi 0]),Ab 5 o],[[(1,vq b),(2,vi a),(3,.ptr 0 []),(6,.ptr 1 []),(40,vq b),(41,vi a)]]⟩
def z15:Nat->S->Option R_:=H.i P_ [r,r,r,l,(call 2 175),d]
def t22(b:UInt64)(a:Int)(n:UInt64)(k g:Int)(p:LB):S:=⟨[(0,.ptr 0 []),(1,vq n),(2,vi k)],[.box 113 (.agg [.own 2,vi g]),.box 113 (.agg [.nils,vi 0]),Ab 5 p],[[(1,vq b),(2,vi a),(3,.ptr 0 []),(6,.ptr 1 []),(40,vq b),(41,vi a)]]⟩
def z22:Nat->S->Option R_:=H.i P_ [r,r,r,l,(call 2 175),d]
theorem i15(b:UInt64)(a:Int):∀(q:Nat) (m:UInt64) (h f:Int) (o:LB),z15 q (t15 b a m h f o)=Sj b a q m h f o:=
 ind (λ_ _ _ _=>by kernel_rfl) λq ih m h f o=>Eq.trans (b:=XR (XQ (λm h f o=>(z15 q) (t15 b a m h f o)) b a) lZ b a m h f o) F5 (by simp only[ih]<;>rfl)
theorem i22(b:UInt64)(a:Int):∀(q:Nat) (n:UInt64) (k g:Int) (p:LB),z22 q (t22 b a n k g p)=mV b a q n k g p:=
 ind (λ_ _ _ _=>by kernel_rfl) λq ih n k g p=>Eq.trans (b:=E0 (J5 (λn k g p=>(z22 q) (t22 b a n k g p)) b a) M9 b a n k g p) F5 (by simp only[ih]<;>rfl)
def k:Kc P_ gl:=⟨(192,⟨H.p,H.r,u4 bK⟩),co H func192 (λx=>Eq.trans (b:=u4 (rK (λb a m h f o=>z15 Dn (t15 b a m h f o)) (λb a n k g p=>z22 Dn (t22 b a n k g p))) x) F5 (by simp only[i15,i22,Bc]<;>rfl))⟩
end F192
namespace F216
def H:Hd:=⟨[Su,Si],[Sz],.d,kt [] false,[],f216⟩
def k:Kc P_ gl:=⟨(216,⟨H.p,H.r,u2 CV⟩),co H func216⟩
end F216
namespace F243
def H:Hd:=⟨[Si],[Si,Si],.d,kt [] false,[],f243⟩
def k:Kc P_ gl:=⟨(243,⟨H.p,H.r,nW⟩),co H func243⟩
end F243
namespace F225
def H:Hd:=⟨[.agg [Sb,Si],Si],[.agg [Ob 5,Si],Si],.d,kt [F126.k,F192.k,F243.k] false,[],f225⟩
def k:Kc P_ gl:=⟨(225,⟨H.p,H.r,u3 fG⟩),co H func225⟩
end F225
namespace F193
abbrev R_:=(LB×Int×Int)
def H:Hd:=⟨[.agg [Sb,Si],Su,Si],[.agg [Ob 5,Si],Si],(.seq .d (.seq .d (.seq .d (.seq .d (.cut [3,6,9,10,11] [] .d .d))))),kt [F126.k,F192.k,F216.k,F225.k] false,[],f193⟩
def k:Kc P_ gl:=⟨(193,⟨H.p,H.r,u4 mZ⟩),co H func193⟩
end F193
namespace F139
def VN(k u n:Int)(a:UInt64)(b:UInt32)(o:UInt64)(m:LB):Option (LB×Int×Int×Int×UInt64×UInt64×Int):=
(λaf:Option (LB×Int×Int×Int×UInt64×UInt64×Int)=>
both (
bo (
af)) [
af]) (
some (m,k,u,n,(Ae a (Aq (Ad b:UInt64) (Cw a (GI.toZ (4:UInt64)).toNat))),o,0))
theorem zY: @VN= @MZ:=by
  unfold VN MZ
  try simp only[lB,OR,QM]
  all_goals
    repeat (refine funext λ_=>?_)
    repeat' first
      |with_reducible rfl
      |with_reducible refine Qu ?_ ?_
      |with_reducible refine Qg ?_ ?_ ?_
      |with_reducible refine Qv ?_ ?_ ?_ ?_
      |((with_reducible refine Xf ?_ ?_);focus (intro h;first|(subst h;rfl)|(simp only[h];rfl)|(simp[Dt,Ac,h];done)))
      |with_reducible refine Wk λx=>?_
      |with_reducible refine FW (λ_=>?_) (λ_=>?_)
      |(refine Jh (λh=>by simp only[h,Wx,Gb,Fw,ite_self]) (λx h=>?_);(try simp only[h,Gb]))
      |(refine Ms (λh=>?_) (λh=>?_)<;>simp only[h,if_true,if_false,Bool.false_eq_true])
abbrev R_:=(LB×Int×Int×Int×UInt64×UInt64×Int)
def H:Hd:=⟨[.agg [Sb,Si],.agg [Si,Si,Sq,Sq],Su],[.agg [Ob 5,Si],.agg [Si,Si,Sq,Sq],Si],(.seq .d (.cut [2,3,4,6,7] [] .d (.seq .d (.seq .d (.cut [2,3,4,6,7,11] [] .d (.seq .d (.cut [3,4,6,7] [] (.keep [2,3,4,6,7,65] true) (.seq (.mode false) .d)))))))),kt [F126.k,F176.k,F191.k,F192.k,F193.k] false,[(178,(.seq .d (.seq .d (.seq .d (.blk (.cut [0,1,4] [] (.blk (.seq .d (.keep [0,1,4,6,18,19,20,21,22,23,24,25] true))) (.cut [] [] (.keep [0,1,4,27,28,29,30,31,32,33,34] true) .d))))))),(217,.d)],f139⟩
def x10(k u n:Int)(a:UInt64)(b:UInt32)(o:UInt64)(m:LB):Option R_:=H.e P_ [r,r,r,r,r,r,r] ⟨[(3,.ptr 0 []),(4,.ptr 1 []),(6,.ptr 2 []),(7,.ptr 3 [])],[.box 113 (.agg [.own 4,vi k]),.box 191 (.agg [vi u,vi n,vq (Ae a (Aq (Ad b:UInt64) (Cw a (GI.toZ (4:UInt64)).toNat))),vq o]),.box 113 (.agg [.nils,vi 0]),.box 191 (.agg [vi 0,vi 0,vq 0,vq 0]),Ab 5 m],[]⟩
def x8(b:UInt32)(f:Int)(a:UInt64)(k:Int)(m:LB)(n:Int)(o:UInt64):Option R_:=H.e P_ [r,r,r,r,r,r,l,(call 1 178),r,r,r,d,r] ⟨[(0,.ptr 0 []),(1,vu b),(4,.fn 217 [])],[.box 191 (.agg [vi f,vi n,vq a,vq o]),.box 113 (.agg [.own 4,vi k]),.box 113 (.agg [.nils,vi 0]),.box 191 (.agg [vi 0,vi 0,vq 0,vq 0]),Ab 5 m],[[(2,vu b),(3,.ptr 1 []),(4,.ptr 0 []),(6,.ptr 2 []),(7,.ptr 3 []),(65,vu b)]]⟩
theorem e10:x10=cI:=Eq.trans (b:=VN) F5 (by rw[zY];rfl)
theorem e8:x8=EG:=Eq.trans (b:=gG (gT x10)) F5 (by simp only[e10]<;>rfl)
def k:Kc P_ gl:=⟨(139,⟨H.p,H.r,u7 mM⟩),co H func139 (λx=>Eq.trans (b:=u7 (iJ (iB (gC x8))) x) F5 (by simp only[e8]<;>rfl))⟩
end F139
namespace F143
abbrev R_:=(UInt32×Int)
abbrev K_:=S->Option R_
def H:Hd:=⟨[Su,Sb],[Su,Si],(.seq .d (.seq .d (.cut [0,1,6] [] (.keep [0,1,6,12] true) (.cut [0] [] (.seq .d (.blk (.loop [0,6,13,14,15] [] .d))) .d)))),kt [] false,[(195,(.seq .d (.seq .d (.cut [1] [] (.seq .d (.blk (.loop [1,5] [] (.seq .d (.seq .d (.cut [1,5] [] (.blk (.seq .d (.seq .d (.cut [1,2,3,5] [] (.seq .d (.blk (.loop [1,2,3,5,10] [] .d))) .d)))) .d)))))) .d))))],f143⟩
def t28(a:LB)(b:LU)(h:UInt32)(m:Int):S:=⟨[(0,vu h),(6,.ptr 0 []),(13,vb a),(14,vi (Ac a)),(15,vi m)],[.box 313 (.val (.vec 256 (.int .u32)) b)],[]⟩
def z28:Nat->S->Option R_:=H.i P_ [r,r,r,l,r,d]
def t21(f:UInt32)(a:LB)(g:Int)(b:LU)(k:UInt32)(n:Int):S:=⟨[(1,.ptr 0 []),(2,vi g),(3,vu k),(5,vi g),(10,vi n)],[.box 313 (.val (.vec 256 (.int .u32)) b)],[[(0,vu f),(1,vb a)]]⟩
def z21(Oq:K_):Nat->S->Option R_:=H.i P_ [r,r,l,(call 0 195),r,r,l,r,d,(lp Oq),r,r,l,d,r,r,l,r,d]
def t16(f:UInt32)(a:LB)(g:Int)(b:LU):S:=⟨[(1,.ptr 0 []),(5,vi g)],[.box 313 (.val (.vec 256 (.int .u32)) b)],[[(0,vu f),(1,vb a)]]⟩
def z16:Nat->S->Option R_:=H.i P_ [r,r,l,(call 0 195),r,r,l,r,d]
def x28(a:LB)(b:LU)(h:UInt32)(m:Int):Option R_:=H.e P_ [r,r,r,l,r,d] (t28 a b h m)
def x21(Oq:K_)(f:UInt32)(a:LB)(g:Int)(b:LU)(k:UInt32)(n:Int):Option R_:=H.e P_ [r,r,l,(call 0 195),r,r,l,r,d,(lp Oq),r,r,l,d,r,r,l,r,d] (t21 f a g b k n)
theorem i28(a:LB)(b:LU):∀(q:Nat) (h:UInt32) (m:Int),z28 q (t28 a b h m)=Vi a b q h m:=
 ind (λ_ _=>by kernel_rfl) λq ih h m=>Eq.trans (b:=MG ZT (λh m=>(z28 q) (t28 a b h m)) a b h m) F5 (by simp only[ih]<;>rfl)
theorem e28:x28=aV:=by funext a b h m;exact Eq.trans F5 ((i28 a b Dn h m).trans (by rw[Bc];rfl))
theorem i21(Oq:K_)(f:UInt32)(a:LB)(g:Int)(b:LU):∀(q:Nat) (k:UInt32) (n:Int),z21 Oq q (t21 f a g b k n)=Us (λg b=>Oq (t16 f a g b)) f a g b q k n:=
 ind (λ_ _=>by kernel_rfl) λq ih k n=>Eq.trans (b:=JQ (KG (λg b=>Oq (t16 f a g b)) f a) (λk n=>(z21 Oq q) (t21 f a g b k n)) f a g b k n) F5 (by simp only[ih]<;>rfl)
theorem e21(Oq:K_)(f:UInt32)(a:LB):x21 Oq f a=ZA (λg b=>Oq (t16 f a g b)) f a:=by funext g b k n;exact Eq.trans F5 ((i21 Oq f a g b Dn k n).trans (by rw[Bc];rfl))
theorem i16(f:UInt32)(a:LB):∀(q:Nat) (g:Int) (b:LU),z16 q (t16 f a g b)=Qk f a q g b:=
 ind (λ_ _=>by kernel_rfl) λq ih g b=>Eq.trans (b:=MI (x21 (z16 q) f a) (ZX (aH x28)) f a g b) F5 (by simp only[e21,e28,ih]<;>rfl)
def k:Kc P_ gl:=⟨(143,⟨H.p,H.r,u2 oD⟩),co H func143 (λx=>Eq.trans (b:=u2 (gR (λf a g b=>z16 Dn (t16 f a g b))) x) F5 (by simp only[i16,Bc]<;>rfl))⟩
end F143
namespace F84
def H:Hd:=⟨[Sb],[Su,Si],.d,kt [F143.k] false,[],f84⟩
def k:Kc P_ gl:=⟨(84,⟨H.p,H.r,BW⟩),co H func84⟩
end F84
namespace F142
def H:Hd:=⟨[Sq,Si],[Sz],.d,kt [] false,[],f142⟩
def k:Kc P_ gl:=⟨(142,⟨H.p,H.r,u2 uw⟩),co H func142⟩
end F142
namespace F83
abbrev R_:=(LB×Int)
def H:Hd:=⟨[Sq,Si],[Ob 5,Si],(.seq .d (.seq .d (.seq .d (.seq .d (.cut [6] [] (.seq .d (.blk (.loop [0,6,21,22] [] .d))) .d))))),kt [F142.k] false,[],f83⟩
def t4(f:UInt64)(g:LB)(a:Int)(b:LB):S:=⟨[(0,vq f),(6,.own 0),(21,vi (Ac g)),(22,vi a)],[Ab 5 b],[]⟩
def z4:Nat->S->Option R_:=H.i P_ [r,r,r,r,l,r,d]
theorem i4(f:UInt64)(g:LB):∀(q:Nat) (a:Int) (b:LB),z4 q (t4 f g a b)=HW f g q a b:=
 ind (λ_ _=>by kernel_rfl) λq ih a b=>Eq.trans (b:=eC rD (λa b=>(z4 q) (t4 f g a b)) f g a b) F5 (by simp only[ih]<;>rfl)
def k:Kc P_ gl:=⟨(83,⟨H.p,H.r,u2 Qf⟩),co H func83 (λx=>Eq.trans (b:=u2 (sZ (λf g a b=>z4 Dn (t4 f g a b))) x) F5 (by simp only[i4,Bc]<;>rfl))⟩
end F83
namespace F141
abbrev R_:=LB
def H:Hd:=⟨[.lf (.list (.list (.int .u8))) none],[Ob 5],(.seq .d (.seq .d (.cut [0,3] [] (.seq .d (.blk (.loop [0,3,9,10,11] [] .d))) (.cut [0,6] [⟨6,[],.own 5 (.int .u8)⟩] (.keep [0,3,6,23,24] true) (.cut [6] [] (.seq .d (.blk (.loop [6,25,26,27] [] .d))) .d))))),kt [] true,[(194,(.seq .d (.cut [0,1] [] .d .d)))],f141⟩
def t14(a:List LB)(g:Int)(f:LB):S:=⟨[(6,.own 0),(25,.val (.list (.list (.int .u8))) a),(26,vi (Ac a)),(27,vi g)],[Ab 5 f],[]⟩
def z14:Nat->S->Option R_:=H.i P_ [r,r,r,r,l,r,d]
def t9(a:List LB)(b h:Int):S:=⟨[(0,.val (.list (.list (.int .u8))) a),(3,vi b),(9,.val (.list (.list (.int .u8))) a),(10,vi (Ac a)),(11,vi h)],[],[]⟩
def z9:Nat->S->Option R_:=H.i P_ [r,r,l,r,d]
def x14(a:List LB)(g:Int)(f:LB):Option R_:=H.e P_ [r,r,r,r,l,r,d] (t14 a g f)
theorem i14(a:List LB):∀(q:Nat) (g:Int) (f:LB),z14 q (t14 a g f)=Cs a q g f:=
 ind (λ_ _=>by kernel_rfl) λq ih g f=>Eq.trans (b:=Dz Zd (λg f=>(z14 q) (t14 a g f)) a g f) F5 (by simp only[ih]<;>rfl)
theorem e14:x14=Ka:=by funext a g f;exact Eq.trans F5 ((i14 a Dn g f).trans (by rw[Bc];rfl))
theorem i9(a:List LB):∀(q:Nat) (b h:Int),z9 q (t9 a b h)=Db a q b h:=
 ind (λ_ _=>by kernel_rfl) λq ih b h=>Eq.trans (b:=Ef (Ke (Kf (Kb x14))) (λb h=>(z9 q) (t9 a b h)) a b h) F5 (by simp only[e14,ih]<;>rfl)
def k:Kc P_ gl:=⟨(141,⟨H.p,H.r,Fi⟩),co H func141 (λx=>Eq.trans (b:=Qy (λa b h=>z9 Dn (t9 a b h)) x) F5 (by simp only[i9,Bc]<;>rfl))⟩
end F141
namespace F80
abbrev R_:=(LB×Int)
abbrev K_:=S->Option R_
def H:Hd:=⟨[.agg [Si,Si],.lf (.vec 16 (.int .i32)) none,Sw],[Ob 5,Si],(.seq .d (.seq .d (.seq .d (.seq .d (.seq .d (.cut [11] [] (.seq .d (.blk (.loop [3,10,11,30,31,32] [⟨11,[0],.own 5 (.int .u8)⟩] (.seq .d (.seq .d (.cut [3,10,11,30,31,32] [] (.blk (.seq .d (.seq .d (.seq .d (.seq .d (.keep [3,10,11,14,30,31,32,59] true)))))) .d)))))) .d)))))),kt [F83.k,F84.k,F137.k,F138.k,F139.k,F141.k] false,[(140,(.seq .d (.seq .d (.blk (.loop [0,3,7,8] [] (.seq .d (.seq .d (.seq (.blk (.seq .d (.cut [0,3,4,7,8] [] .d (.seq .d (.cut [0,3,7,8] [] .d .d))))) .d))))))))],f80⟩
def t44(b:LU)(a g h f:Int)(n:List (Int×Int×UInt64×UInt64×Unit))(m:LB)(o k:Int)(w:LB):S:=⟨[(0,.ptr 0 []),(3,.ptr 1 []),(7,vi h),(8,vi o)],[.box 113 (.agg [.own 7,vi k]),.box 113 (.agg [.own 6,vi h]),.box 63 (.agg [vi a,vi g]),.box 192 (.val (.vec 6 (.cons (.int .i64) (.cons (.int .i64) (.cons (.int .u64) (.cons (.int .u64) .nil))))) n),.box 113 (.agg [.own 6,vi h]),Av 134 b,Ab 5 m,Ab 5 w],[[(3,.ptr 2 []),(10,.ptr 3 []),(11,.ptr 0 []),(14,.ptr 4 []),(30,.own 5),(31,vi (Ac b)),(32,vi f),(59,.agg [.own 6,vi h])]]⟩
def z44(VX:K_):Nat->S->Option R_:=H.i P_ [r,r,r,r,r,l,r,d,(lp VX),r,r,l,d,r,r,r,r,(call 1 140),r,r,d]
def t27(b:LU)(a g f:Int)(u:List (Int×Int×UInt64×UInt64×Unit))(v:Int)(p:LB):S:=⟨[(3,.ptr 0 []),(10,.ptr 1 []),(11,.ptr 2 []),(30,.own 3),(31,vi (Ac b)),(32,vi f)],[.box 63 (.agg [vi a,vi g]),.box 192 (.val (.vec 6 (.cons (.int .i64) (.cons (.int .i64) (.cons (.int .u64) (.cons (.int .u64) .nil))))) u),.box 113 (.agg [.own 4,vi v]),Av 134 b,Ab 5 p],[]⟩
def z27:Nat->S->Option R_:=H.i P_ [r,r,r,r,r,l,r,d]
def x44(VX:K_)(b:LU)(a g h f:Int)(n:List (Int×Int×UInt64×UInt64×Unit))(m:LB)(o k:Int)(w:LB):Option R_:=H.e P_ [r,r,r,r,r,l,r,d,(lp VX),r,r,l,d,r,r,r,r,(call 1 140),r,r,d] (t44 b a g h f n m o k w)
theorem i44(VX:K_)(b:LU)(a g h f:Int)(n:List (Int×Int×UInt64×UInt64×Unit))(m:LB):∀(q:Nat) (o k:Int) (w:LB),z44 VX q (t44 b a g h f n m o k w)=Hr (λf u v p=>VX (t27 b a g f u v p)) b a g h f n m q o k w:=
 ind (λ_ _ _=>by kernel_rfl) λq ih o k w=>Eq.trans (b:=Xh (Wo (λo k w=>(z44 VX q) (t44 b a g h f n m o k w)) h b f a g n m) (GO (λf u v p=>VX (t27 b a g f u v p)) b a g) b a g h f n m o k w) F5 (by simp only[ih]<;>rfl)
theorem e44(VX:K_)(b:LU)(a g:Int):x44 VX b a g=aX (λf u v p=>VX (t27 b a g f u v p)) b a g:=by funext h f n m o k w;exact Eq.trans F5 ((i44 VX b a g h f n m Dn o k w).trans (by rw[Bc];rfl))
theorem i27(b:LU)(a g:Int):∀(q:Nat) (f:Int) (u:List (Int×Int×UInt64×UInt64×Unit)) (v:Int) (p:LB),z27 q (t27 b a g f u v p)=Jl b a g q f u v p:=
 ind (λ_ _ _ _=>by kernel_rfl) λq ih f u v p=>Eq.trans (b:=Ww (x44 (z27 q) b a g) GB b a g f u v p) F5 (by simp only[e44,ih]<;>rfl)
def k:Kc P_ gl:=⟨(80,⟨H.p,H.r,u4 Nt⟩),co H func80 (λx=>Eq.trans (b:=u4 (JJ (λb a g f u v p=>z27 Dn (t27 b a g f u v p))) x) F5 (by simp only[i27,Bc]<;>rfl))⟩
end F80
namespace F151
def H:Hd:=⟨[.agg [.agg [Si,Si],Si,Ss,Sb,Sw,.lf (.list (.list (.int .u8))) none,Sb,Sz,Si],Si],[.agg [.agg [Si,Si],Si,Ss,Ob 5,Ow 21,.lf (.list (.list (.int .u8))) (some 22),Ob 5,Sz,Si],Si],.d,kt [] false,[],f151⟩
def k:Kc P_ gl:=⟨(151,⟨H.p,H.r,u11 Xd⟩),co H func151⟩
end F151
namespace F91
abbrev R_:=(Int×Int×Int×LB×LB×LX×(List LB)×LB×Bool×Int×Int)
abbrev K_:=S->Option R_
def H:Hd:=⟨[.agg [.agg [Si,Si],Si,Ss,Sb,Sw,.lf (.list (.list (.int .u8))) none,Sb,Sz,Si],Sb],[.agg [.agg [Si,Si],Si,Ss,Ob 5,Ow 21,.lf (.list (.list (.int .u8))) (some 22),Ob 5,Sz,Si],Si],(.seq .d (.seq .d (.seq .d (.seq .d (.seq .d (.cut [2,4] [] (.seq .d (.blk (.loop [2,4,8,9,27,28,29] [] (.seq .d (.seq .d (.cut [2,4,8,9,27,28,29] [] (.blk (.seq .d (.seq .d (.seq .d (.cut [2,4,8,9,12,27,28,29] [⟨2,[3],.own 5 (.int .u8)⟩,⟨2,[4],.own 21 (.int .i32)⟩,⟨9,[0,3],.own 5 (.int .u8)⟩,⟨9,[0,4],.own 21 (.int .i32)⟩] (.keep [2,4,8,9,12,27,28,29,45] true) .d))))) .d)))))) .d)))))),kt [F30.k,F80.k,F97.k,F145.k,F146.k,F148.k,F149.k,F151.k] false,[(147,(.seq .d (.cut [0,1] [] .d (.seq .d (.seq .d (.seq .d (.seq .d (.cut [2] [] (.keep [2,43] true) .d)))))))),(150,.d)],f91⟩
def t14(p:Int)(n:LB)(a b g:Int)(f:LB)(h:Bool)(k o:Int)(m:LB)(u:Int)(y:LB)(w:LX)(v:List LB):S:=⟨[(2,.ptr 0 []),(4,.ptr 1 []),(8,vi p),(9,.fn 147 [.ptr 0 [],.ptr 2 []]),(27,vb n),(28,vi (Ac n)),(29,vi u)],[.box 142 (.agg [.agg [vi a,vi b],vi g,vs f,.own 3,.own 4,.own 5,.own 6,vt h,vi k]),.box 142 (.agg [.agg [vi 0,vi 0],vi 0,vs ([]:LB),.nils,.nils,.nils,.nils,vt false,vi 0]),.box 3 (vi o),Ab 5 y,Aw 21 w,.arr 22 (.list (.int .u8)) v,Ab 5 m],[]⟩
def z14:Nat->S->Option R_:=H.i P_ [r,r,r,r,r,l,r,d]
theorem i14(p:Int)(n:LB)(a b g:Int)(f:LB)(h:Bool)(k o:Int)(m:LB):∀(q:Nat) (u:Int) (y:LB) (w:LX) (v:List LB),z14 q (t14 p n a b g f h k o m u y w v)=Jo p n a b g f h k o m q u y w v:=
 ind (λ_ _ _ _=>by kernel_rfl) λq ih u y w v=>Eq.trans (b:=CO (Px (λu y w v=>(z14 q) (t14 p n a b g f h k o m u y w v)) p n a b g f h k o m) (Jz (λu y w v=>(z14 q) (t14 p n a b g f h k o m u y w v)) p n a b g f h k o m) (PC (λu y w v=>(z14 q) (t14 p n a b g f h k o m u y w v)) p n a b g f h k o m) QU p n a b g f h k o m u y w v) F5 (by simp only[ih]<;>rfl)
def k:Kc P_ gl:=⟨(91,⟨H.p,H.r,u11 XJ⟩),co H func91 (λx=>Eq.trans (b:=u11 (VS (λp n a b g f h k o m u y w v=>z14 Dn (t14 p n a b g f h k o m u y w v))) x) F5 (by simp only[i14,Bc]<;>rfl))⟩
end F91
namespace F198
def H:Hd:=⟨[Ss],[Si,Si],.d,kt [] false,[],f198⟩
def k:Kc P_ gl:=⟨(198,⟨H.p,H.r,RQ⟩),co H func198⟩
end F198
namespace F115
abbrev R_:=Bool
def H:Hd:=⟨[.agg [Si,Si,Si,Si,Si]],[Sz],(.seq .d (.cut [1] [] .d .d)),kt [] false,[],f115⟩
def k:Kc P_ gl:=⟨(115,⟨H.p,H.r,u5 Th⟩),co H func115⟩
end F115
namespace F116
def H:Hd:=⟨[.agg [Si,Si,Si,Si,Si]],[Sz],.d,kt [F158.k] false,[],f116⟩
def k:Kc P_ gl:=⟨(116,⟨H.p,H.r,u5 UE⟩),co H func116⟩
end F116
namespace F82
def H:Hd:=⟨[.agg [Si,Si,Si,Si,Si]],[Si],.d,kt [F115.k,F116.k] false,[],f82⟩
def k:Kc P_ gl:=⟨(82,⟨H.p,H.r,u5 Pg⟩),co H func82⟩
end F82
namespace F38
abbrev R_:=(LB×Int)
def H:Hd:=⟨[.agg [Si,Si,Si,Si,Si]],[Ob 5,Si],(.seq .d (.seq .d (.seq .d (.cut [5] [] (.seq .d (.blk (.loop [5,31,32] [] .d))) .d)))),kt [F82.k,F83.k,F84.k] false,[],f38⟩
def t4(b f g h k m:Int)(a:LB):S:=⟨[(5,.own 0),(31,.val (.vec 5 (.int .i64)) ([b,f,g,h,k]:LI)),(32,vi m)],[Ab 5 a],[]⟩
def z4:Nat->S->Option R_:=H.i P_ [r,r,r,l,r,d]
theorem i4(b f g h k:Int):∀(q:Nat) (m:Int) (a:LB),z4 q (t4 b f g h k m a)=Oh b f g h k q m a:=
 ind (λ_ _=>by kernel_rfl) λq ih m a=>Eq.trans (b:=FM FO (λm a=>(z4 q) (t4 b f g h k m a)) b f g h k m a) F5 (by simp only[ih]<;>rfl)
def k:Kc P_ gl:=⟨(38,⟨H.p,H.r,u5 LD⟩),co H func38 (λx=>Eq.trans (b:=u5 (VT (λb f g h k m a=>z4 Dn (t4 b f g h k m a))) x) F5 (by simp only[i4,Bc]<;>rfl))⟩
end F38
namespace F85
def H:Hd:=⟨[Ss],[Sq,Si],.d,kt [F65.k] false,[],f85⟩
def k:Kc P_ gl:=⟨(85,⟨H.p,H.r,U1⟩),co H func85⟩
end F85
namespace F39
def H:Hd:=⟨[Ss],[Ob 5,Si],.d,kt [F83.k,F85.k] false,[],f39⟩
def k:Kc P_ gl:=⟨(39,⟨H.p,H.r,CJ⟩),co H func39⟩
end F39
namespace F86
abbrev R_:=Int
def H:Hd:=⟨[Sl],[Si],(.seq .d (.seq .d (.seq .d (.cut [] [] (.seq .d (.blk (.loop [3,14,15,16] [] .d))) .d)))),kt [] false,[],f86⟩
def t4(a:LI)(f b:Int):S:=⟨[(3,vi f),(14,vl a),(15,vi (Ac a)),(16,vi b)],[],[]⟩
def z4:Nat->S->Option R_:=H.i P_ [r,r,r,l,r,d]
theorem i4(a:LI):∀(q:Nat) (f b:Int),z4 q (t4 a f b)=Vj a q f b:=
 ind (λ_ _=>by kernel_rfl) λq ih f b=>Eq.trans (b:=MU vE (λf b=>(z4 q) (t4 a f b)) a f b) F5 (by simp only[ih]<;>rfl)
def k:Kc P_ gl:=⟨(86,⟨H.p,H.r,Td⟩),co H func86 (λx=>Eq.trans (b:=LZ (λa f b=>z4 Dn (t4 a f b)) x) F5 (by simp only[i4,Bc]<;>rfl))⟩
end F86
namespace F40
abbrev R_:=(LB×Int)
abbrev K_:=S->Option R_
def H:Hd:=⟨[Sl],[Ob 5,Si],(.seq .d (.seq .d (.seq .d (.seq .d (.cut [5,6] [] (.seq .d (.blk (.loop [5,6,17,18,19] [⟨5,[],.own 5 (.int .u8)⟩,⟨6,[0],.own 5 (.int .u8)⟩] (.seq .d (.seq .d (.cut [5,6,17,18,19] [] (.blk (.seq .d (.keep [5,6,8,17,18,19,23,24,25] true))) .d)))))) (.seq .d (.cut [5] [] (.keep [5,6,9,33,34,35] true) .d))))))),kt [F83.k,F84.k,F86.k] false,[(87,.d)],f40⟩
def t8(a:LI)(f:Int)(b:LB):S:=⟨[(5,.ptr 0 []),(6,.fn 87 [.ptr 0 []]),(17,vl a),(18,vi (Ac a)),(19,vi f)],[.box 22 (.own 1),Ab 5 b],[]⟩
def z8:Nat->S->Option R_:=H.i P_ [r,r,r,r,l,r,d]
theorem i8(a:LI):∀(q:Nat) (f:Int) (b:LB),z8 q (t8 a f b)=Up a q f b:=
 ind (λ_ _=>by kernel_rfl) λq ih f b=>Eq.trans (b:=MT (VC (λf b=>(z8 q) (t8 a f b)) a) UT a f b) F5 (by simp only[ih]<;>rfl)
def k:Kc P_ gl:=⟨(40,⟨H.p,H.r,IC⟩),co H func40 (λx=>Eq.trans (b:=ZW (λa f b=>z8 Dn (t8 a f b)) x) F5 (by simp only[i8,Bc]<;>rfl))⟩
end F40
namespace F152
def OV(f g h:Int)(b k:LB)(m:LX)(a:List LB)(n:LB)(o:Bool)(p:Int)(u:LB)(v:LI):Option (LB×Int):=
(IC v).bind λ(aa,y)=>
if(Bg y 0)then
some (([]:LB),y)
else
(λao:Option (LB×Int)=>
bo (
ao)) (
(Dt u aa).bind λab=>
(Fi a).bind λac=>
(Dt ab ac).bind λad=>
some (ad,0))
theorem xH: @OV= @FF:=by
  unfold OV FF;simp only[lB,OR,QM]
abbrev R_:=(LB×Int)
def H:Hd:=⟨[.agg [.agg [Si,Si],Si,Ss,Sb,Sw,.lf (.list (.list (.int .u8))) none,Sb,Sz,Si],Si],[Ob 5,Si],(.seq .d (.seq .d (.seq .d (.seq .d (.seq .d (.cut [2,8] [] .d (.seq .d (.cut [2,8,11] [] (.seq .d (.blk (.loop [2,8,11,58,59,60] [⟨11,[],.own 3 (.int .i64)⟩] .d))) (.seq .d (.seq .d (.seq (.mode false) .d))))))))))),kt [F38.k,F39.k,F40.k,F141.k,F198.k] false,[],f152⟩
def t6(a:List LB)(f g h:Int)(b k:LB)(m:LX)(n:LB)(o:Bool)(p:Int)(u:LB)(w:Int)(v:LI):S:=⟨[(2,.ptr 0 []),(8,.own 1),(11,.own 2),(58,.val (.list (.list (.int .u8))) a),(59,vi (Ac a)),(60,vi w)],[.box 142 (.agg [.agg [vi f,vi g],vi h,vs b,vb k,vw m,.val (.list (.list (.int .u8))) a,vb n,vt o,vi p]),Ab 5 u,Ai 3 v],[]⟩
def z6:Nat->S->Option R_:=H.i P_ [r,r,r,r,r,r,r,l,r,d]
def x8(f g h:Int)(b k:LB)(m:LX)(a:List LB)(n:LB)(o:Bool)(p:Int)(u:LB)(v:LI):Option R_:=H.e P_ [r,r,r,r,r,r,r,r] ⟨[(2,.ptr 0 []),(8,.own 1),(11,.own 2)],[.box 142 (.agg [.agg [vi f,vi g],vi h,vs b,vb k,vw m,.val (.list (.list (.int .u8))) a,vb n,vt o,vi p]),Ab 5 u,Ai 3 v],[]⟩
theorem e8:x8=Xp:=Eq.trans (b:=OV) F5 (by rw[xH];rfl)
theorem i6(a:List LB)(f g h:Int)(b k:LB)(m:LX)(n:LB)(o:Bool)(p:Int)(u:LB):∀(q:Nat) (w:Int) (v:LI),z6 q (t6 a f g h b k m n o p u w v)=Sc a f g h b k m n o p u q w v:=
 ind (λ_ _=>by kernel_rfl) λq ih w v=>Eq.trans (b:=FG x8 (λw v=>(z6 q) (t6 a f g h b k m n o p u w v)) a f g h b k m n o p u w v) F5 (by simp only[e8,ih]<;>rfl)
def k:Kc P_ gl:=⟨(152,⟨H.p,H.r,u11 YE⟩),co H func152 (λx=>Eq.trans (b:=u11 (UQ (FQ (λa f g h b k m n o p u w v=>z6 Dn (t6 a f g h b k m n o p u w v)))) x) F5 (by simp only[i6,Bc]<;>rfl))⟩
end F152
namespace F93
abbrev R_:=(Int×Int×Int×LB×LB×LX×(List LB)×LB×Bool×Int×Int)
def H:Hd:=⟨[.agg [.agg [Si,Si],Si,Ss,Sb,Sw,.lf (.list (.list (.int .u8))) none,Sb,Sz,Si]],[.agg [.agg [Si,Si],Si,Ss,Ob 5,Ow 21,.lf (.list (.list (.int .u8))) (some 22),Ob 5,Sz,Si],Si],(.seq .d (.seq .d (.seq .d (.seq .d (.seq .d (.cut [1,2,6] [] (.seq .d (.cond (.cut [1,2,6,7] [⟨1,[4],.own 21 (.int .i32)⟩] (.keep [1,2,6,7,38] true) .d) .d)) .d)))))),kt [F30.k,F80.k,F145.k,F149.k,F151.k,F152.k] false,[(150,.d)],f93⟩
def k:Kc P_ gl:=⟨(93,⟨H.p,H.r,u10 JF⟩),co H func93⟩
end F93
namespace F48
abbrev R_:=(LB×Int)
def H:Hd:=⟨[.agg [Si,Si,Si,Sw],Ss],[Ob 5,Si],(.seq .d (.seq .d (.seq .d (.seq .d (.seq .d (.seq .d (.seq .d (.cut [8,9] [⟨9,[3],.own 5 (.int .u8)⟩,⟨9,[4],.own 21 (.int .i32)⟩,⟨9,[5],.own 22 (.list (.int .u8))⟩,⟨9,[6],.own 5 (.int .u8)⟩] (.keep [8,9,43,46,47,48] true) .d)))))))),kt [F52.k,F54.k,F89.k,F91.k,F93.k] false,[(90,.d),(92,(.seq .d (.cut [2,6,8,9] [] (.keep [2,6,8,9,11,14,15,16] true) (.seq .d (.cut [6,7] [] .d .d)))))],f48⟩
def k:Kc P_ gl:=⟨(48,⟨H.p,H.r,u5 Zz⟩),co H func48⟩
end F48
namespace F94
def H:Hd:=⟨[Ss],[.agg [Ss,Ob 5,.agg [Si,Si,Si,Si,Si],Ol 3,Si,Ob 5,Sz,Si],Si],.d,kt [] false,[],f94⟩
def k:Kc P_ gl:=⟨(94,⟨H.p,H.r,eX⟩),co H func94⟩
end F94
namespace F204
def UX(a:LB):Option (LB):=
vo a (
some ([]:LB)) (
(Dt ([]:LB) a).bind λb=>
some b)
theorem C2: @UX= @Ir:=by
  unfold UX Ir
  repeat (refine funext λ_=>?_)
  repeat' first
    |with_reducible rfl
    |with_reducible refine Qu ?_ ?_
    |with_reducible refine Qg ?_ ?_ ?_
    |with_reducible refine Qv ?_ ?_ ?_ ?_
    |((with_reducible refine Xf ?_ ?_);focus (intro h;first|(subst h;rfl)|(simp only[h];rfl)|(simp[Dt,Ac,h];done)))
    |with_reducible refine Wk λx=>?_
    |with_reducible refine FW (λ_=>?_) (λ_=>?_)
    |(refine Jh (λh=>by simp only[h,Wx,Gb,Fw,ite_self]) (λx h=>?_);(try simp only[h,Gb]))
    |(refine Ms (λh=>?_) (λh=>?_)<;>simp only[h,if_true,if_false,Bool.false_eq_true])
def H:Hd:=⟨[Sb],[Ob 5],.d,kt [] false,[],f204⟩
def k:Kc P_ gl:=⟨(204,⟨H.p,H.r,Ir⟩),co H func204 (λx=>Eq.trans (b:=UX x) F5 (by simp only[C2]<;>rfl))⟩
end F204
namespace F205
def Tq(a:LI):Option (LI):=
vo a (
some ([]:LI)) (
(Dt ([]:LI) a).bind λb=>
some b)
theorem XX: @Tq= @Hq:=by
  unfold Tq Hq
  repeat (refine funext λ_=>?_)
  repeat' first
    |with_reducible rfl
    |with_reducible refine Qu ?_ ?_
    |with_reducible refine Qg ?_ ?_ ?_
    |with_reducible refine Qv ?_ ?_ ?_ ?_
    |((with_reducible refine Xf ?_ ?_);focus (intro h;first|(subst h;rfl)|(simp only[h];rfl)|(simp[Dt,Ac,h];done)))
    |with_reducible refine Wk λx=>?_
    |with_reducible refine FW (λ_=>?_) (λ_=>?_)
    |(refine Jh (λh=>by simp only[h,Wx,Gb,Fw,ite_self]) (λx h=>?_);(try simp only[h,Gb]))
    |(refine Ms (λh=>?_) (λh=>?_)<;>simp only[h,if_true,if_false,Bool.false_eq_true])
def H:Hd:=⟨[Sl],[Ol 3],.d,kt [] false,[],f205⟩
def k:Kc P_ gl:=⟨(205,⟨H.p,H.r,Hq⟩),co H func205 (λx=>Eq.trans (b:=Tq x) F5 (by simp only[XX]<;>rfl))⟩
end F205
namespace F155
def H:Hd:=⟨[.agg [Ss,Sb,.agg [Si,Si,Si,Si,Si],Sl,Si,Sb,Sz,Si]],[.agg [Ss,Ob 5,.agg [Si,Si,Si,Si,Si],Ol 3,Si,Ob 5,Sz,Si]],.d,kt [F204.k,F205.k] false,[],f155⟩
def k:Kc P_ gl:=⟨(155,⟨H.p,H.r,u12 Es⟩),co H func155⟩
end F155
namespace F236
def H:Hd:=⟨[Sq,Sq],[Sq,Sq],.d,kt [] false,[],f236⟩
def k:Kc P_ gl:=⟨(236,⟨H.p,H.r,u2 VH⟩),co H func236⟩
end F236
namespace F213
def H:Hd:=⟨[Sq,Sq],[Sq,Sq],.d,kt [F236.k] false,[],f213⟩
def k:Kc P_ gl:=⟨(213,⟨H.p,H.r,u2 RN⟩),co H func213⟩
end F213
namespace F171
def Ry(j10:LI->Option (LI))(bk8:Int->LI->Option (LI))(b:Int)(a:LI):Option (LI):=
if(Cj b (Ac a))then
both (
(jT (Ac a) b (Ac a)).bind λ_=>
(jT (Ac a) 0 b).bind λ_=>
bk8 (Ae b (bN ((Ac a)-b) (dB a 0 (b-(0:Int))).length)) (Zx a b ((Ac a)-b) (dB a 0 (b-(0:Int))))) [
(jT (Ac a) 0 b).bind λ_=>
(jT (Ac a) b (Ac a)).bind λ_=>
bk8 (Ae b (bN ((Ac a)-b) (dB a 0 (b-(0:Int))).length)) (Zx a b ((Ac a)-b) (dB a 0 (b-(0:Int))))]
else
j10 a
theorem US: @Ry= @Ja:=by
  unfold Ry Ja
  repeat (refine funext λ_=>?_)
  repeat' first
    |with_reducible rfl
    |with_reducible refine Qu ?_ ?_
    |with_reducible refine Qg ?_ ?_ ?_
    |with_reducible refine Qv ?_ ?_ ?_ ?_
    |((with_reducible refine Xf ?_ ?_);focus (intro h;first|(subst h;rfl)|(simp only[h];rfl)|(simp[Dt,Ac,h];done)))
    |with_reducible refine Wk λx=>?_
    |with_reducible refine FW (λ_=>?_) (λ_=>?_)
    |(refine Jh (λh=>by simp only[h,Wx,Gb,Fw,ite_self]) (λx h=>?_);(try simp only[h,Gb]))
    |(refine Ms (λh=>?_) (λh=>?_)<;>simp only[h,if_true,if_false,Bool.false_eq_true])
abbrev R_:=LI
def H:Hd:=⟨[Sl,Si],[Ol 3],(.seq .d (.cut [0,1] [] .d (.seq .d (.cut [0,6] [] .d (.seq .d (.seq .d (.cut [7] [] (.blk (.loop [7,8] [] (.seq .d (.blk (.mode false))))) .d))))))),kt [F213.k] true,[],f171⟩
def t8(b:Int)(a:LI):S:=⟨[(7,.own 0),(8,vi b)],[Ai 3 a],[]⟩
def z8:Nat->S->Option R_:=H.i P_ [r,r,r,r,r,r,l,d]
theorem i8:∀(q:Nat) (b:Int) (a:LI),z8 q (t8 b a)=Gg q b a:=
 ind (λ_ _=>by kernel_rfl) λq ih b a=>Eq.trans (b:=Ry Lu (λb a=>(z8 q) (t8 b a)) b a) F5 (by rw[US];simp only[ih]<;>rfl)
def k:Kc P_ gl:=⟨(171,⟨H.p,H.r,u2 Rl⟩),co H func171 (λx=>Eq.trans (b:=u2 (Tp (Ti (Tt (λb a=>z8 Dn (t8 b a))))) x) F5 (by simp only[i8,Bc]<;>rfl))⟩
end F171
namespace F214
abbrev R_:=LI
def H:Hd:=⟨[.lf (.list (.list (.int .i64))) none],[Ol 3],(.seq .d (.seq .d (.cut [0,3] [] (.seq .d (.blk (.loop [0,3,9,10,11] [] .d))) (.cut [0,6] [⟨6,[],.own 3 (.int .i64)⟩] (.keep [0,3,6,23,24] true) (.cut [6] [] (.seq .d (.blk (.loop [6,25,26,27] [] .d))) .d))))),kt [] true,[(237,(.seq .d (.cut [0,1] [] .d .d)))],f214⟩
def t14(a:List LI)(g:Int)(f:LI):S:=⟨[(6,.own 0),(25,.val (.list (.list (.int .i64))) a),(26,vi (Ac a)),(27,vi g)],[Ai 3 f],[]⟩
def z14:Nat->S->Option R_:=H.i P_ [r,r,r,r,l,r,d]
def t9(a:List LI)(b h:Int):S:=⟨[(0,.val (.list (.list (.int .i64))) a),(3,vi b),(9,.val (.list (.list (.int .i64))) a),(10,vi (Ac a)),(11,vi h)],[],[]⟩
def z9:Nat->S->Option R_:=H.i P_ [r,r,l,r,d]
def x14(a:List LI)(g:Int)(f:LI):Option R_:=H.e P_ [r,r,r,r,l,r,d] (t14 a g f)
theorem i14(a:List LI):∀(q:Nat) (g:Int) (f:LI),z14 q (t14 a g f)=Fq a q g f:=
 ind (λ_ _=>by kernel_rfl) λq ih g f=>Eq.trans (b:=Ig DB (λg f=>(z14 q) (t14 a g f)) a g f) F5 (by simp only[ih]<;>rfl)
theorem e14:x14=Ru:=by funext a g f;exact Eq.trans F5 ((i14 a Dn g f).trans (by rw[Bc];rfl))
theorem i9(a:List LI):∀(q:Nat) (b h:Int),z9 q (t9 a b h)=Ge a q b h:=
 ind (λ_ _=>by kernel_rfl) λq ih b h=>Eq.trans (b:=Iy (Rw (Rs (Rr x14))) (λb h=>(z9 q) (t9 a b h)) a b h) F5 (by simp only[e14,ih]<;>rfl)
def k:Kc P_ gl:=⟨(214,⟨H.p,H.r,Re⟩),co H func214 (λx=>Eq.trans (b:=Tm (λa b h=>z9 Dn (t9 a b h)) x) F5 (by simp only[i9,Bc]<;>rfl))⟩
end F214
namespace F172
def H:Hd:=⟨[Sl,Sl],[Ol 3],.d,kt [F214.k] false,[],f172⟩
def k:Kc P_ gl:=⟨(172,⟨H.p,H.r,u2 aW⟩),co H func172⟩
end F172
namespace F117
def H:Hd:=⟨[Si,Si],[Ol 3,Si],.d,kt [F158.k,F170.k,F171.k,F172.k] false,[],f117⟩
def k:Kc P_ gl:=⟨(117,⟨H.p,H.r,u2 AI⟩),co H func117⟩
end F117
namespace F62
def H:Hd:=⟨[.agg [Si,Si,Si,Si,Si]],[Ol 3,Si],.d,kt [F82.k,F117.k] false,[],f62⟩
def k:Kc P_ gl:=⟨(62,⟨H.p,H.r,u5 Eb⟩),co H func62⟩
end F62
namespace F230
def H:Hd:=⟨[.agg [Si,Si,Si,Si,Si],Ss],[Si],.d,kt [] false,[],f230⟩
def k:Kc P_ gl:=⟨(230,⟨H.p,H.r,u6 Qp⟩),co H func230⟩
end F230
namespace F227
abbrev R_:=Bool
def H:Hd:=⟨[.agg [Ss,Sb,.agg [Si,Si,Si,Si,Si],Sl,Si,Sb,Sz,Si]],[Sz],(.seq .d (.seq .d (.seq .d (.cut [1,3] [] .d (.seq .d (.seq .d (.seq .d (.cut [1,5] [] (.seq .d (.blk (.loop [1,5,83,84,85] [] .d))) .d)))))))),kt [F62.k,F86.k,F230.k] false,[],f227⟩
def t6(w:LI)(o p:LB)(h b f k m:Int)(g:LI)(a:Int)(n:LB)(u:Bool)(v y aa:Int):S:=⟨[(1,.ptr 0 []),(5,vi y),(83,vl w),(84,vi (Ac w)),(85,vi aa)],[.box 149 (.agg [vs o,vb p,.agg [vi h,vi b,vi f,vi k,vi m],vl g,vi a,vb n,vt u,vi v])],[]⟩
def z6:Nat->S->Option R_:=H.i P_ [r,r,r,r,r,r,r,l,r,d]
theorem i6(w:LI)(o p:LB)(h b f k m:Int)(g:LI)(a:Int)(n:LB)(u:Bool)(v:Int):∀(q:Nat) (y aa:Int),z6 q (t6 w o p h b f k m g a n u v y aa)=Sa w o p h b f k m g a n u v q y aa:=
 ind (λ_ _=>by kernel_rfl) λq ih y aa=>Eq.trans (b:=FB VJ (λy aa=>(z6 q) (t6 w o p h b f k m g a n u v y aa)) w o p h b f k m g a n u v y aa) F5 (by simp only[ih]<;>rfl)
def k:Kc P_ gl:=⟨(227,⟨H.p,H.r,u12 BT⟩),co H func227 (λx=>Eq.trans (b:=u12 (VO (VI (λw o p h b f k m g a n u v y aa=>z6 Dn (t6 w o p h b f k m g a n u v y aa)))) x) F5 (by simp only[i6,Bc]<;>rfl))⟩
end F227
namespace F118
def H:Hd:=⟨[Sb,Sb],[Sz],.d,kt [] false,[],f118⟩
def k:Kc P_ gl:=⟨(118,⟨H.p,H.r,u2 Fp⟩),co H func118⟩
end F118
namespace F132
def H:Hd:=⟨[Sb,Sb],[Sz],.d,kt [F118.k] false,[],f132⟩
def k:Kc P_ gl:=⟨(132,⟨H.p,H.r,u2 Oj⟩),co H func132⟩
end F132
namespace F233
abbrev R_:=(Int×Int)
def H:Hd:=⟨[Sb],[Si,Si],(.seq .d (.seq .d (.seq .d (.cut [4] [] (.seq .d (.blk (.loop [4,10,11,12] [] .d))) .d)))),kt [] false,[],f233⟩
def t4(a:LB)(b f:Int):S:=⟨[(4,vi b),(10,vb a),(11,vi (Ac a)),(12,vi f)],[],[]⟩
def z4:Nat->S->Option R_:=H.i P_ [r,r,r,l,r,d]
theorem i4(a:LB):∀(q:Nat) (b f:Int),z4 q (t4 a b f)=Qa a q b f:=
 ind (λ_ _=>by kernel_rfl) λq ih b f=>Eq.trans (b:=CB kM (λb f=>(z4 q) (t4 a b f)) a b f) F5 (by simp only[ih]<;>rfl)
def k:Kc P_ gl:=⟨(233,⟨H.p,H.r,RG⟩),co H func233 (λx=>Eq.trans (b:=QP (λa b f=>z4 Dn (t4 a b f)) x) F5 (by simp only[i4,Bc]<;>rfl))⟩
end F233
namespace F211
def PR(j5:LB->UInt8->UInt8->Option (Int×Int))(a:LB):Option (Int×Int):=
(Oj a ([(73:UInt8),(68:UInt8),(51:UInt8)]:LB)).bind λn=>
if(!n)then
some (0,6)
else
if(Cj (Ac a) 10)then
some (0,24)
else
(Am a 3).bind λf=>
(Am a 5).bind λb=>
(λo:Option (Int×Int)=>
(λp:Option (Int×Int)=>
both (
both (
bo (
j5 a f b)) [
o,
o]) [
bo2 (
bo (
j5 a f b)),
p,
p]) (
both (
o) [
bo (
j5 a f b),
both (
bo (
j5 a f b)) [
j5 a f b]])) (
both (
j5 a f b) [
bo (
j5 a f b)])
theorem xA: @PR= @FD:=by
  unfold PR FD
  try simp only[lB,OR,QM]
  all_goals
    repeat (refine funext λ_=>?_)
    repeat' first
      |with_reducible rfl
      |with_reducible refine Qu ?_ ?_
      |with_reducible refine Qg ?_ ?_ ?_
      |with_reducible refine Qv ?_ ?_ ?_ ?_
      |((with_reducible refine Xf ?_ ?_);focus (intro h;first|(subst h;rfl)|(simp only[h];rfl)|(simp[Dt,Ac,h];done)))
      |with_reducible refine Wk λx=>?_
      |with_reducible refine FW (λ_=>?_) (λ_=>?_)
      |(refine Jh (λh=>by simp only[h,Wx,Gb,Fw,ite_self]) (λx h=>?_);(try simp only[h,Gb]))
      |(refine Ms (λh=>?_) (λh=>?_)<;>simp only[h,if_true,if_false,Bool.false_eq_true])
abbrev R_:=(Int×Int)
def H:Hd:=⟨[Sb],[Si,Si],(.seq .d (.seq .d (.seq .d (.cut [0,4,5] [] (.mode false) (.seq .d (.seq .d (.cut [0,5,6] [] (.cut [0,5,6,43] [] (.keep [0,5,6,7,8,31,32,33,34,35,36,37,38,39,40,41,42,43] true) .d) (.seq .d (.cut [0,5,6] [] .d .d))))))))),kt [F118.k,F132.k,F233.k] false,[(234,.d)],f211⟩
def x6(a:LB)(g:Int)(b:UInt8)(m:Bool):Option R_:=H.e P_ [r,r,r,r,r,r,l,r] ⟨[(0,vb a),(5,.ptr 0 []),(6,vi g),(43,vt m)],[.box 5 (vc b)],[]⟩
def x5(a:LB)(f b:UInt8):Option R_:=H.e P_ [r,r,r,r] ⟨[(0,vb a),(4,.ptr 0 []),(5,.ptr 1 [])],[.box 5 (vc f),.box 5 (vc b)],[]⟩
theorem e6:x6=UR:=F5
theorem e5:x5=VA:=Eq.trans (b:=VQ x6) F5 (by simp only[e6]<;>rfl)
def k:Kc P_ gl:=⟨(211,⟨H.p,H.r,XI⟩),co H func211 (λx=>Eq.trans (b:=PR x5 x) F5 (by rw[xA];simp only[e5]<;>rfl))⟩
end F211
namespace F121
abbrev R_:=(UInt64×Int)
def H:Hd:=⟨[Sb],[Sq,Si],(.seq .d (.seq .d (.seq .d (.cut [4] [] (.seq .d (.blk (.loop [4,15,16,17] [] .d))) .d)))),kt [] false,[],f121⟩
def t4(a:LB)(f:UInt64)(b:Int):S:=⟨[(4,vq f),(15,vb a),(16,vi (Ac a)),(17,vi b)],[],[]⟩
def z4:Nat->S->Option R_:=H.i P_ [r,r,r,l,r,d]
theorem i4(a:LB):∀(q:Nat) (f:UInt64) (b:Int),z4 q (t4 a f b)=HC a q f b:=
 ind (λ_ _=>by kernel_rfl) λq ih f b=>Eq.trans (b:=eL jg (λf b=>(z4 q) (t4 a f b)) a f b) F5 (by simp only[ih]<;>rfl)
def k:Kc P_ gl:=⟨(121,⟨H.p,H.r,rY⟩),co H func121 (λx=>Eq.trans (b:=vB (λa f b=>z4 Dn (t4 a f b)) x) F5 (by simp only[i4,Bc]<;>rfl))⟩
end F121
namespace F114
def H:Hd:=⟨[Sb,Si,Si],[Sq,Si],.d,kt [F121.k] false,[],f114⟩
def k:Kc P_ gl:=⟨(114,⟨H.p,H.r,u3 HZ⟩),co H func114⟩
end F114
namespace F47
abbrev R_:=LB
def H:Hd:=⟨[Si,Si,Sq],[Ob 5],(.seq .d (.seq .d (.cut [7] [] (.seq .d (.blk (.loop [7,20,21,22] [] .d))) .d))),kt [F83.k] false,[],f47⟩
def t4(a b:Int)(f:UInt64)(h:Int)(g:LB):S:=⟨[(7,.own 0),(20,.own 1),(21,vi (Ac ([(2000:UInt64),(Ad (Ae a (32:Int)):UInt64),(Ad b:UInt64),f,(0:UInt64),(0:UInt64)]:LQ))),(22,vi h)],[Ab 5 g,.arr 88 (.int .u64) ([(2000:UInt64),(Ad (Ae a (32:Int)):UInt64),(Ad b:UInt64),f,(0:UInt64),(0:UInt64)]:LQ)],[]⟩
def z4:Nat->S->Option R_:=H.i P_ [r,r,l,r,d]
theorem i4(a b:Int)(f:UInt64):∀(q:Nat) (h:Int) (g:LB),z4 q (t4 a b f h g)=GX a b f q h g:=
 ind (λ_ _=>by kernel_rfl) λq ih h g=>Eq.trans (b:=mX zR (λh g=>(z4 q) (t4 a b f h g)) a b f h g) F5 (by simp only[ih]<;>rfl)
def k:Kc P_ gl:=⟨(47,⟨H.p,H.r,u3 vV⟩),co H func47 (λx=>Eq.trans (b:=u3 (B8 (λa b f h g=>z4 Dn (t4 a b f h g))) x) F5 (by simp only[i4,Bc]<;>rfl))⟩
end F47
namespace F133
def H:Hd:=⟨[Sb,Sq],[.agg [Si,Si],Sz],.d,kt [F47.k,F114.k,F118.k] false,[],f133⟩
def k:Kc P_ gl:=⟨(133,⟨H.p,H.r,u2 YM⟩),co H func133⟩
end F133
namespace F212
def H:Hd:=⟨[Sb],[Si,Si],.d,kt [F47.k,F118.k,F132.k,F133.k] false,[],f212⟩
def k:Kc P_ gl:=⟨(212,⟨H.p,H.r,wA⟩),co H func212⟩
end F212
namespace F168
def H:Hd:=⟨[Sb],[Si,Si],.d,kt [F211.k,F212.k] false,[],f168⟩
def k:Kc P_ gl:=⟨(168,⟨H.p,H.r,AN⟩),co H func168⟩
end F168
theorem MP:ConOk Tryz.prog gl 60 Yg:=Acp ent60 F168.k.2
namespace F203
def H:Hd:=⟨[Si],[.agg [Sz,Si]],.d,kt [] false,[],f203⟩
def k:Kc P_ gl:=⟨(203,⟨H.p,H.r,Ao⟩),co H func203⟩
end F203
namespace F169
def H:Hd:=⟨[Ss,Ss],[Sz],.d,kt [] false,[],f169⟩
def k:Kc P_ gl:=⟨(169,⟨H.p,H.r,u2 Ia⟩),co H func169⟩
end F169
namespace F113
def H:Hd:=⟨[Ss,Ss],[Sz],.d,kt [F169.k] false,[],f113⟩
def k:Kc P_ gl:=⟨(113,⟨H.p,H.r,u2 Kl⟩),co H func113⟩
end F113
namespace F229
abbrev R_:=Bool
def H:Hd:=⟨[Sb],[Sz],(.seq .d (.cut [] [] (.seq .d (.blk (.loop [0,5,6] [] .d))) .d)),kt [F113.k] false,[],f229⟩
def t4(a:LB)(b:Int):S:=⟨[(0,vb a),(5,.val (.vec 2 .str) ([([73,68,51]:LB),([65,80,69,84,65,71,69,88]:LB)]:List LB)),(6,vi b)],[],[]⟩
def z4:Nat->S->Option R_:=H.i P_ [r,l,r,d]
theorem i4(a:LB):∀(q:Nat) (b:Int),z4 q (t4 a b)=Lp a q b:=
 ind (λ_=>by kernel_rfl) λq ih b=>Eq.trans (b:=Xm oY (λb=>(z4 q) (t4 a b)) a b) F5 (by simp only[ih]<;>rfl)
def k:Kc P_ gl:=⟨(229,⟨H.p,H.r,Tf⟩),co H func229 (λx=>Eq.trans (b:=VM (λa b=>z4 Dn (t4 a b)) x) F5 (by simp only[i4,Bc]<;>rfl))⟩
end F229
namespace F61
abbrev R_:=(Int×Int×Int×Int×Int×Int)
def H:Hd:=⟨[Sb],[.agg [Si,Si,Si,Si,Si],Si],(.seq .d (.seq .d (.seq .d (.seq .d (.seq .d (.seq .d (.seq .d (.cut [2,8] [] (.seq .d (.blk (.loop [0,2,8,9,44,45] [] .d))) .d)))))))),kt [F84.k,F113.k,F114.k,F115.k,F116.k] false,[],f61⟩
def t4(b:LB)(g f:Int)(a:LI):S:=⟨[(0,vb b),(2,.ptr 0 []),(8,.ptr 1 []),(9,vi g),(44,.val (.vec 5 (.int .i64)) ([(2:Int),(2:Int),(2:Int),(4:Int),(4:Int)]:LI)),(45,vi f)],[.box 54 (.agg [vi 0,vi 0,vi 0,vi 0,vi 0]),.box 132 (.val (.vec 5 (.int .i64)) a)],[]⟩
def z4:Nat->S->Option R_:=H.i P_ [r,r,r,r,r,r,r,l,r,d]
theorem i4(b:LB):∀(q:Nat) (g f:Int) (a:LI),z4 q (t4 b g f a)=Qj b q g f a:=
 ind (λ_ _ _=>by kernel_rfl) λq ih g f a=>Eq.trans (b:=JI JG (λg f a=>(z4 q) (t4 b g f a)) b g f a) F5 (by simp only[ih]<;>rfl)
def k:Kc P_ gl:=⟨(61,⟨H.p,H.r,Nh⟩),co H func61 (λx=>Eq.trans (b:=bQ (λb g f a=>z4 Dn (t4 b g f a)) x) F5 (by simp only[i4,Bc]<;>rfl))⟩
end F61
namespace F64
def H:Hd:=⟨[Sb,Ss],[Sz,Si],.d,kt [F39.k,F118.k] false,[],f64⟩
def k:Kc P_ gl:=⟨(64,⟨H.p,H.r,u2 Pn⟩),co H func64⟩
end F64
namespace F63
abbrev R_:=(LI×Int)
def H:Hd:=⟨[Sb,Si],[Ol 3,Si],(.seq .d (.seq .d (.seq .d (.seq .d (.seq .d (.seq .d (.cut [10] [] (.seq .d (.blk (.loop [0,10,48,49] [] .d))) .d))))))),kt [F84.k,F86.k,F114.k] false,[],f63⟩
def t4(a:LB)(f:LI)(g:Int)(b:LI):S:=⟨[(0,vb a),(10,.own 0),(48,vi (Ac f)),(49,vi g)],[Ai 3 b],[]⟩
def z4:Nat->S->Option R_:=H.i P_ [r,r,r,r,r,r,l,r,d]
theorem i4(a:LB)(f:LI):∀(q:Nat) (g:Int) (b:LI),z4 q (t4 a f g b)=Ya a f q g b:=
 ind (λ_ _=>by kernel_rfl) λq ih g b=>Eq.trans (b:=RF QX (λg b=>(z4 q) (t4 a f g b)) a f g b) F5 (by simp only[ih]<;>rfl)
def k:Kc P_ gl:=⟨(63,⟨H.p,H.r,u2 GC⟩),co H func63 (λx=>Eq.trans (b:=u2 (iH (λa f g b=>z4 Dn (t4 a f g b))) x) F5 (by simp only[i4,Bc]<;>rfl))⟩
end F63
namespace F231
def H:Hd:=⟨[.agg [Si,Si,Si,Si,Si]],[.agg [Si,Si]],.d,kt [] false,[],f231⟩
def k:Kc P_ gl:=⟨(231,⟨H.p,H.r,u5 EI⟩),co H func231⟩
end F231
namespace F68
def H:Hd:=⟨[Sb],[Sb,Si],.d,kt [F84.k,F121.k] false,[],f68⟩
def k:Kc P_ gl:=⟨(68,⟨H.p,H.r,KS⟩),co H func68⟩
end F68
namespace F69
def H:Hd:=⟨[Sb],[.agg [Ob 5,Si],Si],.d,kt [F122.k] false,[],f69⟩
def k:Kc P_ gl:=⟨(69,⟨H.p,H.r,Aiy⟩),co H func69⟩
end F69
namespace F127
abbrev R_:=UInt64
def H:Hd:=⟨[.agg [Sb,Si],Si,Si],[Sq],(.seq .d (.seq .d (.cut [7] [] (.blk (.loop [1,2,3,7,8] [] .d)) .d))),kt [] false,[],f127⟩
def t4(b f:Int)(h:LB)(k:Int)(g:UInt64)(a:Int):S:=⟨[(1,vi b),(2,vi f),(3,.ptr 0 []),(7,vq g),(8,vi a)],[.box 113 (.agg [vb h,vi k])],[]⟩
def z4:Nat->S->Option R_:=H.i P_ [r,r,l,d]
theorem i4(b f:Int)(h:LB)(k:Int):∀(q:Nat) (g:UInt64) (a:Int),z4 q (t4 b f h k g a)=TF b f h k q g a:=
 ind (λ_ _=>by kernel_rfl) λq ih g a=>Eq.trans (b:=tF ku (λg a=>(z4 q) (t4 b f h k g a)) b f h k g a) F5 (by simp only[ih]<;>rfl)
def k:Kc P_ gl:=⟨(127,⟨H.p,H.r,u4 L9⟩),co H func127 (λx=>Eq.trans (b:=u4 (Z2 (λb f h k g a=>z4 Dn (t4 b f h k g a))) x) F5 (by simp only[i4,Bc]<;>rfl))⟩
end F127
namespace F124
abbrev R_:=(LB×Int×Int)
abbrev K_:=S->Option R_
def H:Hd:=⟨[.agg [Sb,Si],Si,Si],[.agg [Ob 5,Si],Si],(.seq .d (.seq .d (.seq .d (.seq .d (.cut [6,8] [] (.seq .d (.blk (.loop [2,3,6,8,9] [⟨8,[0],.own 5 (.int .u8)⟩] (.seq .d (.cut [2,3,6,8,9] [] (.blk (.seq .d (.keep [2,3,6,8,9,10,39,40,41,42,43] true))) .d))))) .d))))),kt [F126.k,F127.k] false,[(175,(.blk (.loop [0,1,2] [] (.seq .d (.blk (.cut [0,1,2] [] .d (.seq .d (.cut [0,1,2,7] [] .d .d))))))))],f124⟩
def t44(a:Int)(g:LB)(b f:Int)(m n:UInt64)(k h:Int)(u:LB):S:=⟨[(0,.ptr 0 []),(1,vq n),(2,vi k)],[.box 113 (.agg [.own 3,vi h]),.box 113 (.agg [vb g,vi b]),.box 113 (.agg [.nils,vi 0]),Ab 5 u],[[(2,vi a),(3,.ptr 1 []),(6,.ptr 2 []),(8,.ptr 0 []),(9,vi f),(10,vi (Iu (64:Int) (Aq a f))),(39,.agg [vb g,vi b]),(40,vi f),(41,vi (Iu (64:Int) (Aq a f))),(42,vq m),(43,vi (Iu (64:Int) (Aq a f)))]]⟩
def z44(VX:K_):Nat->S->Option R_:=H.i P_ [r,r,r,r,l,r,d,(lp VX),r,l,d,r,(call 5 175),d]
def t27(a:Int)(g:LB)(b f o:Int)(p:LB):S:=⟨[(2,vi a),(3,.ptr 0 []),(6,.ptr 1 []),(8,.ptr 2 []),(9,vi f)],[.box 113 (.agg [vb g,vi b]),.box 113 (.agg [.nils,vi 0]),.box 113 (.agg [.own 3,vi o]),Ab 5 p],[]⟩
def z27:Nat->S->Option R_:=H.i P_ [r,r,r,r,l,r,d]
def x44(VX:K_)(a:Int)(g:LB)(b f:Int)(m n:UInt64)(k h:Int)(u:LB):Option R_:=H.e P_ [r,r,r,r,l,r,d,(lp VX),r,l,d,r,(call 5 175),d] (t44 a g b f m n k h u)
theorem i44(VX:K_)(a:Int)(g:LB)(b f:Int)(m:UInt64):∀(q:Nat) (n:UInt64) (k h:Int) (u:LB),z44 VX q (t44 a g b f m n k h u)=Sk (λf o p=>VX (t27 a g b f o p)) a g b f m q n k h u:=
 ind (λ_ _ _ _=>by kernel_rfl) λq ih n k h u=>Eq.trans (b:=XP (XS (λn k h u=>(z44 VX q) (t44 a g b f m n k h u)) a f g b m) (XH (λf o p=>VX (t27 a g b f o p)) a g b) a g b f m n k h u) F5 (by simp only[ih]<;>rfl)
theorem e44(VX:K_)(a:Int)(g:LB)(b:Int):x44 VX a g b=nU (λf o p=>VX (t27 a g b f o p)) a g b:=by funext f m n k h u;exact Eq.trans F5 ((i44 VX a g b f m Dn n k h u).trans (by rw[Bc];rfl))
theorem i27(a:Int)(g:LB)(b:Int):∀(q:Nat) (f o:Int) (p:LB),z27 q (t27 a g b f o p)=BS a g b q f o p:=
 ind (λ_ _ _=>by kernel_rfl) λq ih f o p=>Eq.trans (b:=nR (x44 (z27 q) a g b) mB a g b f o p) F5 (by simp only[e44,ih]<;>rfl)
def k:Kc P_ gl:=⟨(124,⟨H.p,H.r,u4 tC⟩),co H func124 (λx=>Eq.trans (b:=u4 (tK (λa g b f o p=>z27 Dn (t27 a g b f o p))) x) F5 (by simp only[i27,Bc]<;>rfl))⟩
end F124
namespace F71
def H:Hd:=⟨[.agg [Sb,Si],Si,Si],[Sq,Si],.d,kt [F126.k,F127.k] false,[],f71⟩
def k:Kc P_ gl:=⟨(71,⟨H.p,H.r,u4 LO⟩),co H func71⟩
end F71
namespace F239
def H:Hd:=⟨[Sq],[Si],.d,kt [] false,[],f239⟩
def k:Kc P_ gl:=⟨(239,⟨H.p,H.r,If⟩),co H func239⟩
end F239
namespace F215
def cV(j6:Int->UInt64->Int->LB->Int->Option (Int×Int×Int))(g:LB)(b a:Int):Option (Int×Int×Int):=
(Le g b).bind λm=>
if(Bg m 0)then
some (0,0,m)
else
if(Cj a 0)then
some (0,0,2)
else
if(Mk a b)then
some (0,0,24)
else
(λn:Option (Int×Int×Int)=>
(λo:Option (Int×Int×Int)=>
bo2 (
o)) (
bo (
n))) (
(LO g b a (Iu 48 (Aq b a))).bind λ(k,h)=>
j6 h k a g b)
theorem E5: @cV= @EU:=by
  unfold cV EU;simp only[lB,OR,QM]
abbrev R_:=(Int×Int×Int)
def H:Hd:=⟨[.agg [Sb,Si],Si],[Si,Si,Si],(.seq .d (.seq .d (.seq .d (.seq .d (.seq .d (.cut [3,5,6,8,9] [] (.keep [2,3,5,6,8,9,22,23,24,25,26,27,28,29] false) (.seq .d (.seq .d (.cut [] [] (.blk (.seq (.blk (.seq (.blk (.cut [] [] (.cut [3,4,5] [] (.cut [3,4,5,36] [] (.keep [3,4,5,8,36,37,38,39,40] true) .d) .d) .d)) .d)) .d)) .d))))))))),kt [F71.k,F126.k,F239.k] false,[(238,.d)],f215⟩
def k:Kc P_ gl:=⟨(215,⟨H.p,H.r,u3 QE⟩),co H func215 (λx=>Eq.trans (b:=u3 (cV gM) x) F5 (by simp only[E5]<;>rfl))⟩
end F215
namespace F177
abbrev R_:=(UInt32×Int×Int)
def H:Hd:=⟨[.agg [Sb,Si],Si,Si],[Su,Si,Si],(.seq .d (.seq .d (.seq .d (.seq .d (.seq .d (.seq .d (.cut [2,3,7,10,11] [] .d .d))))))),kt [F71.k,F126.k,F215.k,F216.k] false,[],f177⟩
def k:Kc P_ gl:=⟨(177,⟨H.p,H.r,u4 wF⟩),co H func177⟩
end F177
namespace F125
abbrev R_:=(UInt32×Int×Int×Int×UInt64×UInt64×Int)
def H:Hd:=⟨[.agg [Sb,Si],Si,.agg [Si,Si,Sq,Sq]],[Su,Si,.agg [Si,Si,Sq,Sq],Si],(.seq .d (.cut [1,3,5,8] [] .d (.seq .d (.seq .d (.cut [5,6,7,8] [] .d (.cut [5,6,7,8] [] (.keep [5,6,7,8,81] true) .d)))))),kt [F71.k,F126.k,F176.k,F177.k,F191.k] false,[(178,(.seq .d (.seq .d (.seq .d (.blk (.cut [0,1,4] [] (.blk (.seq .d (.keep [0,1,4,6,18,19,20,21,22,23,24,25] true))) (.cut [] [] (.keep [0,1,4,27,28,29,30,31,32,33,34] true) .d))))))),(217,.d)],f125⟩
def x8(f:UInt32)(k a:Int)(b:UInt64)(m:Int)(n:UInt64):Option R_:=H.e P_ [r,r,r,r,r,l,(call 1 178),r,r,r,d,r] ⟨[(0,.ptr 0 []),(1,vu f),(4,.fn 217 [])],[.box 191 (.agg [vi a,vi m,vq b,vq n]),.box 191 (.agg [vi 0,vi 0,vq 0,vq 0])],[[(5,.ptr 0 []),(6,vu f),(7,vi k),(8,.ptr 1 []),(81,vu f)]]⟩
theorem e8:x8=MN:=F5
def k:Kc P_ gl:=⟨(125,⟨H.p,H.r,u7 PT⟩),co H func125 (λx=>Eq.trans (b:=u7 (oK (mL (mC x8))) x) F5 (by simp only[e8]<;>rfl))⟩
end F125
namespace F70
def DO(j21:Int->Int->Int->UInt32->Int-> (List (Int×Int×UInt64×UInt64×Unit))->LU->Int->Int->UInt64->UInt64->Option (LU×Int×Int))(j24:Int->LU->Option (LU×Int×Int))(a f:Int)(g:LB)(b k h:Int)(m:List (Int×Int×UInt64×UInt64×Unit))(n:LU):Option (LU×Int×Int):=
if(Cj h (Bi f a))then
(tC g b k (Iu (Ae k 81) b)).bind λ(ag,ae,af)=>
if(Bg af 0)then
some (([]:LU),0,af)
else
(Jg (Bg a 0)).bind λ_=>
(Am m (Ha h a)).bind λ_=>
(λai:Option (LU×Int×Int)=>
both (
both (
(Am m (Ha h a)).bind λo=>
(λao:Option (LU×Int×Int)=>
bo (
ao)) (
(PT ag ae 0 o.1 o.2.1 o.2.2.1 o.2.2.2.1).bind λ(w,v,aa,ab,ac,ad,y)=>
j21 k h y w v m n aa ab ac ad)) [
ai]) [
(Am m (Ha h a)).bind λo=>
(λaj:Option (LU×Int×Int)=>
both (
bo (
aj)) [
aj]) (
(PT ag ae 0 o.1 o.2.1 o.2.2.1 o.2.2.2.1).bind λ(w,v,aa,ab,ac,ad,y)=>
j21 k h y w v m n aa ab ac ad),
bo (
ai)]) (
(Am m (Ha h a)).bind λo=>
(PT ag ae 0 o.1 o.2.1 o.2.2.1 o.2.2.2.1).bind λ(w,v,aa,ab,ac,ad,y)=>
j21 k h y w v m n aa ab ac ad)
else
j24 k n
theorem oG: @DO= @Xj:=by
  unfold DO Xj
  try simp only[lB,OR,QM]
  all_goals
    repeat (refine funext λ_=>?_)
    repeat' first
      |with_reducible rfl
      |with_reducible refine Qu ?_ ?_
      |with_reducible refine Qg ?_ ?_ ?_
      |with_reducible refine Qv ?_ ?_ ?_ ?_
      |((with_reducible refine Xf ?_ ?_);focus (intro h;first|(subst h;rfl)|(simp only[h];rfl)|(simp[Dt,Ac,h];done)))
      |with_reducible refine Wk λx=>?_
      |with_reducible refine FW (λ_=>?_) (λ_=>?_)
      |(refine Jh (λh=>by simp only[h,Wx,Gb,Fw,ite_self]) (λx h=>?_);(try simp only[h,Gb]))
      |(refine Ms (λh=>?_) (λh=>?_)<;>simp only[h,if_true,if_false,Bool.false_eq_true])
abbrev R_:=(LU×Int×Int)
abbrev K_:=S->Option R_
def H:Hd:=⟨[Si,Si,.agg [Sb,Si]],[Ov 134,Si,Si],(.seq .d (.seq .d (.cut [0,1,5,9] [] (.seq .d (.blk (.loop [0,1,5,9,19] [] .d))) (.seq .d (.seq .d (.cut [11,12] [] (.seq .d (.blk (.loop [0,5,9,11,12,28,29] [⟨11,[],.own 134 (.int .u32)⟩] (.seq .d (.seq .d (.seq (.blk (.seq .d (.seq .d (.seq .d (.cut [0,5,9,11,12,13,15,16,17,18,28,29] [] (.mode false) (.seq .d (.cut [0,5,9,11,12,16,28,29] [] .d .d))))))) .d)))))) .d)))))),kt [F123.k,F124.k,F125.k] false,[],f70⟩
def t16(a f:Int)(g:LB)(b k h:Int)(m:List (Int×Int×UInt64×UInt64×Unit))(n:LU):S:=⟨[(0,vi a),(5,.ptr 0 []),(9,.ptr 1 []),(11,.own 2),(12,vi k),(28,vi (Bi f a)),(29,vi h)],[.box 113 (.agg [vb g,vi b]),.box 192 (.val (.vec 6 (.cons (.int .i64) (.cons (.int .i64) (.cons (.int .u64) (.cons (.int .u64) .nil))))) m),Av 134 n],[]⟩
def z16:Nat->S->Option R_:=H.i P_ [r,r,r,r,r,l,r,d]
def t13(a f:Int)(g:LB)(b u:Int)(p:List (Int×Int×UInt64×UInt64×Unit)):S:=⟨[(0,vi a),(1,vi f),(5,.ptr 0 []),(9,.ptr 1 []),(19,vi u)],[.box 113 (.agg [vb g,vi b]),.box 192 (.val (.vec 6 (.cons (.int .i64) (.cons (.int .i64) (.cons (.int .u64) (.cons (.int .u64) .nil))))) p)],[]⟩
def z13:Nat->S->Option R_:=H.i P_ [r,r,l,r,d]
def x16(a f:Int)(g:LB)(b k h:Int)(m:List (Int×Int×UInt64×UInt64×Unit))(n:LU):Option R_:=H.e P_ [r,r,r,r,r,l,r,d] (t16 a f g b k h m n)
theorem i16(a f:Int)(g:LB)(b:Int):∀(q:Nat) (k h:Int) (m:List (Int×Int×UInt64×UInt64×Unit)) (n:LU),z16 q (t16 a f g b k h m n)=Qh a f g b q k h m n:=
 ind (λ_ _ _ _=>by kernel_rfl) λq ih k h m n=>Eq.trans (b:=DO (Ws (λk h m n=>(z16 q) (t16 a f g b k h m n)) a f g b) bW a f g b k h m n) F5 (by rw[oG];simp only[ih]<;>rfl)
theorem e16:x16=cL:=by funext a f g b k h m n;exact Eq.trans F5 ((i16 a f g b Dn k h m n).trans (by rw[Bc];rfl))
theorem i13(a f:Int)(g:LB)(b:Int):∀(q:Nat) (u:Int) (p:List (Int×Int×UInt64×UInt64×Unit)),z13 q (t13 a f g b u p)=FT a f g b q u p:=
 ind (λ_ _=>by kernel_rfl) λq ih u p=>Eq.trans (b:=ZJ (YZ x16) (λu p=>(z13 q) (t13 a f g b u p)) a f g b u p) F5 (by simp only[e16,ih]<;>rfl)
def k:Kc P_ gl:=⟨(70,⟨H.p,H.r,u4 KP⟩),co H func70 (λx=>Eq.trans (b:=u4 (KO (λa f g b u p=>z13 Dn (t13 a f g b u p))) x) F5 (by simp only[i13,Bc]<;>rfl))⟩
end F70
namespace F130
def H:Hd:=⟨[Su],[Sx],.d,kt [] false,[],f130⟩
def k:Kc P_ gl:=⟨(130,⟨H.p,H.r,CP⟩),co H func130⟩
end F130
namespace F182
def H:Hd:=⟨[.agg [Si,.lf (.vec 16 (.int .i32)) none,.lf (.vec 16 (.int .i32)) none],Sx],[Sx,.agg [Si,.lf (.vec 16 (.int .i32)) none,.lf (.vec 16 (.int .i32)) none],Si],.d,kt [F220.k,F221.k] false,[],f182⟩
def k:Kc P_ gl:=⟨(182,⟨H.p,H.r,u4 uR⟩),co H func182⟩
end F182
namespace F129
def aN(a:Int)(b:Int32)(f:Int)(g h:LX)(o:Int32):Option (Int32×Int×Int32×Int×LX×LX×Int):=
(AO a b f g h).bind λk=>
if(Bg k 0)then
some (0,0,0,0,(List.replicate 16 (0:Int32)),(List.replicate 16 (0:Int32)),k)
else
(AP a b).bind λ(m,y)=>
(uR f g h o).bind λ(n,p,u,v,w)=>
(λaa:Option (Int32×Int×Int32×Int×LX×LX×Int)=>
bo (
aa)) (
some ((Ae n m),a,(Ae n m),p,u,v,w))
theorem H7: @aN= @On:=by
  unfold aN On;simp only[lB,OR,QM]
def H:Hd:=⟨[.agg [Si,Sx,.agg [Si,.lf (.vec 16 (.int .i32)) none,.lf (.vec 16 (.int .i32)) none]],Sx],[Sx,.agg [Si,Sx,.agg [Si,.lf (.vec 16 (.int .i32)) none,.lf (.vec 16 (.int .i32)) none]],Si],(.seq .d (.seq .d (.seq .d (.seq .d (.seq (.mode false) .d))))),kt [F180.k,F181.k,F182.k] false,[],f129⟩
def k:Kc P_ gl:=⟨(129,⟨H.p,H.r,u6 On⟩),co H func129 (λx=>Eq.trans (b:=u6 aN x) F5 (by simp only[H7]<;>rfl))⟩
end F129
namespace F131
abbrev R_:=(LX×Int)
abbrev K_:=S->Option R_
def H:Hd:=⟨[Si,Sw],[Ow 21,Si],(.seq .d (.seq .d (.seq .d (.cut [7] [] (.seq .d (.blk (.loop [0,7,8] [] (.seq .d (.cut [0,7,8] [] (.blk (.keep [0,7,8,24,25,26,27,28,29] true)) .d))))) .d)))),kt [F183.k,F184.k] true,[(185,(.seq .d (.cut [0,2] [] .d (.seq .d (.blk (.loop [0,3] [] .d))))))],f131⟩
def t18(b a g:Int)(h:LX):S:=⟨[(0,.view true 0 [] (.int .i32) a ((Ae a b)-a)),(3,vi g)],[Aw 21 h],[[(0,vi b),(7,.own 0),(8,vi a),(24,.own 0),(25,vi a),(26,vi a),(27,vi b),(28,vi (Ae a b)),(29,.view true 0 [] (.int .i32) a ((Ae a b)-a))]]⟩
def z18(VW:K_):Nat->S->Option R_:=H.i P_ [r,r,r,l,r,d,(lp VW),r,l,d,(call 6 185),r,r,r,d]
def t12(b a:Int)(f:LX):S:=⟨[(0,vi b),(7,.own 0),(8,vi a)],[Aw 21 f],[]⟩
def z12:Nat->S->Option R_:=H.i P_ [r,r,r,l,r,d]
def x18(VW:K_)(b a g:Int)(h:LX):Option R_:=H.e P_ [r,r,r,l,r,d,(lp VW),r,l,d,(call 6 185),r,r,r,d] (t18 b a g h)
theorem i18(VW:K_)(b a:Int):∀(q:Nat) (g:Int) (h:LX),z18 VW q (t18 b a g h)=CM (λa f=>VW (t12 b a f)) b a q g h:=
 ind (λ_ _=>by kernel_rfl) λq ih g h=>Eq.trans (b:=XL (nI (λa f=>VW (t12 b a f)) b) (λg h=>(z18 VW q) (t18 b a g h)) b a g h) F5 (by simp only[ih]<;>rfl)
theorem e18(VW:K_)(b:Int):x18 VW b=mA (λa f=>VW (t12 b a f)) b:=by funext a g h;exact Eq.trans F5 ((i18 VW b a Dn g h).trans (by rw[Bc];rfl))
theorem i12(b:Int):∀(q:Nat) (a:Int) (f:LX),z12 q (t12 b a f)=Wv b q a f:=
 ind (λ_ _=>by kernel_rfl) λq ih a f=>Eq.trans (b:=lW (lN (x18 (z12 q) b) b) G7 b a f) F5 (by simp only[e18,ih]<;>rfl)
def k:Kc P_ gl:=⟨(131,⟨H.p,H.r,u2 I0⟩),co H func131 (λx=>Eq.trans (b:=u2 (uW (λb a f=>z12 Dn (t12 b a f))) x) F5 (by simp only[i12,Bc]<;>rfl))⟩
end F131
namespace F72
def AY(j16:Int->Int32->Int-> (List (Int×Int32×(Int×LX×LX×Unit)×Unit))->LX->Int->Int32->Int->LX->LX->Option (LX×Int))(j18:Int->Int->LX->Option (LX×Int))(f:LU)(a b g:Int)(h:List (Int×Int32×(Int×LX×LX×Unit)×Unit))(k:LX):Option (LX×Int):=
if(Cj g (Ac f))then
(Am f g).bind λag=>
(Jg (Bg a 0)).bind λ_=>
(Am h (Ha g a)).bind λ_=>
both (
(Am h (Ha g a)).bind λm=>
both (
(CP ag).bind λae=>
(λao:Option (LX×Int)=>
bo (
ao)) (
(On m.1 m.2.1 m.2.2.1.1 m.2.2.1.2.1 m.2.2.1.2.2.1 ae).bind λ(y,aa,w,ab,ac,ad,v)=>
j16 g y v h k aa w ab ac ad)) [
(CP ag).bind λae=>
(On m.1 m.2.1 m.2.2.1.1 m.2.2.1.2.1 m.2.2.1.2.2.1 ae).bind λ(y,aa,w,ab,ac,ad,v)=>
j16 g y v h k aa w ab ac ad]) [
(CP ag).bind λaf=>
both (
(Am h (Ha g a)).bind λu=>
(λap:Option (LX×Int)=>
bo (
ap)) (
(On u.1 u.2.1 u.2.2.1.1 u.2.2.1.2.1 u.2.2.1.2.2.1 af).bind λ(y,aa,w,ab,ac,ad,v)=>
j16 g y v h k aa w ab ac ad)) [
(Am h (Ha g a)).bind λu=>
(On u.1 u.2.1 u.2.2.1.1 u.2.2.1.2.1 u.2.2.1.2.2.1 af).bind λ(y,aa,w,ab,ac,ad,v)=>
j16 g y v h k aa w ab ac ad],
both (
(Am h (Ha g a)).bind λm=>
(CP ag).bind λae=>
(On m.1 m.2.1 m.2.2.1.1 m.2.2.1.2.1 m.2.2.1.2.2.1 ae).bind λ(y,aa,w,ab,ac,ad,v)=>
j16 g y v h k aa w ab ac ad) [
(CP ag).bind λaf=>
(Am h (Ha g a)).bind λu=>
(On u.1 u.2.1 u.2.2.1.1 u.2.2.1.2.1 u.2.2.1.2.2.1 af).bind λ(y,aa,w,ab,ac,ad,v)=>
j16 g y v h k aa w ab ac ad]]
else
j18 a b k
theorem iR: @AY= @Ox:=by
  unfold AY Ox
  try simp only[lB,OR,QM]
  all_goals
    repeat (refine funext λ_=>?_)
    repeat' first
      |with_reducible rfl
      |with_reducible refine Qu ?_ ?_
      |with_reducible refine Qg ?_ ?_ ?_
      |with_reducible refine Qv ?_ ?_ ?_ ?_
      |((with_reducible refine Xf ?_ ?_);focus (intro h;first|(subst h;rfl)|(simp only[h];rfl)|(simp[Dt,Ac,h];done)))
      |with_reducible refine Wk λx=>?_
      |with_reducible refine FW (λ_=>?_) (λ_=>?_)
      |(refine Jh (λh=>by simp only[h,Wx,Gb,Fw,ite_self]) (λx h=>?_);(try simp only[h,Gb]))
      |(refine Ms (λh=>?_) (λh=>?_)<;>simp only[h,if_true,if_false,Bool.false_eq_true])
abbrev R_:=(LX×Int)
abbrev K_:=S->Option R_
def H:Hd:=⟨[.agg [Si,Si],.lf (.vec 16 (.int .i32)) none,Sv],[Ow 21,Si],(.seq .d (.seq .d (.cut [2,3,8] [] (.seq .d (.blk (.loop [2,3,4,8,20] [] .d))) (.seq .d (.cut [3,10] [] (.seq .d (.blk (.loop [3,8,10,33,34,35] [⟨10,[],.own 21 (.int .i32)⟩] (.seq .d (.seq .d (.seq (.blk (.seq .d (.seq .d (.cut [3,8,10,13,14,15,16,33,34,35] [] (.mode false) .d)))) .d)))))) .d))))),kt [F100.k,F128.k,F129.k,F130.k,F131.k] false,[],f72⟩
def t13(f:LU)(a b g:Int)(h:List (Int×Int32×(Int×LX×LX×Unit)×Unit))(k:LX):S:=⟨[(3,.ptr 0 []),(8,.ptr 1 []),(10,.own 2),(33,vv f),(34,vi (Ac f)),(35,vi g)],[.box 63 (.agg [vi a,vi b]),.box 203 (.val (.vec 6 (.cons (.int .i64) (.cons (.int .i32) (.cons (.cons (.int .i64) (.cons (.vec 16 (.int .i32)) (.cons (.vec 16 (.int .i32)) .nil))) .nil)))) h),Aw 21 k],[]⟩
def z13:Nat->S->Option R_:=H.i P_ [r,r,r,r,l,r,d]
def t10(f:LU)(a b:Int)(o:LX)(p:Int)(n:List (Int×Int32×(Int×LX×LX×Unit)×Unit)):S:=⟨[(2,vv f),(3,.ptr 0 []),(4,.ptr 1 []),(8,.ptr 2 []),(20,vi p)],[.box 63 (.agg [vi a,vi b]),.box 64 (.val (.vec 16 (.int .i32)) o),.box 203 (.val (.vec 6 (.cons (.int .i64) (.cons (.int .i32) (.cons (.cons (.int .i64) (.cons (.vec 16 (.int .i32)) (.cons (.vec 16 (.int .i32)) .nil))) .nil)))) n)],[]⟩
def z10:Nat->S->Option R_:=H.i P_ [r,r,l,r,d]
def x13(f:LU)(a b g:Int)(h:List (Int×Int32×(Int×LX×LX×Unit)×Unit))(k:LX):Option R_:=H.e P_ [r,r,r,r,l,r,d] (t13 f a b g h k)
theorem i13(f:LU)(a b:Int):∀(q:Nat) (g:Int) (h:List (Int×Int32×(Int×LX×LX×Unit)×Unit)) (k:LX),z13 q (t13 f a b g h k)=Lk f a b q g h k:=
 ind (λ_ _ _=>by kernel_rfl) λq ih g h k=>Eq.trans (b:=AY (DR (λg h k=>(z13 q) (t13 f a b g h k)) a f b) Oy f a b g h k) F5 (by rw[iR];simp only[ih]<;>rfl)
theorem e13:x13=XF:=by funext f a b g h k;exact Eq.trans F5 ((i13 f a b Dn g h k).trans (by rw[Bc];rfl))
theorem i10(f:LU)(a b:Int)(o:LX):∀(q:Nat) (p:Int) (n:List (Int×Int32×(Int×LX×LX×Unit)×Unit)),z10 q (t10 f a b o p n)=DY f a b o q p n:=
 ind (λ_ _=>by kernel_rfl) λq ih p n=>Eq.trans (b:=XB (WW x13) (λp n=>(z10 q) (t10 f a b o p n)) f a b o p n) F5 (by simp only[e13,ih]<;>rfl)
def k:Kc P_ gl:=⟨(72,⟨H.p,H.r,u4 Xo⟩),co H func72 (λx=>Eq.trans (b:=u4 (GN (λf a b o p n=>z10 Dn (t10 f a b o p n))) x) F5 (by simp only[i10,Bc]<;>rfl))⟩
end F72
namespace F31
def H:Hd:=⟨[.agg [Si,Si],.lf (.vec 16 (.int .i32)) none,Si,Sb],[Ow 21,Si],.d,kt [F67.k,F68.k,F69.k,F70.k,F71.k,F72.k] false,[],f31⟩
def k:Kc P_ gl:=⟨(31,⟨H.p,H.r,u5 Kj⟩),co H func31⟩
end F31
namespace F249
abbrev R_:=Int
def H:Hd:=⟨[Sl,Si],[Si],(.seq .d (.cut [] [] (.seq .d (.blk (.loop [0,1,7,8] [] .d))) .d)),kt [] false,[],f249⟩
def t4(a:LI)(b f:Int):S:=⟨[(0,vl a),(1,vi b),(7,vi (Ac a)),(8,vi f)],[],[]⟩
def z4:Nat->S->Option R_:=H.i P_ [r,l,r,d]
theorem i4(a:LI)(b:Int):∀(q:Nat) (f:Int),z4 q (t4 a b f)=Cg a b q f:=
 ind (λ_=>by kernel_rfl) λq ih f=>Eq.trans (b:=Fl Ps (λf=>(z4 q) (t4 a b f)) a b f) F5 (by simp only[ih]<;>rfl)
def k:Kc P_ gl:=⟨(249,⟨H.p,H.r,u2 Kv⟩),co H func249 (λx=>Eq.trans (b:=u2 (Jc (λa b f=>z4 Dn (t4 a b f))) x) F5 (by simp only[i4,Bc]<;>rfl))⟩
end F249
namespace F246
def H:Hd:=⟨[Sl,Si],[Sz],.d,kt [F249.k] false,[],f246⟩
def k:Kc P_ gl:=⟨(246,⟨H.p,H.r,u2 Iw⟩),co H func246⟩
end F246
namespace F228
def H:Hd:=⟨[Si],[Sz],.d,kt [F246.k] false,[],f228⟩
def k:Kc P_ gl:=⟨(228,⟨H.p,H.r,Tl⟩),co H func228⟩
end F228
namespace F199
def FR(j28:Bool->Int->Option Int)(y ac:Int)(g a:LB)(h p m u v b:Int)(n:Bool)(o:Int)(ak:LX)(f:LI)(k:LB):Option Int:=
if(Bg ac 0)then
(Ao ac).bind λ(bi,bj)=>
j28 bi bj
else
(Jy m ak).bind λ(bk,bb)=>
if(Bg bb 0)then
(Ao bb).bind λ(bl,bm)=>
j28 bl bm
else
(Dt k bk).bind λdv=>
(λfa:Option Int=>
bo (
fa)) (
(Br a y (Ac a)).bind λdw=>
j28 false 0)
theorem qL: @FR= @Zp:=by
  unfold FR Zp;simp only[lB,OR,QM]
def IP(j13:Bool->Int->Option Int)(j12:LB->LB->Int->Int->Int->Int->Int->Int->Bool->Int->LI->LB->Option Int)(j25:Bool->Int->Option Int)(j23:LB->LB->Int->Int->Int->Int->Int->Int->Bool->Int->LI->LB->Option Int)(j24:LB->LB->Int->Int->Int->Int->Int->Int->Bool->Int->LI->LB->Int->Option Int)(j28:Bool->Int->Option Int)(j26:Int->LB->LB->Int->Int->Int->Int->Int->Int->Bool->Int->LX->LI->LI->LB->Option Int)(j22:Bool->Option Int)(j21:Option Int)(al am:LB)(an ao ap aq ar:Int)(au:LI)(ad:Int)(ae:LB)(aa:Bool)(w:Int):Option Int:=
if(Dx (Ac al) 64)then
some 8
else
if((geq w 0)&&(!aa))then
(Es al am an ao ap aq ar au ad ae aa w).bind λ(g,a,h,p,m,u,v,f,b,k,n,o)=>
(BT al am an ao ap aq ar au ad ae aa w).bind λbn=>
if bn then
if(geq h 0)then
(Ju a).bind λ(ah,av)=>
if(geq av 24)then
j13 true 0
else
if(Bg av 0)then
(Ao av).bind λ(bp,bq)=>
j13 bp bq
else
(Br a ah (Ac a)).bind λbr=>
(Tf br).bind λaj=>
if aj then
j13 true 0
else
(Br a ah (Ac a)).bind λbs=>
(Nh bs).bind λ(ay,az,ab,ba,af,aw)=>
if(geq aw 24)then
j13 true 0
else
if(Bg aw 0)then
(Ao aw).bind λ(bt,bu)=>
j13 bt bu
else
both (
(Br a (Ae ah 22) (Ac a)).bind λax=>
(λfb:Option Int=>
bo (
fb)) (
j12 g ax ay az ab ba af b n o f k)) [
(Br a (Ae ah 22) (Ac a)).bind λax=>
j12 g ax ay az ab ba af b n o f k]
else
if(geq (Ac f) 0)then
if(geq h 2)then
if(Cj (Ac a) 8)then
j25 true 0
else
j23 g a h p m u v b n o f k
else
j24 g a h p m u v b n o f k 0
else
if(Cj b (Ac f))then
(Am f b).bind λ_=>
(Am f b).bind λy=>
if(Cj (Ac a) y)then
j28 true 0
else
(Oa g).bind λ(bc,ai)=>
if(Bg ai 0)then
(Ao ai).bind λ(bv,bw)=>
j28 bv bw
else
(Eb h p m u v).bind λ(ag,bx)=>
if((Bg bx 0)||(Mk b (Ac ag)))then
(Ao 8).bind λ(bz,da)=>
j28 bz da
else
j26 y g a h p m u v b n o bc ag f k
else
if(Dx (Ac a) 4000)then
(Ao 38).bind λ(db,bd)=>
j22 ((db==true)&&((geq bd 0)&&true))
else
j21
else
j22 false
else
if((geq (Ac am) 0)&&(geq (Ac au) 0))then
if((((geq an 0)&&((geq ao 0)&&((geq ap 0)&&((geq aq 0)&&((geq ar 0)&&true)))))&&(geq ad 0))&&(T5 (Ac ae) 12000))then
if(geq w 0)then
j22 true
else
if(!aa)then
(Tl w).bind λdc=>
j22 dc
else
j22 false
else
j22 false
else
if((false&&(geq ad 0))&&(T5 (Ac ae) 12000))then
if(geq w 0)then
j22 true
else
if(!aa)then
(Tl w).bind λdd=>
j22 dd
else
j22 false
else
j22 false
theorem uU: @IP= @CI:=by
  unfold IP CI
  try simp only[lB,OR,QM]
  all_goals
    repeat (refine funext λ_=>?_)
    repeat' first
      |with_reducible rfl
      |with_reducible refine Qu ?_ ?_
      |with_reducible refine Qg ?_ ?_ ?_
      |with_reducible refine Qv ?_ ?_ ?_ ?_
      |((with_reducible refine Xf ?_ ?_);focus (intro h;first|(subst h;rfl)|(simp only[h];rfl)|(simp[Dt,Ac,h];done)))
      |with_reducible refine Wk λx=>?_
      |with_reducible refine FW (λ_=>?_) (λ_=>?_)
      |(refine Jh (λh=>by simp only[h,Wx,Gb,Fw,ite_self]) (λx h=>?_);(try simp only[h,Gb]))
      |(refine Ms (λh=>?_) (λh=>?_)<;>simp only[h,if_true,if_false,Bool.false_eq_true])
abbrev R_:=Int
def H:Hd:=⟨[.agg [Ss,Sb,.agg [Si,Si,Si,Si,Si],Sl,Si,Sb,Sz,Si]],[Si],(.seq .d (.seq .d (.seq .d (.cut [3] [] (.seq .d (.cond (.seq .d (.keep [3,21,22,23,24,25] false)) .d)) .d)))),kt [F30.k,F31.k,F54.k,⟨(60,Yg),MP⟩,F61.k,F62.k,F63.k,F64.k,F155.k,F203.k,F227.k,F228.k,F229.k,F230.k,F231.k] false,[(154,(.seq .d (.cut [2] [] (.blk (.seq .d (.cond (.cut [2] [] (.keep [2,11] true) .d) (.seq .d (.cond (.cut [2] [] (.keep [2,20] true) .d) (.seq .d (.cond (.cut [2] [] (.keep [2,33] true) .d) .d))))))) .d))),(200,(.seq .d (.seq .d (.seq .d (.seq .d (.seq .d (.cut [0,2,5] [] (.mode false) .d))))))),(201,(.seq .d (.seq .d (.cut [0,2,3] [⟨0,[1],.ro (.int .u8)⟩] (.seq .d (.cond (.seq .d (.cut [0,2,3] [⟨0,[1],.ro (.int .u8)⟩,⟨9,[1],.ro (.int .u8)⟩,⟨10,[1],.ro (.int .u8)⟩,⟨15,[1],.ro (.int .u8)⟩,⟨16,[1],.ro (.int .u8)⟩,⟨18,[],.ro (.int .u8)⟩] .d (.cut [0,2,3,4,5] [] .d .d))) .d)) .d)))),(202,(.seq .d (.seq .d (.seq .d (.seq .d (.seq .d (.seq .d (.cut [0,2,3,4,6] [⟨0,[1],.ro (.int .u8)⟩,⟨9,[1],.ro (.int .u8)⟩,⟨10,[1],.ro (.int .u8)⟩,⟨13,[1],.ro (.int .u8)⟩,⟨14,[1],.ro (.int .u8)⟩,⟨19,[1],.ro (.int .u8)⟩,⟨20,[1],.ro (.int .u8)⟩,⟨22,[],.ro (.int .u8)⟩,⟨28,[1],.ro (.int .u8)⟩,⟨29,[1],.ro (.int .u8)⟩,⟨40,[1],.ro (.int .u8)⟩,⟨41,[1],.ro (.int .u8)⟩] .d (.cut [0,2,3,5,7] [] .d (.seq .d (.seq .d (.seq .d (.seq .d (.seq (.mode false) .d))))))))))))))],f199⟩
def x27(y ac:Int)(g a:LB)(h p m u v b:Int)(n:Bool)(o:Int)(ak:LX)(f:LI)(k:LB):Option R_:=H.e P_ [r,r,r,l,r,l,r,(dcall 3 154 3 #[true,true,true,true,true,true,true,true] #[true,true,true,true,true,false,false,false]),r,l,d,r,r,r,r,r,l,l,(call 1 202),r,r,r,r,r,r,r,r] ⟨[(0,.ptr 0 []),(2,.ptr 1 []),(3,vi y),(5,vi ac),(7,.own 2)],[.box 149 (.agg [vs g,vb a,.agg [vi h,vi p,vi m,vi u,vi v],.own 4,vi b,.own 5,vt n,vi o]),.box 240 (.agg [vt false,vi 0]),Aw 21 ak,.box 240 (.agg [vt false,vi 0]),Ai 3 f,Ab 5 k],[[(2,.ptr 3 [])],[(3,vt false),(21,.cst (.bool true)),(23,.agg [vt true,vi 0])]]⟩
theorem e27:x27=NA:=Eq.trans (b:=FR Gt) F5 (by rw[qL];rfl)
def k:Kc P_ gl:=⟨(199,⟨H.p,H.r,u12 Pv⟩),co H func199 (λx=>Eq.trans (b:=u12 (IP Fj Ze Kw Zb Lj Gt (KV x27) Bz Zm) x) F5 (by rw[uU];simp only[e27]<;>rfl))⟩
end F199
namespace F153
def KZ(f g:LB)(h k m n o:Int)(p:LI)(u:Int)(v:LB)(b:Bool)(a:Int):Option (LB×LB×Int×Int×Int×Int×Int×LI×Int×LB×Bool×Int×Int):=
(Pv f g h k m n o p u v b a).bind λw=>
if(Bg w 0)then
some (([]:LB),([]:LB),0,0,0,0,0,([]:LI),0,([]:LB),false,0,w)
else
if(Bg a 0)then
(λbl:Option (LB×LB×Int×Int×Int×Int×Int×LI×Int×LB×Bool×Int×Int)=>
both (
both (
(Es f g h k m n o p u v b a).bind λ(y,aa,ab,ac,ad,ae,af,ag,ah,ai,aj,ak)=>
(λbm:Option (LB×LB×Int×Int×Int×Int×Int×LI×Int×LB×Bool×Int×Int)=>
bo (
bm)) (
some (y,aa,ab,ac,ad,ae,af,ag,ah,ai,aj,ak,a))) [
bl]) [
bl]) (
(Es f g h k m n o p u v b a).bind λ(y,aa,ab,ac,ad,ae,af,ag,ah,ai,aj,ak)=>
some (y,aa,ab,ac,ad,ae,af,ag,ah,ai,aj,ak,a))
else
if b then
(Es f g h k m n o p u v b a).bind λ(al,am,an,ao,ap,aq,ar,au,av,aw,ax,ay)=>
some (al,am,an,ao,ap,aq,ar,au,av,aw,ax,ay,36)
else
(Es f g h k m n o p u v b a).bind λ(az,ba,bb,bc,bd,be,bf,bg,bh,bi,bj,bk)=>
some (az,ba,bb,bc,bd,be,bf,bg,bh,bi,bj,bk,0)
theorem tR: @KZ= @Tv:=by
  unfold KZ Tv
  try simp only[lB,OR,QM]
  all_goals
    repeat (refine funext λ_=>?_)
    repeat' first
      |with_reducible rfl
      |with_reducible refine Qu ?_ ?_
      |with_reducible refine Qg ?_ ?_ ?_
      |with_reducible refine Qv ?_ ?_ ?_ ?_
      |((with_reducible refine Xf ?_ ?_);focus (intro h;first|(subst h;rfl)|(simp only[h];rfl)|(simp[Dt,Ac,h];done)))
      |with_reducible refine Wk λx=>?_
      |with_reducible refine FW (λ_=>?_) (λ_=>?_)
      |(refine Jh (λh=>by simp only[h,Wx,Gb,Fw,ite_self]) (λx h=>?_);(try simp only[h,Gb]))
      |(refine Ms (λh=>?_) (λh=>?_)<;>simp only[h,if_true,if_false,Bool.false_eq_true])
def H:Hd:=⟨[.agg [Ss,Sb,.agg [Si,Si,Si,Si,Si],Sl,Si,Sb,Sz,Si]],[.agg [Ss,Ob 5,.agg [Si,Si,Si,Si,Si],Ol 3,Si,Ob 5,Sz,Si],Si],(.seq .d (.seq .d (.seq (.blk (.seq .d (.cond (.seq (.mode false) .d) .d))) .d))),kt [F155.k,F199.k] false,[],f153⟩
def k:Kc P_ gl:=⟨(153,⟨H.p,H.r,u12 Tv⟩),co H func153 (λx=>Eq.trans (b:=u12 KZ x) F5 (by simp only[tR]<;>rfl))⟩
end F153
namespace F156
def H:Hd:=⟨[.agg [Ss,Sb,.agg [Si,Si,Si,Si,Si],Sl,Si,Sb,Sz,Si],Si],[.agg [Ss,Ob 5,.agg [Si,Si,Si,Si,Si],Ol 3,Si,Sb,Sz,Si],Si],.d,kt [] false,[],f156⟩
def k:Kc P_ gl:=⟨(156,⟨H.p,H.r,u13 YD⟩),co H func156⟩
end F156
namespace F95
def ND(j78:Int->Int->Int->Int->Int->LI->Bool->Int->LB->Int->LB->Option (LB×LB×Int×Int×Int×Int×Int×LI×Int×LB×Bool×Int×Int))(a:LB)(b:Bool)(f w ab:Int)(g:LB)(m o n p u h:Int)(am:LX)(k:LI)(v:LB):Option (LB×LB×Int×Int×Int×Int×Int×LI×Int×LB×Bool×Int×Int):=
if(Bg ab 0)then
(Ao ab).bind λ(br,bs)=>
j78 m o n p u k br bs g h v
else
(Jy n am).bind λ(bt,af)=>
if(Bg af 0)then
(Ao af).bind λ(bu,bv)=>
j78 m o n p u k bu bv g h v
else
(Dt v bt).bind λbw=>
(λhb:Option (LB×LB×Int×Int×Int×Int×Int×LI×Int×LB×Bool×Int×Int)=>
bo (
hb)) (
(Br g w (Ac g)).bind λbx=>
j78 m o n p u k false 0 bx (Ae h 1) bw)
theorem rT: @ND= @CF:=by
  unfold ND CF;simp only[lB,OR,QM]
def IM(j62:Int->LI->LB->Bool->Int->LB->Int->Int->Int->Int->Int->Option (LB×LB×Int×Int×Int×Int×Int×LI×Int×LB×Bool×Int×Int))(j61:LB->Int->Int->Int->Int->Int->Int->LI->LB->Option (LB×LB×Int×Int×Int×Int×Int×LI×Int×LB×Bool×Int×Int))(j75:Int->Int->Int->Int->Int->Int->LB->Bool->Int->LB->LI->Option (LB×LB×Int×Int×Int×Int×Int×LI×Int×LB×Bool×Int×Int))(j73:LB->Int->Int->Int->Int->Int->Int->LI->LB->Option (LB×LB×Int×Int×Int×Int×Int×LI×Int×LB×Bool×Int×Int))(j74:LB->Int->Int->Int->Int->Int->Int->LI->LB->Int->Option (LB×LB×Int×Int×Int×Int×Int×LI×Int×LB×Bool×Int×Int))(j78:Int->Int->Int->Int->Int->LI->Bool->Int->LB->Int->LB->Option (LB×LB×Int×Int×Int×Int×Int×LI×Int×LB×Bool×Int×Int))(j76:Int->LB->Int->Int->Int->Int->Int->Int->LX->LI->LI->LB->Option (LB×LB×Int×Int×Int×Int×Int×LI×Int×LB×Bool×Int×Int))(j71:LB->Int->Int->Int->Int->Int->Int->Bool->Int->LI->LB->Option (LB×LB×Int×Int×Int×Int×Int×LI×Int×LB×Bool×Int×Int))(j70:LB->Int->Int->Int->Int->Int->Int->LI->LB->Option (LB×LB×Int×Int×Int×Int×Int×LI×Int×LB×Bool×Int×Int))(a:LB)(b:Bool)(f:Int)(g:LB)(m o n p u h:Int)(k:LI)(v:LB):Option (LB×LB×Int×Int×Int×Int×Int×LI×Int×LB×Bool×Int×Int):=
if(geq m 0)then
(Ju g).bind λ(ad,an)=>
if(geq an 24)then
j62 h k v true 0 g m o n p u
else
if(Bg an 0)then
(Ao an).bind λ(bz,da)=>
j62 h k v bz da g m o n p u
else
(Br g ad (Ac g)).bind λdb=>
(Tf db).bind λal=>
if al then
j62 h k v true 0 g m o n p u
else
(Br g ad (Ac g)).bind λdc=>
(Nh dc).bind λ(ah,ai,y,aj,aa,ao)=>
if(geq ao 24)then
j62 h k v true 0 g m o n p u
else
if(Bg ao 0)then
(Ao ao).bind λ(dd,de)=>
j62 h k v dd de g m o n p u
else
both (
(Br g (Ae ad 22) (Ac g)).bind λag=>
bo (
j61 ag ah ai y aj aa h k v)) [
(Br g (Ae ad 22) (Ac g)).bind λag=>
j61 ag ah ai y aj aa h k v]
else
if(geq (Ac k) 0)then
if(geq m 2)then
if(Cj (Ac g) 8)then
j75 m o n p u h v true 0 g k
else
j73 g m o n p u h k v
else
j74 g m o n p u h k v 0
else
if(Cj h (Ac k))then
(Am k h).bind λ_=>
(Am k h).bind λw=>
if(Cj (Ac g) w)then
j78 m o n p u k true 0 g h v
else
(Oa a).bind λ(aq,ak)=>
if(Bg ak 0)then
(Ao ak).bind λ(df,dg)=>
j78 m o n p u k df dg g h v
else
(Eb m o n p u).bind λ(ac,dh)=>
if((Bg dh 0)||(Mk h (Ac ac)))then
(Ao 8).bind λ(di,ap)=>
j78 m o n p u k di ap g h v
else
j76 w g m o n p u h aq ac k v
else
if(Dx (Ac g) 4000)then
(Ao 38).bind λ(dj,ae)=>
j71 g m o n p u h dj ae k v
else
j70 g m o n p u h k v
theorem uF: @IM= @Jn:=by
  unfold IM Jn
  repeat (refine funext λ_=>?_)
  repeat' first
    |with_reducible rfl
    |with_reducible refine Qu ?_ ?_
    |with_reducible refine Qg ?_ ?_ ?_
    |with_reducible refine Qv ?_ ?_ ?_ ?_
    |((with_reducible refine Xf ?_ ?_);focus (intro h;first|(subst h;rfl)|(simp only[h];rfl)|(simp[Dt,Ac,h];done)))
    |with_reducible refine Wk λx=>?_
    |with_reducible refine FW (λ_=>?_) (λ_=>?_)
    |(refine Jh (λh=>by simp only[h,Wx,Gb,Fw,ite_self]) (λx h=>?_);(try simp only[h,Gb]))
    |(refine Ms (λh=>?_) (λh=>?_)<;>simp only[h,if_true,if_false,Bool.false_eq_true])
abbrev R_:=(LB×LB×Int×Int×Int×Int×Int×LI×Int×LB×Bool×Int×Int)
abbrev K_:=S->Option R_
def H:Hd:=⟨[.agg [Ss,Sb,.agg [Si,Si,Si,Si,Si],Sl,Si,Sb,Sz,Si],Sb],[.agg [Ss,Ob 5,.agg [Si,Si,Si,Si,Si],Ol 3,Si,Sb,Sz,Si],Si],(.seq .d (.seq .d (.seq .d (.seq .d (.blk (.loop [2,4] [⟨2,[1],.ro (.int .u8)⟩] (.blk (.cut [2,4,7] [] (.keep [2,4,7,22] true) .d)))))))),kt [F30.k,F31.k,F54.k,⟨(60,Yg),MP⟩,F61.k,F62.k,F63.k,F64.k,F153.k,F155.k,F156.k,F203.k,F229.k,F230.k,F231.k] false,[(154,(.seq .d (.cut [2] [] (.blk (.seq .d (.cond (.cut [2] [] (.keep [2,11] true) .d) (.seq .d (.cond (.cut [2] [] (.keep [2,20] true) .d) (.seq .d (.cond (.cut [2] [] (.keep [2,33] true) .d) .d))))))) .d))),(200,(.seq .d (.seq .d (.seq .d (.seq .d (.seq .d (.cut [0,2,5] [] (.mode false) .d))))))),(201,(.seq .d (.seq .d (.cut [0,2,3] [] (.seq .d (.cond (.seq .d (.cut [0,2,3] [⟨0,[1],.ro (.int .u8)⟩,⟨9,[1],.ro (.int .u8)⟩,⟨10,[1],.ro (.int .u8)⟩,⟨15,[1],.ro (.int .u8)⟩,⟨16,[1],.ro (.int .u8)⟩,⟨18,[],.ro (.int .u8)⟩] .d (.cut [0,2,3,4,5] [] .d .d))) .d)) .d)))),(202,(.seq .d (.seq .d (.seq .d (.seq .d (.seq .d (.seq .d (.cut [0,2,3,4,6] [⟨0,[1],.ro (.int .u8)⟩,⟨9,[1],.ro (.int .u8)⟩,⟨10,[1],.ro (.int .u8)⟩,⟨13,[1],.ro (.int .u8)⟩,⟨14,[1],.ro (.int .u8)⟩,⟨19,[1],.ro (.int .u8)⟩,⟨20,[1],.ro (.int .u8)⟩,⟨22,[],.ro (.int .u8)⟩,⟨28,[1],.ro (.int .u8)⟩,⟨29,[1],.ro (.int .u8)⟩,⟨40,[1],.ro (.int .u8)⟩,⟨41,[1],.ro (.int .u8)⟩] .d (.cut [0,2,3,5,7] [] .d (.seq .d (.seq .d (.seq .d (.seq .d (.seq (.mode false) .d))))))))))))))],f95⟩
def t37(a:LB)(b:Bool)(f:Int)(g:LB)(m o n p u h:Int)(k:LI)(v:LB):S:=⟨[(2,.ptr 0 []),(4,.ptr 1 [])],[.box 149 (.agg [vs a,vb g,.agg [vi m,vi o,vi n,vi p,vi u],.own 2,vi h,.own 3,vt b,vi f]),.box 149 (.agg [vs ([]:LB),.nils,.agg [vi 0,vi 0,vi 0,vi 0,vi 0],.nils,vi 0,.nils,vt false,vi 0]),Ai 3 k,Ab 5 v],[]⟩
def z37:Nat->S->Option R_:=H.i P_ [r,r,r,r,d]
def x75(D5:K_)(a:LB)(b:Bool)(f m o n p u h:Int)(v:LB)(bf:Bool)(bg:Int)(bh:LB)(bi:LI):Option R_:=H.e P_ [r,r,r,r,d,(lp D5),d,l,(call 0 154),r,l,d,r,r,r,l,r] ⟨[(2,.ptr 0 [])],[.box 240 (.agg [vt bf,vi bg]),.box 149 (.agg [vs a,vb bh,.agg [vi m,vi o,vi n,vi p,vi u],.own 3,vi h,.own 4,vt b,vi f]),.box 149 (.agg [vs ([]:LB),.nils,.agg [vi 0,vi 0,vi 0,vi 0,vi 0],.nils,vi 0,.nils,vt false,vi 0]),Ai 3 bi,Ab 5 v],[[(2,.ptr 1 []),(4,.ptr 2 [])]]⟩
def x78(D5:K_)(a:LB)(b:Bool)(f m o n p u:Int)(k:LI)(bl:Bool)(bm:Int)(bn:LB)(bp:Int)(bq:LB):Option R_:=H.e P_ [r,r,r,r,d,(lp D5),d,l,(call 0 154),r,l,d,r,r,r,r,r,l,r] ⟨[(2,.ptr 0 [])],[.box 240 (.agg [vt bl,vi bm]),.box 149 (.agg [vs a,vb bn,.agg [vi m,vi o,vi n,vi p,vi u],.own 3,vi bp,.own 4,vt b,vi f]),.box 149 (.agg [vs ([]:LB),.nils,.agg [vi 0,vi 0,vi 0,vi 0,vi 0],.nils,vi 0,.nils,vt false,vi 0]),Ai 3 k,Ab 5 bq],[[(2,.ptr 1 []),(4,.ptr 2 [])]]⟩
def x77(D5:K_)(a:LB)(b:Bool)(f w ab:Int)(g:LB)(m o n p u h:Int)(am:LX)(k:LI)(v:LB):Option R_:=H.e P_ [r,r,r,r,d,(lp D5),d,l,(call 0 154),r,l,d,r,r,r,r,r,l,l,(call 1 202),r,r,r,r,r,r,r,r] ⟨[(0,.ptr 0 []),(2,.ptr 1 []),(3,vi w),(5,vi ab),(7,.own 2)],[.box 149 (.agg [vs a,vb g,.agg [vi m,vi o,vi n,vi p,vi u],.own 5,vi h,.own 6,vt b,vi f]),.box 240 (.agg [vt false,vi 0]),Aw 21 am,.box 240 (.agg [vt false,vi 0]),.box 149 (.agg [vs ([]:LB),.nils,.agg [vi 0,vi 0,vi 0,vi 0,vi 0],.nils,vi 0,.nils,vt false,vi 0]),Ai 3 k,Ab 5 v],[[(2,.ptr 3 [])],[(2,.ptr 0 []),(4,.ptr 4 [])]]⟩
theorem e75(D5:K_)(a:LB)(b:Bool)(f:Int):x75 D5 a b f=Mr (λg m o n p u h k v=>D5 (t37 a b f g m o n p u h k v)) a b f:=F5
theorem e78(D5:K_)(a:LB)(b:Bool)(f:Int):x78 D5 a b f=Qc (λg m o n p u h k v=>D5 (t37 a b f g m o n p u h k v)) a b f:=F5
theorem e77(D5:K_)(a:LB)(b:Bool)(f:Int):x77 D5 a b f=PX (λg m o n p u h k v=>D5 (t37 a b f g m o n p u h k v)) a b f:=Eq.trans (b:=ND (x78 D5 a b f) a b f) F5 (by rw[rT];simp only[e78]<;>rfl)
theorem i37(a:LB)(b:Bool)(f:Int):∀(q:Nat) (g:LB) (m o n p u h:Int) (k:LI) (v:LB),z37 q (t37 a b f g m o n p u h k v)=Bj a b f q g m o n p u h k v:=
 ind (λ_ _ _ _ _ _ _ _ _=>by kernel_rfl) λq ih g m o n p u h k v=>Eq.trans (b:=IM (Qd (λg m o n p u h k v=>(z37 q) (t37 a b f g m o n p u h k v)) a b f) (Ut (λg m o n p u h k v=>(z37 q) (t37 a b f g m o n p u h k v)) a b f) (x75 (z37 q) a b f) (OZ (QS (x75 (z37 q) a b f) (CX (x75 (z37 q) a b f) a b f) a b f) a b f) (CX (x75 (z37 q) a b f) a b f) (x78 (z37 q) a b f) (OY (x77 (z37 q) a b f) a b f) (Cq (λg m o n p u h k v=>(z37 q) (t37 a b f g m o n p u h k v)) a b f) (CN (λg m o n p u h k v=>(z37 q) (t37 a b f g m o n p u h k v)) a b f) a b f g m o n p u h k v) F5 (by rw[uF];simp only[e75,e78,e77,ih]<;>rfl)
def k:Kc P_ gl:=⟨(95,⟨H.p,H.r,u13 Ku⟩),co H func95 (λx=>Eq.trans (b:=u13 (Xs (λa b f g m o n p u h k v=>z37 Dn (t37 a b f g m o n p u h k v))) x) F5 (by simp only[i37,Bc]<;>rfl))⟩
end F95
namespace F74
abbrev R_:=(Int×Int)
def H:Hd:=⟨[Sb],[Si,Si],(.seq .d (.seq .d (.cut [0,4] [] .d .d))),kt [F47.k,F118.k,F132.k,F133.k] false,[],f74⟩
def k:Kc P_ gl:=⟨(74,⟨H.p,H.r,H3⟩),co H func74⟩
end F74
namespace F32
abbrev R_:=(Int×Int)
abbrev K_:=S->Option R_
def H:Hd:=⟨[Sb],[Si,Si],(.seq .d (.seq .d (.seq .d (.seq .d (.cut [5] [] (.blk (.loop [1,4,5] [] (.seq .d (.cut [1,4,5] [] (.blk (.cut [1,4,5,6] [] (.keep [1,4,5,6,16,17] true) .d)) .d)))) .d))))),kt [F74.k] false,[(73,.d)],f32⟩
def t8(a:Int)(b:LB):S:=⟨[(1,.ptr 0 []),(4,.fn 73 [.ptr 0 []]),(5,vi a)],[.box 22 (vb b)],[]⟩
def z8:Nat->S->Option R_:=H.i P_ [r,r,r,r,l,d]
theorem i8:∀(q:Nat) (a:Int) (b:LB),z8 q (t8 a b)=Xl q a b:=
 ind (λ_ _=>by kernel_rfl) λq ih a b=>Eq.trans (b:=VP (PW (λa b=>(z8 q) (t8 a b))) kT a b) F5 (by simp only[ih]<;>rfl)
def k:Kc P_ gl:=⟨(32,⟨H.p,H.r,KE⟩),co H func32 (λx=>Eq.trans (b:=VK (λa b=>z8 Dn (t8 a b)) x) F5 (by simp only[i8,Bc]<;>rfl))⟩
end F32
namespace F157
def H:Hd:=⟨[.agg [Ss,Sb,.agg [Si,Si,Si,Si,Si],Sl,Si,Sb,Sz,Si]],[Si],.d,kt [F32.k,⟨(60,Yg),MP⟩,F61.k] false,[],f157⟩
def k:Kc P_ gl:=⟨(157,⟨H.p,H.r,u12 JU⟩),co H func157⟩
end F157
namespace F96
def H:Hd:=⟨[.agg [Ss,Sb,.agg [Si,Si,Si,Si,Si],Sl,Si,Sb,Sz,Si]],[.agg [Ss,Ob 5,.agg [Si,Si,Si,Si,Si],Ol 3,Si,Sb,Sz,Si],Si],.d,kt [F153.k,F156.k,F157.k] false,[],f96⟩
def k:Kc P_ gl:=⟨(96,⟨H.p,H.r,u12 Hp⟩),co H func96⟩
end F96
namespace F50
def H:Hd:=⟨[Sb,Ss],[.agg [Si,Si,Si,Ow 21],Si],.d,kt [F94.k,F95.k,F96.k,F97.k] false,[],f50⟩
def k:Kc P_ gl:=⟨(50,⟨H.p,H.r,u2 Nr⟩),co H func50⟩
end F50
namespace F98
abbrev R_:=Bool
def H:Hd:=⟨[Sw,Sw],[Sz],(.seq .d (.seq .d (.cut [] [] (.seq .d (.blk (.loop [0,1,5] [] .d))) .d))),kt [] false,[],f98⟩
def t4(a b:LX)(f:Int):S:=⟨[(0,vw a),(1,vw b),(5,vi f)],[],[]⟩
def z4:Nat->S->Option R_:=H.i P_ [r,r,l,r,d]
theorem i4(a b:LX):∀(q:Nat) (f:Int),z4 q (t4 a b f)=AQ a b q f:=
 ind (λ_=>by kernel_rfl) λq ih f=>Eq.trans (b:=TE UL (λf=>(z4 q) (t4 a b f)) a b f) F5 (by simp only[ih]<;>rfl)
def k:Kc P_ gl:=⟨(98,⟨H.p,H.r,u2 eG⟩),co H func98 (λx=>Eq.trans (b:=u2 (SD (λa b f=>z4 Dn (t4 a b f))) x) F5 (by simp only[i4,Bc]<;>rfl))⟩
end F98
namespace F51
def H:Hd:=⟨[.agg [Si,Si,Si,Sw],.agg [Si,Si,Si,Sw]],[Sz],.d,kt [F98.k] false,[],f51⟩
def k:Kc P_ gl:=⟨(51,⟨H.p,H.r,u8 fD⟩),co H func51⟩
end F51
namespace F20
def H:Hd:=⟨[],[Sz],.d,kt [F48.k,F49.k,F50.k,F51.k] false,[],f20⟩
def k:Kc P_ gl:=⟨(20,⟨H.p,H.r,λ_=>FX⟩),co H func20⟩
end F20
namespace F34
def H:Hd:=⟨[.agg [Si,Si,Si,Sw]],[.agg [Si,Si]],.d,kt [] false,[],f34⟩
def k:Kc P_ gl:=⟨(34,⟨H.p,H.r,u4 Ft⟩),co H func34⟩
end F34
namespace F134
def H:Hd:=⟨[Si],[Si],.d,kt [] false,[],f134⟩
def k:Kc P_ gl:=⟨(134,⟨H.p,H.r,Lg⟩),co H func134⟩
end F134
namespace F75
def H:Hd:=⟨[.agg [Si,Si]],[Si],.d,kt [F134.k] false,[],f75⟩
def k:Kc P_ gl:=⟨(75,⟨H.p,H.r,u2 Dd⟩),co H func75⟩
end F75
namespace F76
abbrev R_:=Int
def H:Hd:=⟨[Si,Sw],[Si],(.seq .d (.seq .d (.seq .d (.seq .d (.cut [] [] (.seq .d (.blk (.loop [1,5,6] [] .d))) .d))))),kt [F134.k] false,[],f76⟩
def t4(a:LX)(b f:Int):S:=⟨[(1,vw a),(5,vi b),(6,vi f)],[],[]⟩
def z4:Nat->S->Option R_:=H.i P_ [r,r,r,r,l,r,d]
theorem i4(a:LX)(b:Int):∀(q:Nat) (f:Int),z4 q (t4 a b f)=Ba a b q f:=
 ind (λ_=>by kernel_rfl) λq ih f=>Eq.trans (b:=Cy NJ (λf=>(z4 q) (t4 a b f)) a b f) F5 (by simp only[ih]<;>rfl)
def k:Kc P_ gl:=⟨(76,⟨H.p,H.r,u2 Ay⟩),co H func76 (λx=>Eq.trans (b:=u2 (Dw (λa b f=>z4 Dn (t4 a b f))) x) F5 (by simp only[i4,Bc]<;>rfl))⟩
end F76
namespace F33
def H:Hd:=⟨[.agg [Si,Si],Sw],[Si],.d,kt [F75.k,F76.k] false,[],f33⟩
def k:Kc P_ gl:=⟨(33,⟨H.p,H.r,u3 Ce⟩),co H func33⟩
end F33
namespace F77
def H:Hd:=⟨[.agg [Si,Si],Si],[Si],.d,kt [F75.k] false,[],f77⟩
def k:Kc P_ gl:=⟨(77,⟨H.p,H.r,u3 Dm⟩),co H func77⟩
end F77
namespace F186
def H:Hd:=⟨[Si],[Si,Si],.d,kt [] false,[],f186⟩
def k:Kc P_ gl:=⟨(186,⟨H.p,H.r,Sp⟩),co H func186⟩
end F186
namespace F135
abbrev R_:=(LI×Int)
def H:Hd:=⟨[Si,Si],[Ol 3,Si],(.seq .d (.seq .d (.seq .d (.seq .d (.cut [8] [] (.blk (.loop [1,6,8] [⟨8,[],.own 3 (.int .i64)⟩] .d)) .d))))),kt [F186.k] false,[],f135⟩
def t4(b f:Int)(a:LI):S:=⟨[(1,vi f),(6,vi b),(8,.own 0)],[Ai 3 a],[]⟩
def z4:Nat->S->Option R_:=H.i P_ [r,r,r,r,l,d]
theorem i4(b:Int):∀(q:Nat) (f:Int) (a:LI),z4 q (t4 b f a)=Ei b q f a:=
 ind (λ_ _=>by kernel_rfl) λq ih f a=>Eq.trans (b:=Io Pb (λf a=>(z4 q) (t4 b f a)) b f a) F5 (by simp only[ih]<;>rfl)
def k:Kc P_ gl:=⟨(135,⟨H.p,H.r,u2 Vz⟩),co H func135 (λx=>Eq.trans (b:=u2 (Pe (λb f a=>z4 Dn (t4 b f a))) x) F5 (by simp only[i4,Bc]<;>rfl))⟩
end F135
namespace F78
def H:Hd:=⟨[Si,Si],[Si,Si],.d,kt [F135.k] false,[],f78⟩
def k:Kc P_ gl:=⟨(78,⟨H.p,H.r,u2 Hj⟩),co H func78⟩
end F78
namespace F35
def H:Hd:=⟨[.agg [Si,Si,Si,Sw],Si],[Sz],.d,kt [F34.k,F77.k,F78.k] false,[],f35⟩
def k:Kc P_ gl:=⟨(35,⟨H.p,H.r,u5 Zr⟩),co H func35⟩
end F35
namespace F14
def H:Hd:=⟨[.agg [Si,Si,Si,Sw]],[Si],.d,kt [F33.k,F34.k,F35.k] false,[],f14⟩
def k:Kc P_ gl:=⟨(14,⟨H.p,H.r,u4 Da⟩),co H func14⟩
end F14
namespace F159
def H:Hd:=⟨[.agg [Si,Si,Si]],[Si],.d,kt [] false,[],f159⟩
def k:Kc P_ gl:=⟨(159,⟨H.p,H.r,u3 Ra⟩),co H func159⟩
end F159
namespace F101
def H:Hd:=⟨[.agg [Si,Si,Si]],[Sz,Si],.d,kt [F159.k] false,[],f101⟩
def k:Kc P_ gl:=⟨(101,⟨H.p,H.r,u3 gS⟩),co H func101⟩
end F101
namespace F102
abbrev R_:=LB
def H:Hd:=⟨[.agg [Si,Si,Si],Sz,Sq],[Ob 5],(.seq .d (.seq .d (.seq .d (.seq .d (.cut [1,8,9] [] .d (.seq .d (.cut [1,10] [] (.seq .d (.blk (.loop [1,8,10,44,45] [⟨10,[],.own 5 (.int .u8)⟩] .d))) .d))))))),kt [F83.k] false,[],f102⟩
def t6(a:Bool)(h:Int)(f:LQ)(g:Int)(b:LB):S:=⟨[(1,vt a),(8,.ptr 0 []),(10,.own 1),(44,vi h),(45,vi g)],[.box 248 (.val (.vec 9 (.int .u64)) f),Ab 5 b],[]⟩
def z6:Nat->S->Option R_:=H.i P_ [r,r,r,r,r,r,l,r,d]
theorem i6(a:Bool)(h:Int)(f:LQ):∀(q:Nat) (g:Int) (b:LB),z6 q (t6 a h f g b)=Fh a h f q g b:=
 ind (λ_ _=>by kernel_rfl) λq ih g b=>Eq.trans (b:=Un CQ (λg b=>(z6 q) (t6 a h f g b)) a h f g b) F5 (by simp only[ih]<;>rfl)
def k:Kc P_ gl:=⟨(102,⟨H.p,H.r,u5 EW⟩),co H func102 (λx=>Eq.trans (b:=u5 (OX (CR (λa h f g b=>z6 Dn (t6 a h f g b)))) x) F5 (by simp only[i6,Bc]<;>rfl))⟩
end F102
namespace F53
def H:Hd:=⟨[.agg [Si,Si,Si]],[Ob 5,Si],.d,kt [F101.k,F102.k] false,[],f53⟩
def k:Kc P_ gl:=⟨(53,⟨H.p,H.r,u3 MW⟩),co H func53⟩
end F53
namespace F160
abbrev R_:=Bool
def H:Hd:=⟨[Ss],[Sz],(.seq .d (.cut [0] [] (.seq .d (.blk (.loop [0,6,7,8] [] .d))) .d)),kt [] false,[],f160⟩
def t4(a:LB)(b:Int):S:=⟨[(0,vs a),(6,.own 0),(7,vi (Ac a)),(8,vi b)],[Ab 5 a],[]⟩
def z4:Nat->S->Option R_:=H.i P_ [r,l,r,d]
theorem i4(a:LB):∀(q:Nat) (b:Int),z4 q (t4 a b)=Vw a q b:=
 ind (λ_=>by kernel_rfl) λq ih b=>Eq.trans (b:=KY tY (λb=>(z4 q) (t4 a b)) a b) F5 (by simp only[ih]<;>rfl)
def k:Kc P_ gl:=⟨(160,⟨H.p,H.r,Sg⟩),co H func160 (λx=>Eq.trans (b:=uI (λa b=>z4 Dn (t4 a b)) x) F5 (by simp only[i4,Bc]<;>rfl))⟩
end F160
namespace F107
abbrev R_:=Int
def H:Hd:=⟨[.lf (.list (.cons .str (.cons (.list (.int .u8)) .nil))) none],[Si],(.seq .d (.seq .d (.cut [3] [] (.seq .d (.blk (.loop [3,6,7,8] [] .d))) .d))),kt [] false,[],f107⟩
def t4(a:List (LB×LB×Unit))(b f:Int):S:=⟨[(3,vi b),(6,.val (.list (.cons .str (.cons (.list (.int .u8)) .nil))) a),(7,vi (Ac a)),(8,vi f)],[],[]⟩
def z4:Nat->S->Option R_:=H.i P_ [r,r,l,r,d]
theorem i4(a:List (LB×LB×Unit)):∀(q:Nat) (b f:Int),z4 q (t4 a b f)=BU a q b f:=
 ind (λ_ _=>by kernel_rfl) λq ih b f=>Eq.trans (b:=KU mS (λb f=>(z4 q) (t4 a b f)) a b f) F5 (by simp only[ih]<;>rfl)
def k:Kc P_ gl:=⟨(107,⟨H.p,H.r,PA⟩),co H func107 (λx=>Eq.trans (b:=nD (λa b f=>z4 Dn (t4 a b f)) x) F5 (by simp only[i4,Bc]<;>rfl))⟩
end F107
namespace F162
def H:Hd:=⟨[.agg [Ss,Sb]],[Sz],.d,kt [F160.k] false,[],f162⟩
def k:Kc P_ gl:=⟨(162,⟨H.p,H.r,u2 KR⟩),co H func162⟩
end F162
namespace F103
abbrev R_:=Int
abbrev K_:=S->Option R_
def H:Hd:=⟨[Ss,.lf (.list (.cons .str (.cons (.list (.int .u8)) .nil))) none],[Si],(.seq .d (.seq .d (.cut [] [] (.cut [20] [] (.keep [17,19,20] true) .d) .d))),kt [F107.k,F160.k,F162.k] false,[(161,(.seq .d (.cut [4] [] (.keep [4,7,8] true) .d))),(206,(.seq .d (.cut [] [] (.seq .d (.blk (.loop [0,1,7,8] [] (.seq .d (.seq .d (.cut [0,1,7,8] [] (.blk (.seq .d (.cut [0,1,5,7,8,16] [] .d .d))) .d)))))) .d)))],f103⟩
def t19(a:List (LB×LB×Unit))(b:Int):S:=⟨[(0,.val (.list (.cons .str (.cons (.list (.int .u8)) .nil))) a),(1,.fn 162 []),(7,vi (Ac a)),(8,vi b)],[],[[(4,vt false)],[(17,.cst (.bool false))]]⟩
def z19:Nat->S->Option R_:=H.i P_ [r,r,l,l,(call 11 161),r,l,(call 2 206),r,l,r,d]
def t27(a:List (LB×LB×Unit))(f:Int):S:=⟨[(0,.val (.list (.cons .str (.cons (.list (.int .u8)) .nil))) a),(1,.fn 162 []),(7,vi (Ac a)),(8,vi f)],[],[[(4,vt false)],[(17,.cst (.bool false))]]⟩
def z27:Nat->S->Option R_:=H.i P_ [r,r,l,l,(call 11 161),r,l,(call 2 206),r,l,r,d]
theorem i19(a:List (LB×LB×Unit)):∀(q:Nat) (b:Int),z19 q (t19 a b)=aS a q b:=
 ind (λ_=>by kernel_rfl) λq ih b=>Eq.trans (b:=uC (uQ (λb=>(z19 q) (t19 a b)) a) uT a b) F5 (by simp only[ih]<;>rfl)
theorem i27(a:List (LB×LB×Unit)):∀(q:Nat) (f:Int),z27 q (t27 a f)=Vm a q f:=
 ind (λ_=>by kernel_rfl) λq ih f=>Eq.trans (b:=BF (MQ (λf=>(z27 q) (t27 a f)) a) bY a f) F5 (by simp only[ih]<;>rfl)
def k:Kc P_ gl:=⟨(103,⟨H.p,H.r,u2 AL⟩),co H func103 (λx=>Eq.trans (b:=u2 (QW BB (λa b=>z19 Dn (t19 a b)) (λa f=>z27 Dn (t27 a f))) x) F5 (by simp only[i19,i27,Bc]<;>rfl))⟩
end F103
theorem Aes:ConOk Tryz.prog gl 55 nH:=Aev ent55 F103.k.2 F107.k.2 F83.k.2
namespace F21
def H:Hd:=⟨[.agg [Si,Si,Si,Sw]],[Ob 5,Si],.d,kt [F52.k,F53.k,F54.k,⟨(55,nH),Aes⟩] false,[],f21⟩
def k:Kc P_ gl:=⟨(21,⟨H.p,H.r,u4 IA⟩),co H func21⟩
end F21
namespace F165
abbrev R_:=(LB×LB×LB×Bool)
def H:Hd:=⟨[Sb],[.agg [Ss,Ob 5],Sb,Sz],(.seq .d (.cut [0,2] [] .d (.seq .d (.cut [0,2,5,7] [] .d .d)))),kt [F114.k,F160.k,F204.k] false,[],f165⟩
def k:Kc P_ gl:=⟨(165,⟨H.p,H.r,YJ⟩),co H func165⟩
end F165
namespace F109
abbrev R_:=(LB×(List (LB×LB×Unit))×Int)
def H:Hd:=⟨[Sb],[Ss,.lf (.list (.cons .str (.cons (.list (.int .u8)) .nil))) (some 97),Si],(.seq .d (.seq .d (.seq .d (.seq .d (.cut [0,5,7] [] (.blk (.cut [0,5,7,24] [] .d .d)) (.seq .d (.cut [0,5,7,8] [] (.seq .d (.blk (.loop [0,5,7,8,9] [⟨8,[],.own 97 (.cons .str (.cons (.list (.int .u8)) .nil))⟩] .d))) .d))))))),kt [F114.k,F160.k,F165.k] false,[],f109⟩
def t8(a:LB)(b:UInt64)(f h:LB)(g:List (LB×LB×Unit)):S:=⟨[(0,vb a),(5,vq b),(7,vs f),(8,.own 0),(9,vb h)],[.arr 97 (.cons .str (.cons (.list (.int .u8)) .nil)) g],[]⟩
def z8:Nat->S->Option R_:=H.i P_ [r,r,r,r,r,r,l,r,d]
theorem i8(a:LB)(b:UInt64)(f:LB):∀(q:Nat) (h:LB) (g:List (LB×LB×Unit)),z8 q (t8 a b f h g)=Tg a b f q h g:=
 ind (λ_ _=>by kernel_rfl) λq ih h g=>Eq.trans (b:=CK QY (λh g=>(z8 q) (t8 a b f h g)) a b f h g) F5 (by simp only[ih]<;>rfl)
def k:Kc P_ gl:=⟨(109,⟨H.p,H.r,YP⟩),co H func109 (λx=>Eq.trans (b:=XZ (YA (XM (λa b f h g=>z8 Dn (t8 a b f h g)))) x) F5 (by simp only[i8,Bc]<;>rfl))⟩
end F109
namespace F166
abbrev R_:=(Int×Int)
abbrev K_:=S->Option R_
def H:Hd:=⟨[.lf (.list (.cons .str (.cons (.list (.int .u8)) .nil))) none,Ss],[Si,Si],(.seq .d (.cut [6] [] (.keep [6,9] true) .d)),kt [] false,[(206,(.seq .d (.cut [] [] (.seq .d (.blk (.loop [0,1,7,8] [] (.seq .d (.seq .d (.cut [0,1,7,8] [] (.blk (.seq .d (.cut [0,1,5,7,8,16] [] (.keep [0,1,5,7,8,16] true) .d))) .d)))))) .d))),(210,.d)],f166⟩
def t9(a:List (LB×LB×Unit))(b:LB)(f:Int):S:=⟨[(0,.val (.list (.cons .str (.cons (.list (.int .u8)) .nil))) a),(1,.fn 210 [.ptr 0 []]),(7,vi (Ac a)),(8,vi f)],[.box 9 (vs b)],[[]]⟩
def z9:Nat->S->Option R_:=H.i P_ [r,l,(call 2 206),r,l,r,d]
theorem i9(a:List (LB×LB×Unit))(b:LB):∀(q:Nat) (f:Int),z9 q (t9 a b f)=Wr a b q f:=
 ind (λ_=>by kernel_rfl) λq ih f=>Eq.trans (b:=YC (gD (λf=>(z9 q) (t9 a b f)) a b) iE a b f) F5 (by simp only[ih]<;>rfl)
def k:Kc P_ gl:=⟨(166,⟨H.p,H.r,u2 kH⟩),co H func166 (λx=>Eq.trans (b:=u2 (J8 (λa b f=>z9 Dn (t9 a b f))) x) F5 (by simp only[i9,Bc]<;>rfl))⟩
end F166
namespace F110
def H:Hd:=⟨[.lf (.list (.cons .str (.cons (.list (.int .u8)) .nil))) none,Ss],[Si,Si],.d,kt [F166.k] false,[],f110⟩
def k:Kc P_ gl:=⟨(110,⟨H.p,H.r,u2 JR⟩),co H func110⟩
end F110
namespace F111
abbrev R_:=(Int×Int×Int×Int)
def H:Hd:=⟨[Sb],[.agg [Si,Si,Si],Si],(.seq .d (.seq .d (.cut [0,2,5] [] (.seq .d (.blk (.loop [0,2,4,5,10,11] [] .d))) .d))),kt [F102.k,F114.k,F118.k,F159.k] false,[],f111⟩
def t4(b:LB)(g f:Int)(a:LQ):S:=⟨[(0,vb b),(2,.ptr 0 []),(4,vi g),(5,.ptr 1 []),(10,.val (.vec 9 (.int .i64)) ([(2:Int),(2:Int),(4:Int),(4:Int),(2:Int),(2:Int),(2:Int),(2:Int),(4:Int)]:LI)),(11,vi f)],[.box 93 (.agg [vi 0,vi 0,vi 0]),.box 248 (.val (.vec 9 (.int .u64)) a)],[]⟩
def z4:Nat->S->Option R_:=H.i P_ [r,r,l,r,d]
theorem i4(b:LB):∀(q:Nat) (g f:Int) (a:LQ),z4 q (t4 b g f a)=Jv b q g f a:=
 ind (λ_ _ _=>by kernel_rfl) λq ih g f a=>Eq.trans (b:=CG lG (λg f a=>(z4 q) (t4 b g f a)) b g f a) F5 (by simp only[ih]<;>rfl)
def k:Kc P_ gl:=⟨(111,⟨H.p,H.r,Tn⟩),co H func111 (λx=>Eq.trans (b:=OQ (λb g f a=>z4 Dn (t4 b g f a)) x) F5 (by simp only[i4,Bc]<;>rfl))⟩
end F111
namespace F57
def H:Hd:=⟨[Sb],[.agg [Si,Si,Si,Ow 21],Si],.d,kt [F52.k,F97.k,F109.k,F110.k,F111.k] false,[],f57⟩
def k:Kc P_ gl:=⟨(57,⟨H.p,H.r,MS⟩),co H func57⟩
end F57
namespace F22
abbrev R_:=(LB×Int)
def H:Hd:=⟨[Sb,Ss],[Ob 5,Si],(.seq .d (.cut [4,5] [⟨4,[],.own 5 (.int .u8)⟩] (.keep [4,5,8,9,10] true) .d)),kt [F48.k,F57.k] false,[(56,(.seq .d (.cut [2,8,9] [] .d (.seq .d (.cut [6,7] [] (.keep [6,7,23,24,25] true) .d))))),(58,.d)],f22⟩
def k:Kc P_ gl:=⟨(22,⟨H.p,H.r,u2 Oe⟩),co H func22⟩
end F22
namespace F23
abbrev R_:=(LB×Int)
def H:Hd:=⟨[Sb,Ss],[Ob 5,Si],(.seq .d (.cut [4,5] [⟨4,[],.own 5 (.int .u8)⟩] (.keep [4,5,8,9,10] true) .d)),kt [F21.k,F50.k] false,[(56,(.seq .d (.cut [2,8,9] [] (.keep [2,8,9,11,14,15,16] true) (.seq .d (.cut [6,7] [] .d .d))))),(59,.d)],f23⟩
def k:Kc P_ gl:=⟨(23,⟨H.p,H.r,u2 Tr⟩),co H func23⟩
end F23
namespace F36
def VE(j2:LB->Int->Int->Int->LX->Option (Int×Int×Int×Int×Int×Int))(a b f:Int)(g:LX)(h:LB):Option (Int×Int×Int×Int×Int×Int):=
(Cl a b f g).bind λk=>
if(Bg k 0)then
some (0,0,0,0,0,k)
else
if(Dx (Ac h) 64)then
some (0,0,0,0,0,2)
else
(Jg (Bg a 0)).bind λ_=>
bo (
j2 h a b f g)
theorem zK: @VE= @IK:=by
  unfold VE IK;simp only[lB,OR,QM]
abbrev R_:=(Int×Int×Int×Int×Int×Int)
def H:Hd:=⟨[.agg [Si,Si,Si,Sw],Ss],[.agg [Si,Si,Si,Si,Si],Si],(.seq .d (.seq .d (.seq .d (.cut [1,4,7] [] .d .d)))),kt [F52.k] false,[],f36⟩
def k:Kc P_ gl:=⟨(36,⟨H.p,H.r,u5 fC⟩),co H func36 (λx=>Eq.trans (b:=u5 (VE aU) x) F5 (by simp only[zK]<;>rfl))⟩
end F36
theorem vk:ConOk Tryz.prog gl 37 gN:=Abl F52.k.2 F30.k.2 F117.k.2 F80.k.2 F81.k.2
namespace F42
def H:Hd:=⟨[Sb],[Si],.d,kt [] false,[],f42⟩
def k:Kc P_ gl:=⟨(42,⟨H.p,H.r,gL⟩),co H func42⟩
end F42
namespace F43
abbrev R_:=LB
def H:Hd:=⟨[.lf (.list (.list (.int .u8))) none],[Ob 5],(.seq .d (.seq .d (.cut [3] [] (.seq .d (.blk (.loop [3,6,7,8] [⟨3,[],.own 5 (.int .u8)⟩] .d))) .d))),kt [] false,[],f43⟩
def t4(a:List LB)(f:Int)(b:LB):S:=⟨[(3,.own 0),(6,.val (.list (.list (.int .u8))) a),(7,vi (Ac a)),(8,vi f)],[Ab 5 b],[]⟩
def z4:Nat->S->Option R_:=H.i P_ [r,r,l,r,d]
theorem i4(a:List LB):∀(q:Nat) (f:Int) (b:LB),z4 q (t4 a f b)=Wa a q f b:=
 ind (λ_ _=>by kernel_rfl) λq ih f b=>Eq.trans (b:=LN uG (λf b=>(z4 q) (t4 a f b)) a f b) F5 (by simp only[ih]<;>rfl)
def k:Kc P_ gl:=⟨(43,⟨H.p,H.r,uP⟩),co H func43 (λx=>Eq.trans (b:=rU (λa f b=>z4 Dn (t4 a f b)) x) F5 (by simp only[i4,Bc]<;>rfl))⟩
end F43
namespace F15
abbrev R_:=(LB×Int)
abbrev K_:=S->Option R_
def H:Hd:=⟨[.agg [Si,Si,Si,Sw],Ss],[Ob 5,Si],(.seq .d (.seq .d (.seq .d (.seq .d (.seq .d (.seq .d (.seq .d (.seq .d (.cut [8,9,10] [⟨10,[],.own 5 (.int .u8)⟩] .d (.cut [7,8,9,10,11] [] (.keep [7,8,9,10,11,46,48,49,50,51] true) .d)))))))))),kt [F36.k,⟨(37,gN),vk⟩,F38.k,F39.k,F40.k,F42.k,F43.k] false,[(41,(.seq .d (.seq .d (.cut [5] [] (.seq .d (.blk (.loop [1,5,11,12,13] [] (.seq .d (.seq .d (.cut [1,5,11,12,13] [] .d .d)))))) .d))))],f15⟩
def t9(a:List LB)(b f:LB)(g:Int)(h:LI):S:=⟨[(1,.fn 42 []),(5,.own 0),(11,.own 1),(12,vi (Ac a)),(13,vi g)],[Ai 3 h,.arr 22 (.list (.int .u8)) a,Ab 5 b,Ab 5 f],[[(8,.own 1),(9,.own 2),(10,.own 3)]]⟩
def z9:Nat->S->Option R_:=H.i P_ [r,r,r,r,r,r,r,r,r,l,(call 1 41),r,r,l,r,d]
theorem i9(a:List LB)(b f:LB):∀(q:Nat) (g:Int) (h:LI),z9 q (t9 a b f g h)=Vx a b f q g h:=
 ind (λ_ _=>by kernel_rfl) λq ih g h=>Eq.trans (b:=KW (VB (λg h=>(z9 q) (t9 a b f g h)) a b f) Xu a b f g h) F5 (by simp only[ih]<;>rfl)
def k:Kc P_ gl:=⟨(15,⟨H.p,H.r,u5 fQ⟩),co H func15 (λx=>Eq.trans (b:=u5 (ZP (ZB (λa b f g h=>z9 Dn (t9 a b f g h)))) x) F5 (by simp only[i9,Bc]<;>rfl))⟩
end F15
namespace F24
def H:Hd:=⟨[Sb,Ss],[Ob 5,Si],.d,kt [F15.k,F57.k] false,[],f24⟩
def k:Kc P_ gl:=⟨(24,⟨H.p,H.r,u2 aF⟩),co H func24⟩
end F24
namespace F27
def H:Hd:=⟨[Sb],[.agg [.agg [Si,Si,Si,Si,Si],.agg [Si,Si,Si,Si,Si],Ol 3],Si],.d,kt [⟨(60,Yg),MP⟩,F61.k,F62.k] false,[],f27⟩
def k:Kc P_ gl:=⟨(27,⟨H.p,H.r,qY⟩),co H func27⟩
end F27
namespace F12
abbrev R_:=(Int×Int×Int×LX×Int)
abbrev K_:=S->Option R_
def H:Hd:=⟨[Sb,Ss],[.agg [Si,Si,Si,Ow 21],Si],(.seq .d (.seq .d (.seq .d (.seq .d (.cut [0,1,4,6] [] (.cut [0,1,4,6,8] [] (.keep [0,1,4,6,8,34,35,36] true) .d) (.cut [0,1,4,6,7,9] [⟨9,[],.own 3 (.int .i64)⟩] (.keep [0,1,4,6,7,9,41,42,43,44,45] true) (.seq .d (.seq .d (.seq .d (.seq .d (.seq .d (.cut [0,4,10,14] [] (.seq .d (.blk (.loop [0,4,6,10,11,12,14,75,76,77] [⟨10,[3],.own 21 (.int .i32)⟩] (.seq .d (.seq .d (.seq (.blk (.seq .d (.seq .d (.cut [0,4,6,10,11,12,14,16,17,18,75,76,77] [] .d .d)))) .d)))))) .d)))))))))))),kt [F27.k,F30.k,F31.k,F32.k,F63.k,F64.k] false,[(28,(.seq .d (.seq .d (.cut [0,6,7] [] .d (.seq .d (.seq .d (.seq .d (.cut [6] [] (.seq .d (.blk (.loop [0,6,60,61,62] [] .d))) .d)))))))),(29,.d)],f12⟩
def t21(a:LB)(w:LI)(m f g h o p n b ab ae:Int)(ac:LX)(k:LI)(y aa:Int)(ad:LX):S:=⟨[(0,vb a),(4,.ptr 0 []),(6,.ptr 1 []),(10,.ptr 2 []),(11,.ptr 3 []),(12,.ptr 4 []),(14,vi y),(75,.own 5),(76,vi (Ac w)),(77,vi aa)],[.box 34 (.agg [vi 0,vi 0,vi 0,.nils]),.box 57 (.agg [.agg [vi m,vi f,vi g,vi h,vi o],.agg [vi p,vi n,vi b,vi ab,vi ae],.own 6]),.box 34 (.agg [vi f,vi g,vi h,.own 7]),.box 63 (.agg [vi f,vi g]),.box 64 (.val (.vec 16 (.int .i32)) ac),Ai 3 w,Ai 3 k,Aw 21 ad],[]⟩
def z21:Nat->S->Option R_:=H.i P_ [r,r,r,r,r,r,r,r,r,r,r,l,r,d]
def t17(v:LI)(a u:LB)(m f g h o p n b:Int)(k:LI)(ag af:Int):S:=⟨[(0,.ptr 0 []),(6,.own 1),(60,.own 1),(61,vi (Ac v)),(62,vi ag)],[.box 57 (.agg [.agg [vi m,vi f,vi g,vi h,vi o],.agg [vi p,vi n,vi b,vi (Ae (Ae b (Bi (4:Int) (Ac v))) (4:Int)),vi af],.own 3]),Ai 3 v,.box 34 (.agg [vi 0,vi 0,vi 0,.nils]),Ai 3 k],[[(0,vb a),(1,vs u),(4,.ptr 2 []),(6,.ptr 0 []),(42,vb a)]]⟩
def z17:Nat->S->Option R_:=H.i P_ [r,r,r,r,r,l,(call 1 28),r,r,r,r,r,r,l,r,d]
def x21(a:LB)(w:LI)(m f g h o p n b ab ae:Int)(ac:LX)(k:LI)(y aa:Int)(ad:LX):Option R_:=H.e P_ [r,r,r,r,r,r,r,r,r,r,r,l,r,d] (t21 a w m f g h o p n b ab ae ac k y aa ad)
def x14(a u:LB)(m f g h o p n b ah ai:Int)(k:LI)(am:Int):Option R_:=H.e P_ [r,r,r,r,l,r] ⟨[(0,vb a),(1,vs u),(4,.ptr 0 []),(6,.ptr 1 []),(8,vi am)],[.box 34 (.agg [vi 0,vi 0,vi 0,.nils]),.box 57 (.agg [.agg [vi m,vi f,vi g,vi h,vi o],.agg [vi p,vi n,vi b,vi ah,vi ai],.own 2]),Ai 3 k],[]⟩
theorem i21(a:LB)(w:LI)(m f g h o p n b ab ae:Int)(ac:LX)(k:LI):∀(q:Nat) (y aa:Int) (ad:LX),z21 q (t21 a w m f g h o p n b ab ae ac k y aa ad)=Vf a w m f g h o p n b ab ae ac k q y aa ad:=
 ind (λ_ _ _=>by kernel_rfl) λq ih y aa ad=>Eq.trans (b:=LV (aI (λy aa ad=>(z21 q) (t21 a w m f g h o p n b ab ae ac k y aa ad)) a w m f g h o p n b ab ae ac k) aM a w m f g h o p n b ab ae ac k y aa ad) F5 (by simp only[ih]<;>rfl)
theorem e21:x21=sJ:=by funext a w m f g h o p n b ab ae ac k y aa ad;exact Eq.trans F5 ((i21 a w m f g h o p n b ab ae ac k Dn y aa ad).trans (by rw[Bc];rfl))
theorem i17(v:LI)(a u:LB)(m f g h o p n b:Int)(k:LI):∀(q:Nat) (ag af:Int),z17 q (t17 v a u m f g h o p n b k ag af)=Ur v a u m f g h o p n b k q ag af:=
 ind (λ_ _=>by kernel_rfl) λq ih ag af=>Eq.trans (b:=KJ (ZL (Vp x21)) (λag af=>(z17 q) (t17 v a u m f g h o p n b k ag af)) v a u m f g h o p n b k ag af) F5 (by simp only[e21,ih]<;>rfl)
theorem e14:x14=Vh:=Eq.trans (b:=LA (bA (Vp x21) (JH (Vp x21) (λv a u m f g h o p n b k ag af=>z17 Dn (t17 v a u m f g h o p n b k ag af))))) F5 (by simp only[e21,i17,Bc]<;>rfl)
def k:Kc P_ gl:=⟨(12,⟨H.p,H.r,u2 Kx⟩),co H func12 (λx=>Eq.trans (b:=u2 (gH x14) x) F5 (by simp only[e14]<;>rfl))⟩
end F12
namespace F25
def H:Hd:=⟨[Sb,Ss],[Ob 5,Si],.d,kt [F12.k,F21.k] false,[],f25⟩
def k:Kc P_ gl:=⟨(25,⟨H.p,H.r,u2 iP⟩),co H func25⟩
end F25
namespace F6
def H:Hd:=⟨[.agg [Si,Si,Si,Sw],Ss,Sb],[Sz],.d,kt [F14.k,F20.k,F21.k,F22.k,F23.k,F24.k,F25.k] false,[],f6⟩
def k:Kc P_ gl:=⟨(6,⟨H.p,H.r,u6 Tj⟩),co H func6⟩
end F6
end
end Go.Proofs.YtaicmmejgiaafaaGreatDoor
