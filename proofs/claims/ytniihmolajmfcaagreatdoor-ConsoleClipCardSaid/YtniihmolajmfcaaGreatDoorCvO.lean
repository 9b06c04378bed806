/- A part of a proof (see the text that ends in Proof). No conditions. -/
import Derived.Test.YtniihmolajmfcaaGreatDoorCvHA
set_option linter.unusedVariables false
set_option linter.unusedSimpArgs false
set_option maxRecDepth 10000
namespace Go.Proofs.YtniihmolajmfcaaGreatDoor
open Go Go.Lv Go.Pl Go.Rx Go.Rx.PS
noncomputable section
set_option linter.unusedSectionVars false
variable [Ev]
def g1:List Value:=[.int .i64 2,.int .i64 2,.int .i64 2,.int .i64 4,.int .i64 4]
def g2:List Value:=[.bool true,.int .i64 0]
def g5:List Value:=[Ev.ev 5]
def g6:List Value:=[Ev.ev 6]
def g7:List Value:=[.bool false,.int .i64 0]
def g10:List Value:=[.int .u64 1,.int .u64 10,.int .u64 100,.int .u64 1000,.int .u64 10000,.int .u64 100000,.int .u64 1000000,.int .u64 10000000,.int .u64 100000000,.int .u64 1000000000,.int .u64 10000000000,.int .u64 100000000000,.int .u64 1000000000000,.int .u64 10000000000000,.int .u64 100000000000000,.int .u64 1000000000000000,.int .u64 10000000000000000,.int .u64 100000000000000000,.int .u64 1000000000000000000,.int .u64 10000000000000000000]
def g13:List Value:=[.int .u8 0,.int .u8 1,.int .u8 56,.int .u8 2,.int .u8 57,.int .u8 49,.int .u8 28,.int .u8 3,.int .u8 61,.int .u8 58,.int .u8 42,.int .u8 50,.int .u8 38,.int .u8 29,.int .u8 17,.int .u8 4,.int .u8 62,.int .u8 47,.int .u8 59,.int .u8 36,.int .u8 45,.int .u8 43,.int .u8 51,.int .u8 22,.int .u8 53,.int .u8 39,.int .u8 33,.int .u8 30,.int .u8 24,.int .u8 18,.int .u8 12,.int .u8 5,.int .u8 63,.int .u8 55,.int .u8 48,.int .u8 27,.int .u8 60,.int .u8 41,.int .u8 37,.int .u8 16,.int .u8 46,.int .u8 35,.int .u8 44,.int .u8 21,.int .u8 52,.int .u8 32,.int .u8 23,.int .u8 11,.int .u8 54,.int .u8 26,.int .u8 40,.int .u8 15,.int .u8 34,.int .u8 20,.int .u8 31,.int .u8 10,.int .u8 25,.int .u8 14,.int .u8 19,.int .u8 9,.int .u8 13,.int .u8 8,.int .u8 7,.int .u8 6]
def gl:List (Nat×List Value):=[(1,g1),(2,g2),(5,g5),(6,g6),(7,g7),(10,g10),(13,g13)]
theorem mixed:Tryz.prog.follows .mixedOrders=true:=F3
noncomputable abbrev P_:=Tryz.prog
noncomputable def kt(l:List (Kc P_ gl))(v:Bool)(c:Bool:=false):=yU l v c
theorem co(H:Hd){f:Nat}{F:Zb (Qo H.p)->Option (Zb (Qo H.r))}(hf:P_.funcs[f]? =some H.f)(h:∀x,H.u P_ x=F x:=by intro x;kernel_rfl)(hT:Sk P_ H.T:=by exact lN _ _ _)(hb:okA P_ H=true:=by kernel_rfl):ConOk P_ H.T.gl f ⟨H.p,H.r,F⟩:=Hd.cn mixed H hf hT hb h
def kk_(f:Nat)(H:Hd)(F:Zb (Qo H.p)->Option (Zb (Qo H.r)))(hf:P_.funcs[f]? =some H.f)(h:∀x,H.u P_ x=F x:=by intro x;kernel_rfl)(hT:Sk P_ H.T:=by exact lN _ _ _)(hb:okA P_ H=true:=by kernel_rfl):Kc P_ H.T.gl:=⟨(f,⟨H.p,H.r,F⟩),Hd.cn mixed H hf hT hb h⟩
abbrev KC_:=Kc P_ gl
abbrev hd_(p r:List Sh)(a:An)(l:List KC_)(f:Func)(v:Bool:=false)(s:List (Nat×An):=[]):Hd:=⟨p,r,a,kt l v,s,f⟩
abbrev ZT_(R:Type):=Nat->S->Option R
theorem cp(H:Hd){f:Nat}{F:Zb (Qo H.p)->Option (Zb (Qo H.r))}(hf:P_.funcs[f]? =some H.f)(hP:∀p∈H.s,bQ P_ p.2 p.1)(h:∀x,H.u P_ x=F x:=by intro x;kernel_rfl)(hT:Sk P_ H.T:=by exact lN _ _ _)(hb:okP P_ H=true:=by kernel_rfl):ConOk P_ H.T.gl f ⟨H.p,H.r,F⟩:=Hd.cp mixed H hf hT hP hb h
theorem ent10:Ent Tryz.prog 10:=Ent.mk Tryz.func10 F3 rfl
theorem ent19:Ent Tryz.prog 19:=Ent.mk Tryz.func19 F3 rfl
theorem ent22:Ent Tryz.prog 22:=Ent.mk Tryz.func22 F3 rfl
theorem ent23:Ent Tryz.prog 23:=Ent.mk Tryz.func23 F3 rfl
theorem ent24:Ent Tryz.prog 24:=Ent.mk Tryz.func24 F3 rfl
theorem ent26:Ent Tryz.prog 26:=Ent.mk Tryz.func26 F3 rfl
theorem ent27:Ent Tryz.prog 27:=Ent.mk Tryz.func27 F3 rfl
theorem ent34:Ent Tryz.prog 34:=Ent.mk Tryz.func34 F3 rfl
theorem ent36:Ent Tryz.prog 36:=Ent.mk Tryz.func36 F3 rfl
theorem ent37:Ent Tryz.prog 37:=Ent.mk Tryz.func37 F3 rfl
theorem ent38:Ent Tryz.prog 38:=Ent.mk Tryz.func38 F3 rfl
theorem ent39:Ent Tryz.prog 39:=Ent.mk Tryz.func39 F3 rfl
theorem ent40:Ent Tryz.prog 40:=Ent.mk Tryz.func40 F3 rfl
theorem ent41:Ent Tryz.prog 41:=Ent.mk Tryz.func41 F3 rfl
theorem ent42:Ent Tryz.prog 42:=Ent.mk Tryz.func42 F3 rfl
theorem ent43:Ent Tryz.prog 43:=Ent.mk Tryz.func43 F3 rfl
theorem ent44:Ent Tryz.prog 44:=Ent.mk Tryz.func44 F3 rfl
theorem ent45:Ent Tryz.prog 45:=Ent.mk Tryz.func45 F3 rfl
theorem ent46:Ent Tryz.prog 46:=Ent.mk Tryz.func46 F3 rfl
theorem ent47:Ent Tryz.prog 47:=Ent.mk Tryz.func47 F3 rfl
theorem ent48:Ent Tryz.prog 48:=Ent.mk Tryz.func48 F3 rfl
theorem ent49:Ent Tryz.prog 49:=Ent.mk Tryz.func49 F3 rfl
theorem ent50:Ent Tryz.prog 50:=Ent.mk Tryz.func50 F3 rfl
theorem ent51:Ent Tryz.prog 51:=Ent.mk Tryz.func51 F3 rfl
theorem ent52:Ent Tryz.prog 52:=Ent.mk Tryz.func52 F3 rfl
theorem ent53:Ent Tryz.prog 53:=Ent.mk Tryz.func53 F3 rfl
theorem ent54:Ent Tryz.prog 54:=Ent.mk Tryz.func54 F3 rfl
theorem ent55:Ent Tryz.prog 55:=Ent.mk Tryz.func55 F3 rfl
theorem ent56:Ent Tryz.prog 56:=Ent.mk Tryz.func56 F3 rfl
theorem ent57:Ent Tryz.prog 57:=Ent.mk Tryz.func57 F3 rfl
theorem ent58:Ent Tryz.prog 58:=Ent.mk Tryz.func58 F3 rfl
theorem ent62:Ent Tryz.prog 62:=Ent.mk Tryz.func62 F3 rfl
theorem ent68:Ent Tryz.prog 68:=Ent.mk Tryz.func68 F3 rfl
theorem ent70:Ent Tryz.prog 70:=Ent.mk Tryz.func70 F3 rfl
theorem ent80:Ent Tryz.prog 80:=Ent.mk Tryz.func80 F3 rfl
theorem ent81:Ent Tryz.prog 81:=Ent.mk Tryz.func81 F3 rfl
theorem ent82:Ent Tryz.prog 82:=Ent.mk Tryz.func82 F3 rfl
theorem ent84:Ent Tryz.prog 84:=Ent.mk Tryz.func84 F3 rfl
theorem ent87:Ent Tryz.prog 87:=Ent.mk Tryz.func87 F3 rfl
theorem ent89:Ent Tryz.prog 89:=Ent.mk Tryz.func89 F3 rfl
theorem ent90:Ent Tryz.prog 90:=Ent.mk Tryz.func90 F3 rfl
theorem ent92:Ent Tryz.prog 92:=Ent.mk Tryz.func92 F3 rfl
theorem ent93:Ent Tryz.prog 93:=Ent.mk Tryz.func93 F3 rfl
theorem ent96:Ent Tryz.prog 96:=Ent.mk Tryz.func96 F3 rfl
theorem ent97:Ent Tryz.prog 97:=Ent.mk Tryz.func97 F3 rfl
theorem ent99:Ent Tryz.prog 99:=Ent.mk Tryz.func99 F3 rfl
theorem ent138:Ent Tryz.prog 138:=Ent.mk Tryz.func138 F3 rfl
theorem ent139:Ent Tryz.prog 139:=Ent.mk Tryz.func139 F3 rfl
theorem ent142:Ent Tryz.prog 142:=Ent.mk Tryz.func142 F3 rfl
theorem ent151:Ent Tryz.prog 151:=Ent.mk Tryz.func151 F3 rfl
theorem M2:bQ Tryz.prog (.pr 1 51 5) 26:=Ary
theorem N3:bQ Tryz.prog (.pr 0 51 5) 36:=Aof
theorem ru:bQ Tryz.prog (.pr 2 51 5) 157:=Aj1
abbrev u2{A B R:Type}(f:A->B->R)(x:A×B):=f x.1 x.2
abbrev u3{A B C R:Type}(f:A->B->C->R):=u2 λa=>u2 (f a)
abbrev u4{A B C D R:Type}(f:A->B->C->D->R):=u2 λa=>u3 (f a)
abbrev u5{A B C D E R:Type}(f:A->B->C->D->E->R):=u2 λa=>u4 (f a)
abbrev u6{A B C D E F R:Type}(f:A->B->C->D->E->F->R):=u2 λa=>u5 (f a)
abbrev u7{A B C D E F G R:Type}(f:A->B->C->D->E->F->G->R):=u2 λa=>u6 (f a)
abbrev u8{A B C D E F G H R:Type}(f:A->B->C->D->E->F->G->H->R):=u2 λa=>u7 (f a)
abbrev u9{A B C D E F G H I R:Type}(f:A->B->C->D->E->F->G->H->I->R):=u2 λa=>u8 (f a)
abbrev u10{A B C D E F G H I J R:Type}(f:A->B->C->D->E->F->G->H->I->J->R):=u2 λa=>u9 (f a)
abbrev u11{A B C D E F G H I J K R:Type}(f:A->B->C->D->E->F->G->H->I->J->K->R):=u2 λa=>u10 (f a)
abbrev u12{A B C D E F G H I J K L R:Type}(f:A->B->C->D->E->F->G->H->I->J->K->L->R):=u2 λa=>u11 (f a)
abbrev u13{A B C D E F G H I J K L M R:Type}(f:A->B->C->D->E->F->G->H->I->J->K->L->M->R):=u2 λa=>u12 (f a)
open Go.Proofs.Tryz
theorem FC:ConOk Tryz.prog gl 27 Sd:=Bgi ent27
namespace F67
def H:=hd_ [Ss,Ss] [Sz] .d [] f67
def k:KC_:=kk_ 67 H (u2 Ei) func67
end F67
namespace F33
def H:=hd_ [Ss,Ss] [Sz] .d [F67.k] f33
def k:KC_:=kk_ 33 H (u2 Ub) func33
end F33
namespace F21
abbrev R_:=Int
def H:=hd_ [Ss] [Si] (.q (.cut [0] [] .d .d)) [⟨(27,Sd),FC⟩,F33.k] f21
def k:KC_:=kk_ 21 H Sy func21
end F21
namespace F11
def H:=hd_ [Ss] [Si,Si] .d [F21.k,⟨(27,Sd),FC⟩] f11
def k:KC_:=kk_ 11 H Amf func11
end F11
theorem Acq:ConOk Tryz.prog gl 62 HO:=Bgk ent62
theorem Ba1:ConOk Tryz.prog gl 68 Pv:=Azu ent68
namespace F35
def H:=hd_ [Ss,Sc] [Si] .d [⟨(68,Pv),Ba1⟩] f35
def k:KC_:=kk_ 35 H (u2 Nf) func35
end F35
theorem Ye:ConOk Tryz.prog gl 99 Pa:=Awd ent99 (by unfold gl;repeat first|exact List.Mem.head _|apply List.Mem.tail)
namespace F73
def H:=hd_ [Si] [Ss] .d [⟨(99,Pa),Ye⟩] f73
def k:KC_:=kk_ 73 H Ao func73
end F73
namespace F71
abbrev R_:=LB
def H:=hd_ [Sb,Si] [Ss] (.q (.q (.q (.cut [5] [] (.q (.blk (.loop [5,12,13,14] [⟨5,[0],.wp⟩,⟨5,[1],.own 5 (.int .u8)⟩] (.q (.q (.seq (.blk (.q (.seq (.keep [5,7,12,13,14] true) (.keep [5,12,13,14] true)))) .d)))))) .d)))) [F73.k] f71 false [(26,.pr 1 51 5),(36,.pr 0 51 5),(104,.d)]
def t4(a:LB)(f:Int)(b:LB):S:=⟨[(5,.ptr 0 []),(12,vb a),(13,vi (Ad a)),(14,vi f)],[.box 51 (.agg [.wp 0,.own 1]),Ab 5 b],[]⟩
def z4:ZT_ R_:=H.i P_ [r,r,r,l,r,d]
theorem i4(a:LB):∀(q:Nat) (f:Int) (b:LB),z4 q (t4 a f b)=Uv a q f b:=
 ind (λ_ _=>by kernel_rfl) λq ih f b=>Eq.trans (b:=OM MM (λf b=>(z4 q) (t4 a f b)) a f b) F3 (by simp only[ih]<;>rfl)
def k:Kc P_ gl:=⟨(71,⟨H.p,H.r,u2 Gl⟩),cp H func71 (by intro p hp;rcases List.mem_cons.1 hp with rfl|hp;exact M2;rcases List.mem_cons.1 hp with rfl|hp;exact N3;rcases List.mem_cons.1 hp with rfl|hp;exact trivial;cases hp) (λx=>Eq.trans (b:=u2 (LV (λa f b=>z4 Bs (t4 a f b))) x) F3 (by simp only[i4,Am]<;>rfl))⟩
end F71
namespace F130
def H:=hd_ [Sb,Sb] [Sz] .d [] f130
def k:KC_:=kk_ 130 H (u2 Ij) func130
end F130
namespace F239
def H:=hd_ [Sb,Sb] [Sz] .d [F130.k] f239
def k:KC_:=kk_ 239 H (u2 Km) func239
end F239
namespace F341
abbrev R_:=(Int×Int)
def H:=hd_ [Sb] [Si,Si] (.q (.q (.q (.cut [4] [] (.q (.blk (.loop [4,10,11,12] [] .d))) .d)))) [] f341
def t4(a:LB)(b f:Int):S:=⟨[(4,vi b),(10,vb a),(11,vi (Ad a)),(12,vi f)],[],[]⟩
def z4:ZT_ R_:=H.i P_ [r,r,r,l,r,d]
theorem i4(a:LB):∀(q:Nat) (b f:Int),z4 q (t4 a b f)=Lo a q b f:=
 ind (λ_ _=>by kernel_rfl) λq ih b f=>Eq.trans (b:=Va Ad8 (λb f=>(z4 q) (t4 a b f)) a b f) F3 (by simp only[ih]<;>rfl)
def k:KC_:=kk_ 341 H GH func341 (λx=>Eq.trans (b:=EK (λa b f=>z4 Bs (t4 a b f)) x) F3 (by simp only[i4,Am]<;>rfl))
end F341
namespace F308
def EG(j5:LB->UInt8->UInt8->Option (Int×Int))(a:LB):Option (Int×Int):=
(Km a ([(73:UInt8),(68:UInt8),(51:UInt8)]:LB)).bind λn=>
if(!n)then
some (0,6)
else
if(Cx (Ad a) 10)then
some (0,24)
else
(Af a 3).bind λf=>
(Af a 5).bind λb=>
(λo:Option (Int×Int)=>
(λp:Option (Int×Int)=>
both (
both (
bo (
j5 a f b)) [
o,
o]) [
bo2 (
bo (
j5 a f b)),
p,
p]) (
both (
o) [
bo (
j5 a f b),
both (
bo (
j5 a f b)) [
j5 a f b]])) (
both (
j5 a f b) [
bo (
j5 a f b)])
theorem Beb: @EG= @Yf:=by
  unfold EG Yf
  try simp only[EC,Ti,Tg]
  all_goals
    repeat (refine funext λ_=>?_)
    repeat' first
      |with_reducible rfl
      |with_reducible refine Gu ?_ ?_
      |with_reducible refine Gm ?_ ?_ ?_
      |with_reducible refine Gs ?_ ?_ ?_ ?_
      |((with_reducible refine Jj ?_ ?_);focus (intro h;first|(subst h;rfl)|(simp only[h];rfl)|(simp[Bf,Ad,h];done)))
      |with_reducible refine Jm λx=>?_
      |with_reducible refine Nw (λ_=>?_) (λ_=>?_)
      |(refine Ea (λh=>by simp only[h,Ji,Di,De,ite_self]) (λx h=>?_);(try simp only[h,Di]))
      |(refine Ew (λh=>?_) (λh=>?_)<;>simp only[h,if_true,if_false,Bool.false_eq_true])
abbrev R_:=(Int×Int)
def H:=hd_ [Sb] [Si,Si] (.q (.q (.q (.cut [0,4,5] [] (.mode false) (.q (.q (.cut [0,5,6] [] (.cut [0,5,6,43] [] (.keep [0,5,6,7,8,31,32,33,34,35,36,37,38,39,40,41,42,43] true) .d) (.q (.cut [0,5,6] [] .d .d))))))))) [F130.k,F239.k,F341.k] f308 false [(342,.d)]
def x6(a:LB)(g:Int)(b:UInt8)(m:Bool):Option R_:=H.e P_ [r,r,r,r,r,r,l,r] ⟨[(0,vb a),(5,.ptr 0 []),(6,vi g),(43,vt m)],[.box 5 (vc b)],[]⟩
def x5(a:LB)(f b:UInt8):Option R_:=H.e P_ [r,r,r,r] ⟨[(0,vb a),(4,.ptr 0 []),(5,.ptr 1 [])],[.box 5 (vc f),.box 5 (vc b)],[]⟩
theorem e6:x6=IH:=F3
theorem e5:x5=HX:=Eq.trans (b:=IB x6) F3 (by simp only[e6]<;>rfl)
def k:KC_:=kk_ 308 H KF func308 (λx=>Eq.trans (b:=EG x5 x) F3 (by rw[Beb];simp only[e5]<;>rfl))
end F308
namespace F265
abbrev R_:=(UInt64×Int)
def H:=hd_ [Sb] [Sq,Si] (.q (.q (.q (.cut [4] [] (.q (.blk (.loop [4,15,16,17] [] .d))) .d)))) [] f265
def t4(a:LB)(f:UInt64)(b:Int):S:=⟨[(4,vq f),(15,vb a),(16,vi (Ad a)),(17,vi b)],[],[]⟩
def z4:ZT_ R_:=H.i P_ [r,r,r,l,r,d]
theorem i4(a:LB):∀(q:Nat) (f:UInt64) (b:Int),z4 q (t4 a f b)=Zj a q f b:=
 ind (λ_ _=>by kernel_rfl) λq ih f b=>Eq.trans (b:=SS Aul (λf b=>(z4 q) (t4 a f b)) a f b) F3 (by simp only[ih]<;>rfl)
def k:KC_:=kk_ 265 H fY func265 (λx=>Eq.trans (b:=lC (λa f b=>z4 Bs (t4 a f b)) x) F3 (by simp only[i4,Am]<;>rfl))
end F265
namespace F205
def H:=hd_ [Sb,Si,Si] [Sq,Si] .d [F265.k] f205
def k:KC_:=kk_ 205 H (u3 WU) func205
end F205
namespace F280
def H:=hd_ [Sq,Si] [Sz] .d [] f280
def k:KC_:=kk_ 280 H (u2 C5) func280
end F280
namespace F225
abbrev R_:=(LB×Int)
def H:=hd_ [Sq,Si] [Ob 5,Si] (.q (.q (.q (.q (.cut [6] [] (.q (.blk (.loop [0,6,21,22] [] .d))) .d))))) [F280.k] f225
def t4(f:UInt64)(g:LB)(a:Int)(b:LB):S:=⟨[(0,vq f),(6,.own 0),(21,vi (Ad g)),(22,vi a)],[Ab 5 b],[]⟩
def z4:ZT_ R_:=H.i P_ [r,r,r,r,l,r,d]
theorem i4(f:UInt64)(g:LB):∀(q:Nat) (a:Int) (b:LB),z4 q (t4 f g a b)=Zs f g q a b:=
 ind (λ_ _=>by kernel_rfl) λq ih a b=>Eq.trans (b:=SX fX (λa b=>(z4 q) (t4 f g a b)) f g a b) F3 (by simp only[ih]<;>rfl)
def k:KC_:=kk_ 225 H (u2 Xb) func225 (λx=>Eq.trans (b:=u2 (iQ (λf g a b=>z4 Bs (t4 f g a b))) x) F3 (by simp only[i4,Am]<;>rfl))
end F225
namespace F241
abbrev R_:=LB
def H:=hd_ [Si,Si,Sq] [Ob 5] (.q (.q (.cut [7] [] (.q (.blk (.loop [7,20,21,22] [] .d))) .d))) [F225.k] f241
def t4(a b:Int)(f:UInt64)(h:Int)(g:LB):S:=⟨[(7,.own 0),(20,.own 1),(21,vi (Ad ([(2000:UInt64),(Ah (Ae a (32:Int)):UInt64),(Ah b:UInt64),f,(0:UInt64),(0:UInt64)]:LQ))),(22,vi h)],[Ab 5 g,.arr 272 (.int .u64) ([(2000:UInt64),(Ah (Ae a (32:Int)):UInt64),(Ah b:UInt64),f,(0:UInt64),(0:UInt64)]:LQ)],[]⟩
def z4:ZT_ R_:=H.i P_ [r,r,l,r,d]
theorem i4(a b:Int)(f:UInt64):∀(q:Nat) (h:Int) (g:LB),z4 q (t4 a b f h g)=Yn a b f q h g:=
 ind (λ_ _=>by kernel_rfl) λq ih h g=>Eq.trans (b:=aR pD (λh g=>(z4 q) (t4 a b f h g)) a b f h g) F3 (by simp only[ih]<;>rfl)
def k:KC_:=kk_ 241 H (u3 lV) func241 (λx=>Eq.trans (b:=u3 (pF (λa b f h g=>z4 Bs (t4 a b f h g))) x) F3 (by simp only[i4,Am]<;>rfl))
end F241
namespace F240
def H:=hd_ [Sb,Sq] [.agg [Si,Si],Sz] .d [F130.k,F205.k,F241.k] f240
def k:KC_:=kk_ 240 H (u2 KZ) func240
end F240
namespace F309
def H:=hd_ [Sb] [Si,Si] .d [F130.k,F239.k,F240.k,F241.k] f309
def k:KC_:=kk_ 309 H mD func309
end F309
namespace F263
def H:=hd_ [Sb] [Si,Si] .d [F308.k,F309.k] f263
def k:KC_:=kk_ 263 H Ue func263
end F263
theorem Qj:ConOk Tryz.prog gl 151 Lk:=Ay5 ent151 F263.k.2
namespace F264
def H:=hd_ [Ss,Ss] [Sz] .d [] f264
def k:KC_:=kk_ 264 H (u2 Jc) func264
end F264
namespace F204
def H:=hd_ [Ss,Ss] [Sz] .d [F264.k] f204
def k:KC_:=kk_ 204 H (u2 Na) func204
end F204
namespace F266
abbrev R_:=(UInt32×Int)
abbrev K_:=S->Option R_
def H:=hd_ [Su,Sb] [Su,Si] (.q (.q (.cut [0,1,6] [] (.keep [0,1,6,12] true) (.cut [0] [] (.q (.blk (.loop [0,6,13,14,15] [] .d))) .d)))) [] f266 false [(310,(.q (.q (.cut [1] [] (.q (.blk (.loop [1,5] [] (.q (.q (.cut [1,5] [] (.blk (.q (.q (.cut [1,2,3,5] [] (.q (.blk (.loop [1,2,3,5,10] [] .d))) .d)))) .d)))))) .d))))]
def t28(a:LB)(b:LU)(h:UInt32)(m:Int):S:=⟨[(0,vu h),(6,.ptr 0 []),(13,vb a),(14,vi (Ad a)),(15,vi m)],[.box 436 (.val (.vec 256 (.int .u32)) b)],[]⟩
def z28:ZT_ R_:=H.i P_ [r,r,r,l,r,d]
def t21(f:UInt32)(a:LB)(g:Int)(b:LU)(k:UInt32)(n:Int):S:=⟨[(1,.ptr 0 []),(2,vi g),(3,vu k),(5,vi g),(10,vi n)],[.box 436 (.val (.vec 256 (.int .u32)) b)],[[(0,vu f),(1,vb a)]]⟩
def z21(Kr:K_):ZT_ R_:=H.i P_ [r,r,l,(call 0 310),r,r,l,r,d,(lp Kr),r,r,l,d,r,r,l,r,d]
def t16(f:UInt32)(a:LB)(g:Int)(b:LU):S:=⟨[(1,.ptr 0 []),(5,vi g)],[.box 436 (.val (.vec 256 (.int .u32)) b)],[[(0,vu f),(1,vb a)]]⟩
def z16:ZT_ R_:=H.i P_ [r,r,l,(call 0 310),r,r,l,r,d]
def x28(a:LB)(b:LU)(h:UInt32)(m:Int):Option R_:=H.e P_ [r,r,r,l,r,d] (t28 a b h m)
def x21(Kr:K_)(f:UInt32)(a:LB)(g:Int)(b:LU)(k:UInt32)(n:Int):Option R_:=H.e P_ [r,r,l,(call 0 310),r,r,l,r,d,(lp Kr),r,r,l,d,r,r,l,r,d] (t21 f a g b k n)
theorem i28(a:LB)(b:LU):∀(q:Nat) (h:UInt32) (m:Int),z28 q (t28 a b h m)=Ou a b q h m:=
 ind (λ_ _=>by kernel_rfl) λq ih h m=>Eq.trans (b:=AZ NJ (λh m=>(z28 q) (t28 a b h m)) a b h m) F3 (by simp only[ih]<;>rfl)
theorem e28:x28=OL:=by funext a b h m;exact Eq.trans F3 ((i28 a b Bs h m).trans (by rw[Am];rfl))
theorem i21(Kr:K_)(f:UInt32)(a:LB)(g:Int)(b:LU):∀(q:Nat) (k:UInt32) (n:Int),z21 Kr q (t21 f a g b k n)=Ql (λg b=>Kr (t16 f a g b)) f a g b q k n:=
 ind (λ_ _=>by kernel_rfl) λq ih k n=>Eq.trans (b:=DS (BD (λg b=>Kr (t16 f a g b)) f a) (λk n=>(z21 Kr q) (t21 f a g b k n)) f a g b k n) F3 (by simp only[ih]<;>rfl)
theorem e21(Kr:K_)(f:UInt32)(a:LB):x21 Kr f a=OZ (λg b=>Kr (t16 f a g b)) f a:=by funext g b k n;exact Eq.trans F3 ((i21 Kr f a g b Bs k n).trans (by rw[Am];rfl))
theorem i16(f:UInt32)(a:LB):∀(q:Nat) (g:Int) (b:LU),z16 q (t16 f a g b)=Lr f a q g b:=
 ind (λ_ _=>by kernel_rfl) λq ih g b=>Eq.trans (b:=BS (x21 (z16 q) f a) (NC (MH x28)) f a g b) F3 (by simp only[e21,e28,ih]<;>rfl)
def k:KC_:=kk_ 266 H (u2 bC) func266 (λx=>Eq.trans (b:=u2 (UA (λf a g b=>z16 Bs (t16 f a g b))) x) F3 (by simp only[i16,Am]<;>rfl))
end F266
namespace F206
def H:=hd_ [Sb] [Su,Si] .d [F266.k] f206
def k:KC_:=kk_ 206 H Vw func206
end F206
namespace F207
abbrev R_:=Bool
def H:=hd_ [.agg [Si,Si,Si,Si,Si]] [Sz] (.q (.cut [1] [] .d .d)) [] f207
def k:KC_:=kk_ 207 H (u5 Xa) func207
end F207
namespace F178
def H:=hd_ [Si] [Si,Si] .d [] f178
def k:KC_:=kk_ 178 H Lc func178
end F178
namespace F177
def H:=hd_ [Si,Si] [Si,Si] .d [F178.k] f177
def k:KC_:=kk_ 177 H (u2 Hr) func177
end F177
namespace F208
def H:=hd_ [.agg [Si,Si,Si,Si,Si]] [Sz] .d [F177.k] f208
def k:KC_:=kk_ 208 H (u5 GO) func208
end F208
namespace F152
abbrev R_:=(Int×Int×Int×Int×Int×Int)
def H:=hd_ [Sb] [.agg [Si,Si,Si,Si,Si],Si] (.q (.q (.q (.q (.q (.q (.q (.cut [2,8] [] (.q (.blk (.loop [0,2,8,9,44,45] [] .d))) .d)))))))) [F204.k,F205.k,F206.k,F207.k,F208.k] f152
def t4(b:LB)(g f:Int)(a:LI):S:=⟨[(0,vb b),(2,.ptr 0 []),(8,.ptr 1 []),(9,vi g),(44,.val (.vec 5 (.int .i64)) ([(2:Int),(2:Int),(2:Int),(4:Int),(4:Int)]:LI)),(45,vi f)],[.box 95 (.agg [vi 0,vi 0,vi 0,vi 0,vi 0]),.box 277 (.val (.vec 5 (.int .i64)) a)],[]⟩
def z4:ZT_ R_:=H.i P_ [r,r,r,r,r,r,r,l,r,d]
theorem i4(b:LB):∀(q:Nat) (g f:Int) (a:LI),z4 q (t4 b g f a)=Ma b q g f a:=
 ind (λ_ _ _=>by kernel_rfl) λq ih g f a=>Eq.trans (b:=DH CN (λg f a=>(z4 q) (t4 b g f a)) b g f a) F3 (by simp only[ih]<;>rfl)
def k:KC_:=kk_ 152 H Jt func152 (λx=>Eq.trans (b:=OY (λb g f a=>z4 Bs (t4 b g f a)) x) F3 (by simp only[i4,Am]<;>rfl))
end F152
namespace F283
abbrev R_:=(UInt64×Int)
abbrev K_:=S->Option R_
def H:=hd_ [Sq,Sb] [Sq,Si] (.q (.q (.cut [4,5] [] (.keep [0,1,4,5,9,10,11,12] true) .d))) [] f283 false [(318,(.q (.cut [1] [] (.q (.blk (.loop [0,1,9,10,11] [] .d))) .d))),(319,(.q (.q (.cut [1] [] (.q (.blk (.loop [1,5] [] (.q (.q (.cut [1,5] [] (.blk (.q (.q (.cut [1,2,3,5] [] (.q (.blk (.loop [1,2,3,5,11] [] .d))) .d)))) .d)))))) .d))))]
def t27(a:LB)(b:UInt64)(f:LQ)(h:UInt64)(m:Int):S:=⟨[(0,.ptr 0 []),(1,vq h),(9,vb a),(10,vi (Ad a)),(11,vi m)],[.box 442 (.val (.vec 256 (.int .u64)) f)],[[(0,vq b),(1,vb a),(4,vq 0),(5,vi 0),(9,.ptr 0 []),(10,vq b),(11,vb a)]]⟩
def z27:ZT_ R_:=H.i P_ [r,r,l,(call 3 318),r,l,r,d]
def t21(b:UInt64)(a:LB)(g:Int)(f:LQ)(k:UInt64)(n:Int):S:=⟨[(1,.ptr 0 []),(2,vi g),(3,vq k),(5,vi g),(11,vi n)],[.box 442 (.val (.vec 256 (.int .u64)) f)],[[(0,vq b),(1,vb a),(4,vq 0),(5,vi 0)]]⟩
def z21(Kr:K_):ZT_ R_:=H.i P_ [r,r,l,(call 0 319),r,r,l,r,d,(lp Kr),r,r,l,d,r,r,l,r,d]
def t16(b:UInt64)(a:LB)(g:Int)(f:LQ):S:=⟨[(1,.ptr 0 []),(5,vi g)],[.box 442 (.val (.vec 256 (.int .u64)) f)],[[(0,vq b),(1,vb a),(4,vq 0),(5,vi 0)]]⟩
def z16:ZT_ R_:=H.i P_ [r,r,l,(call 0 319),r,r,l,r,d]
def x27(a:LB)(b:UInt64)(f:LQ)(h:UInt64)(m:Int):Option R_:=H.e P_ [r,r,l,(call 3 318),r,l,r,d] (t27 a b f h m)
def x21(Kr:K_)(b:UInt64)(a:LB)(g:Int)(f:LQ)(k:UInt64)(n:Int):Option R_:=H.e P_ [r,r,l,(call 0 319),r,r,l,r,d,(lp Kr),r,r,l,d,r,r,l,r,d] (t21 b a g f k n)
theorem i27(a:LB)(b:UInt64)(f:LQ):∀(q:Nat) (h:UInt64) (m:Int),z27 q (t27 a b f h m)=Ps a b f q h m:=
 ind (λ_ _=>by kernel_rfl) λq ih h m=>Eq.trans (b:=CZ MW (λh m=>(z27 q) (t27 a b f h m)) a b f h m) F3 (by simp only[ih]<;>rfl)
theorem e27:x27=MS:=by funext a b f h m;exact Eq.trans F3 ((i27 a b f Bs h m).trans (by rw[Am];rfl))
theorem i21(Kr:K_)(b:UInt64)(a:LB)(g:Int)(f:LQ):∀(q:Nat) (k:UInt64) (n:Int),z21 Kr q (t21 b a g f k n)=Oz (λg f=>Kr (t16 b a g f)) b a g f q k n:=
 ind (λ_ _=>by kernel_rfl) λq ih k n=>Eq.trans (b:=DM (DI (λg f=>Kr (t16 b a g f)) b a) (λk n=>(z21 Kr q) (t21 b a g f k n)) b a g f k n) F3 (by simp only[ih]<;>rfl)
theorem e21(Kr:K_)(b:UInt64)(a:LB):x21 Kr b a=NP (λg f=>Kr (t16 b a g f)) b a:=by funext g f k n;exact Eq.trans F3 ((i21 Kr b a g f Bs k n).trans (by rw[Am];rfl))
theorem i16(b:UInt64)(a:LB):∀(q:Nat) (g:Int) (f:LQ),z16 q (t16 b a g f)=Lt b a q g f:=
 ind (λ_ _=>by kernel_rfl) λq ih g f=>Eq.trans (b:=BF (x21 (z16 q) b a) (MO x27) b a g f) F3 (by simp only[e21,e27,ih]<;>rfl)
def k:KC_:=kk_ 283 H (u2 cS) func283 (λx=>Eq.trans (b:=u2 (UB (λb a g f=>z16 Bs (t16 b a g f))) x) F3 (by simp only[i16,Am]<;>rfl))
end F283
namespace F231
def H:=hd_ [Sb] [Sq,Si] .d [F283.k] f231
def k:KC_:=kk_ 231 H YT func231
end F231
namespace F267
def H:=hd_ [Ss] [Sq,Si] .d [F231.k] f267
def k:KC_:=kk_ 267 H xM func267
end F267
namespace F209
def H:=hd_ [Ss] [Ob 5,Si] .d [F225.k,F267.k] f209
def k:KC_:=kk_ 209 H BL func209
end F209
namespace F153
def H:=hd_ [Sb,Ss] [Sz,Si] .d [F130.k,F209.k] f153
def k:KC_:=kk_ 153 H (u2 Rq) func153
end F153
namespace F210
def H:=hd_ [.agg [Si,Si,Si,Si,Si]] [Si] .d [F207.k,F208.k] f210
def k:KC_:=kk_ 210 H (u5 Qu) func210
end F210
namespace F344
def H:=hd_ [Sq,Sq] [Sq,Sq] .d [] f344
def k:KC_:=kk_ 344 H (u2 IJ) func344
end F344
namespace F311
def H:=hd_ [Sq,Sq] [Sq,Sq] .d [F344.k] f311
def k:KC_:=kk_ 311 H (u2 GK) func311
end F311
namespace F268
def Mn(j10:LI->Option (LI))(bk8:Int->LI->Option (LI))(b:Int)(a:LI):Option (LI):=
if(Cx b (Ad a))then
both (
(ZW (Ad a) b (Ad a)).bind λ_=>
(ZW (Ad a) 0 b).bind λ_=>
bk8 (Ae b (LK ((Ad a)-b) (QL a 0 (b-(0:Int))).length)) (Um a b ((Ad a)-b) (QL a 0 (b-(0:Int))))) [
(ZW (Ad a) 0 b).bind λ_=>
(ZW (Ad a) b (Ad a)).bind λ_=>
bk8 (Ae b (LK ((Ad a)-b) (QL a 0 (b-(0:Int))).length)) (Um a b ((Ad a)-b) (QL a 0 (b-(0:Int))))]
else
j10 a
theorem Ay1: @Mn= @Gp:=by
  unfold Mn Gp
  repeat (refine funext λ_=>?_)
  repeat' first
    |with_reducible rfl
    |with_reducible refine Gu ?_ ?_
    |with_reducible refine Gm ?_ ?_ ?_
    |with_reducible refine Gs ?_ ?_ ?_ ?_
    |((with_reducible refine Jj ?_ ?_);focus (intro h;first|(subst h;rfl)|(simp only[h];rfl)|(simp[Bf,Ad,h];done)))
    |with_reducible refine Jm λx=>?_
    |with_reducible refine Nw (λ_=>?_) (λ_=>?_)
    |(refine Ea (λh=>by simp only[h,Ji,Di,De,ite_self]) (λx h=>?_);(try simp only[h,Di]))
    |(refine Ew (λh=>?_) (λh=>?_)<;>simp only[h,if_true,if_false,Bool.false_eq_true])
abbrev R_:=LI
def H:=hd_ [Sl,Si] [Ol 3] (.q (.cut [0,1] [] .d (.q (.cut [0,6] [] .d (.q (.q (.cut [7] [] (.blk (.loop [7,8] [] (.q (.blk (.mode false))))) .d))))))) [F311.k] f268 true
def t8(b:Int)(a:LI):S:=⟨[(7,.own 0),(8,vi b)],[Ai 3 a],[]⟩
def z8:ZT_ R_:=H.i P_ [r,r,r,r,r,r,l,d]
theorem i8:∀(q:Nat) (b:Int) (a:LI),z8 q (t8 b a)=Et q b a:=
 ind (λ_ _=>by kernel_rfl) λq ih b a=>Eq.trans (b:=Mn Ip (λb a=>(z8 q) (t8 b a)) b a) F3 (by rw[Ay1];simp only[ih]<;>rfl)
def k:KC_:=kk_ 268 H (u2 Mh) func268 (λx=>Eq.trans (b:=u2 (Oe (Oc (Nx (λb a=>z8 Bs (t8 b a))))) x) F3 (by simp only[i8,Am]<;>rfl))
end F268
namespace F312
abbrev R_:=LI
def H:=hd_ [.lf (.list (.list (.int .i64))) none] [Ol 3] (.q (.q (.cut [0,3] [] (.q (.blk (.loop [0,3,9,10,11] [] .d))) (.cut [0,6] [⟨6,[],.own 3 (.int .i64)⟩] (.keep [0,3,6,23,24] true) (.cut [6] [] (.q (.blk (.loop [6,25,26,27] [] .d))) .d))))) [] f312 true [(345,(.q (.cut [0,1] [] .d .d)))]
def t14(a:List LI)(g:Int)(f:LI):S:=⟨[(6,.own 0),(25,.val (.list (.list (.int .i64))) a),(26,vi (Ad a)),(27,vi g)],[Ai 3 f],[]⟩
def z14:ZT_ R_:=H.i P_ [r,r,r,r,l,r,d]
def t9(a:List LI)(b h:Int):S:=⟨[(0,.val (.list (.list (.int .i64))) a),(3,vi b),(9,.val (.list (.list (.int .i64))) a),(10,vi (Ad a)),(11,vi h)],[],[]⟩
def z9:ZT_ R_:=H.i P_ [r,r,l,r,d]
def x14(a:List LI)(g:Int)(f:LI):Option R_:=H.e P_ [r,r,r,r,l,r,d] (t14 a g f)
theorem i14(a:List LI):∀(q:Nat) (g:Int) (f:LI),z14 q (t14 a g f)=Em a q g f:=
 ind (λ_ _=>by kernel_rfl) λq ih g f=>Eq.trans (b:=Ge Abi (λg f=>(z14 q) (t14 a g f)) a g f) F3 (by simp only[ih]<;>rfl)
theorem e14:x14=Mp:=by funext a g f;exact Eq.trans F3 ((i14 a Bs g f).trans (by rw[Am];rfl))
theorem i9(a:List LI):∀(q:Nat) (b h:Int),z9 q (t9 a b h)=Eu a q b h:=
 ind (λ_ _=>by kernel_rfl) λq ih b h=>Eq.trans (b:=Gn (Mi (Mj (Mo x14))) (λb h=>(z9 q) (t9 a b h)) a b h) F3 (by simp only[e14,ih]<;>rfl)
def k:KC_:=kk_ 312 H Mg func312 (λx=>Eq.trans (b:=Nv (λa b h=>z9 Bs (t9 a b h)) x) F3 (by simp only[i9,Am]<;>rfl))
end F312
namespace F269
def H:=hd_ [Sl,Sl] [Ol 3] .d [F312.k] f269
def k:KC_:=kk_ 269 H (u2 NF) func269
end F269
namespace F211
def H:=hd_ [Si,Si] [Ol 3,Si] .d [F177.k,F178.k,F268.k,F269.k] f211
def k:KC_:=kk_ 211 H (u2 RN) func211
end F211
namespace F154
def H:=hd_ [.agg [Si,Si,Si,Si,Si]] [Ol 3,Si] .d [F210.k,F211.k] f154
def k:KC_:=kk_ 154 H (u5 Dq) func154
end F154
namespace F156
abbrev R_:=Int
def H:=hd_ [Sl] [Si] (.q (.q (.q (.cut [] [] (.q (.blk (.loop [3,14,15,16] [] .d))) .d)))) [] f156
def t4(a:LI)(f b:Int):S:=⟨[(3,vi f),(14,vl a),(15,vi (Ad a)),(16,vi b)],[],[]⟩
def z4:ZT_ R_:=H.i P_ [r,r,r,l,r,d]
theorem i4(a:LI):∀(q:Nat) (f b:Int),z4 q (t4 a f b)=Ph a q f b:=
 ind (λ_ _=>by kernel_rfl) λq ih f b=>Eq.trans (b:=CG Agk (λf b=>(z4 q) (t4 a f b)) a f b) F3 (by simp only[ih]<;>rfl)
def k:KC_:=kk_ 156 H Jq func156 (λx=>Eq.trans (b:=CV (λa f b=>z4 Bs (t4 a f b)) x) F3 (by simp only[i4,Am]<;>rfl))
end F156
namespace F155
abbrev R_:=(LI×Int)
def H:=hd_ [Sb,Si] [Ol 3,Si] (.q (.q (.q (.q (.q (.q (.cut [10] [] (.q (.blk (.loop [0,10,48,49] [] .d))) .d))))))) [F156.k,F205.k,F206.k] f155
def t4(a:LB)(f:LI)(g:Int)(b:LI):S:=⟨[(0,vb a),(10,.own 0),(48,vi (Ad f)),(49,vi g)],[Ai 3 b],[]⟩
def z4:ZT_ R_:=H.i P_ [r,r,r,r,r,r,l,r,d]
theorem i4(a:LB)(f:LI):∀(q:Nat) (g:Int) (b:LI),z4 q (t4 a f g b)=Sr a f q g b:=
 ind (λ_ _=>by kernel_rfl) λq ih g b=>Eq.trans (b:=FW GD (λg b=>(z4 q) (t4 a f g b)) a f g b) F3 (by simp only[ih]<;>rfl)
def k:KC_:=kk_ 155 H (u2 Yu) func155 (λx=>Eq.trans (b:=u2 (TY (λa f g b=>z4 Bs (t4 a f g b))) x) F3 (by simp only[i4,Am]<;>rfl))
end F155
namespace F105
abbrev R_:=(Int×Int×Int×Int×Int×Int×LI×Int)
def H:=hd_ [Sb,Ss] [.agg [.agg [Si,Si,Si,Si,Si],Si,Ol 3],Si] (.q (.q (.q (.q (.q (.q (.q (.q (.q (.cut [0,4,6,8] [] .d .d)))))))))) [⟨(151,Lk),Qj⟩,F152.k,F153.k,F154.k,F155.k] f105
def k:KC_:=kk_ 105 H (u2 Nh) func105
end F105
namespace F169
def H:=hd_ [Sb] [.agg [.agg [Si,Si,Si,Si,Si],.agg [Si,Si,Si,Si,Si],Ol 3],Si] .d [⟨(151,Lk),Qj⟩,F152.k,F154.k] f169
def k:KC_:=kk_ 169 H gY func169
end F169
namespace F232
abbrev R_:=LX
def H:=hd_ [Sq] [.lf (.vec 16 (.int .i32)) none] (.q (.q (.cut [2,3] [] (.q (.blk (.loop [0,2,3,5] [] .d))) .d))) [] f232
def t4(f:UInt64)(a:Int)(b:LX):S:=⟨[(0,vq f),(2,.ptr 0 []),(3,.ptr 1 []),(5,vi a)],[.box 232 (.val (.vec 16 (.int .i32)) (List.replicate 16 (0:Int32))),.box 232 (.val (.vec 16 (.int .i32)) b)],[]⟩
def z4:ZT_ R_:=H.i P_ [r,r,l,r,d]
theorem i4(f:UInt64):∀(q:Nat) (a:Int) (b:LX),z4 q (t4 f a b)=FI f q a b:=
 ind (λ_ _=>by kernel_rfl) λq ih a b=>Eq.trans (b:=dE Aau (λa b=>(z4 q) (t4 f a b)) f a b) F3 (by simp only[ih]<;>rfl)
def k:KC_:=kk_ 232 H zu func232 (λx=>Eq.trans (b:=N2 (λf a b=>z4 Bs (t4 f a b)) x) F3 (by simp only[i4,Am]<;>rfl))
end F232
namespace F172
def H:=hd_ [Ss] [.lf (.vec 16 (.int .i32)) none,Si] .d [F231.k,F232.k] f172
def k:KC_:=kk_ 172 H Mv func172
end F172
namespace F164
abbrev R_:=(Int32×Int32×Int)
def H:=hd_ [Si] [Sx,Sx,Si] (.q (.seq (.q (.blk (.cut [0,7] [] .d .d))) .d)) [] f164
def k:KC_:=kk_ 164 H Qn func164
end F164
namespace F233
def H:=hd_ [.agg [Si,Si]] [Si] .d [F164.k] f233
def k:KC_:=kk_ 233 H (u2 Fv) func233
end F233
namespace F234
def H:=hd_ [Sb] [Sb,Si] .d [F206.k,F265.k] f234
def k:KC_:=kk_ 234 H BN func234
end F234
namespace F83
def Ly(a:LB):Option (LB):=
G5 a (
some ([]:LB)) (
(Bf ([]:LB) a).bind λb=>
some b)
theorem Axs: @Ly= @Bm:=by
  unfold Ly Bm
  repeat (refine funext λ_=>?_)
  repeat' first
    |with_reducible rfl
    |with_reducible refine Gu ?_ ?_
    |with_reducible refine Gm ?_ ?_ ?_
    |with_reducible refine Gs ?_ ?_ ?_ ?_
    |((with_reducible refine Jj ?_ ?_);focus (intro h;first|(subst h;rfl)|(simp only[h];rfl)|(simp[Bf,Ad,h];done)))
    |with_reducible refine Jm λx=>?_
    |with_reducible refine Nw (λ_=>?_) (λ_=>?_)
    |(refine Ea (λh=>by simp only[h,Ji,Di,De,ite_self]) (λx h=>?_);(try simp only[h,Di]))
    |(refine Ew (λh=>?_) (λh=>?_)<;>simp only[h,if_true,if_false,Bool.false_eq_true])
def H:=hd_ [Sb] [Ob 5] .d [] f83
def k:KC_:=kk_ 83 H Bm func83 (λx=>Eq.trans (b:=Ly x) F3 (by simp only[Axs]<;>rfl))
end F83
namespace F235
def H:=hd_ [Sb] [.agg [Ob 5,Si],Si] .d [F83.k] f235
def k:KC_:=kk_ 235 H w_ func235
end F235
namespace F284
def H:=hd_ [] [.agg [Si,Si,Sq,Sq]] .d [] f284
def k:KC_:=kk_ 284 H (λ_=>pA) func284
end F284
namespace F287
def H:=hd_ [.agg [Sb,Si]] [Si] .d [] f287
def k:KC_:=kk_ 287 H (u2 Ib) func287
end F287
namespace F288
abbrev R_:=UInt64
def H:=hd_ [.agg [Sb,Si],Si,Si] [Sq] (.q (.q (.cut [7] [] (.blk (.loop [1,2,3,7,8] [] .d)) .d))) [] f288
def t4(b f:Int)(h:LB)(k:Int)(g:UInt64)(a:Int):S:=⟨[(1,vi b),(2,vi f),(3,.ptr 0 []),(7,vq g),(8,vi a)],[.box 303 (.agg [vb h,vi k])],[]⟩
def z4:ZT_ R_:=H.i P_ [r,r,l,d]
theorem i4(b f:Int)(h:LB)(k:Int):∀(q:Nat) (g:UInt64) (a:Int),z4 q (t4 b f h k g a)=GR b f h k q g a:=
 ind (λ_ _=>by kernel_rfl) λq ih g a=>Eq.trans (b:=fT Aud (λg a=>(z4 q) (t4 b f h k g a)) b f h k g a) F3 (by simp only[ih]<;>rfl)
def k:KC_:=kk_ 288 H (u4 sL) func288 (λx=>Eq.trans (b:=u4 (Au1 (λb f h k g a=>z4 Bs (t4 b f h k g a))) x) F3 (by simp only[i4,Am]<;>rfl))
end F288
namespace F285
abbrev R_:=(LB×Int×Int)
abbrev K_:=S->Option R_
def H:=hd_ [.agg [Sb,Si],Si,Si] [.agg [Ob 5,Si],Si] (.q (.q (.q (.q (.cut [6,8] [] (.q (.blk (.loop [2,3,6,8,9] [⟨8,[0],.own 5 (.int .u8)⟩] (.q (.cut [2,3,6,8,9] [] (.blk (.q (.keep [2,3,6,8,9,10,39,40,41,42,43] true))) .d))))) .d))))) [F287.k,F288.k] f285 false [(320,(.blk (.loop [0,1,2] [] (.q (.blk (.cut [0,1,2] [] .d (.q (.cut [0,1,2,7] [] .d .d))))))))]
def t44(a:Int)(g:LB)(b f:Int)(m n:UInt64)(k h:Int)(u:LB):S:=⟨[(0,.ptr 0 []),(1,vq n),(2,vi k)],[.box 303 (.agg [.own 3,vi h]),.box 303 (.agg [vb g,vi b]),.box 303 (.agg [.nils,vi 0]),Ab 5 u],[[(2,vi a),(3,.ptr 1 []),(6,.ptr 2 []),(8,.ptr 0 []),(9,vi f),(10,vi (Fy (64:Int) (Ap a f))),(39,.agg [vb g,vi b]),(40,vi f),(41,vi (Fy (64:Int) (Ap a f))),(42,vq m),(43,vi (Fy (64:Int) (Ap a f)))]]⟩
def z44(JK:K_):ZT_ R_:=H.i P_ [r,r,r,r,l,r,d,(lp JK),r,l,d,r,(call 5 320),d]
def t27(a:Int)(g:LB)(b f o:Int)(p:LB):S:=⟨[(2,vi a),(3,.ptr 0 []),(6,.ptr 1 []),(8,.ptr 2 []),(9,vi f)],[.box 303 (.agg [vb g,vi b]),.box 303 (.agg [.nils,vi 0]),.box 303 (.agg [.own 3,vi o]),Ab 5 p],[]⟩
def z27:ZT_ R_:=H.i P_ [r,r,r,r,l,r,d]
def x44(JK:K_)(a:Int)(g:LB)(b f:Int)(m n:UInt64)(k h:Int)(u:LB):Option R_:=H.e P_ [r,r,r,r,l,r,d,(lp JK),r,l,d,r,(call 5 320),d] (t44 a g b f m n k h u)
theorem i44(JK:K_)(a:Int)(g:LB)(b f:Int)(m:UInt64):∀(q:Nat) (n:UInt64) (k h:Int) (u:LB),z44 JK q (t44 a g b f m n k h u)=Nq (λf o p=>JK (t27 a g b f o p)) a g b f m q n k h u:=
 ind (λ_ _ _ _=>by kernel_rfl) λq ih n k h u=>Eq.trans (b:=KR (KP (λn k h u=>(z44 JK q) (t44 a g b f m n k h u)) a f g b m) (KE (λf o p=>JK (t27 a g b f o p)) a g b) a g b f m n k h u) F3 (by simp only[ih]<;>rfl)
theorem e44(JK:K_)(a:Int)(g:LB)(b:Int):x44 JK a g b=aY (λf o p=>JK (t27 a g b f o p)) a g b:=by funext f m n k h u;exact Eq.trans F3 ((i44 JK a g b f m Bs n k h u).trans (by rw[Am];rfl))
theorem i27(a:Int)(g:LB)(b:Int):∀(q:Nat) (f o:Int) (p:LB),z27 q (t27 a g b f o p)=Vm a g b q f o p:=
 ind (λ_ _ _=>by kernel_rfl) λq ih f o p=>Eq.trans (b:=aH (x44 (z27 q) a g b) aU a g b f o p) F3 (by simp only[e44,ih]<;>rfl)
def k:KC_:=kk_ 285 H (u4 fP) func285 (λx=>Eq.trans (b:=u4 (kF (λa g b f o p=>z27 Bs (t27 a g b f o p))) x) F3 (by simp only[i27,Am]<;>rfl))
end F285
namespace F321
def LM(j4:Int->Int->UInt64->UInt64->Option Int)(a b:Int)(f g:UInt64):Option Int:=
both (
bo (
j4 a b f g)) [
j4 a b f g]
theorem Bfa: @LM= @FX:=by
  unfold LM FX
  repeat (refine funext λ_=>?_)
  repeat' first
    |with_reducible rfl
    |with_reducible refine Gu ?_ ?_
    |with_reducible refine Gm ?_ ?_ ?_
    |with_reducible refine Gs ?_ ?_ ?_ ?_
    |((with_reducible refine Jj ?_ ?_);focus (intro h;first|(subst h;rfl)|(simp only[h];rfl)|(simp[Bf,Ad,h];done)))
    |with_reducible refine Jm λx=>?_
    |with_reducible refine Nw (λ_=>?_) (λ_=>?_)
    |(refine Ea (λh=>by simp only[h,Ji,Di,De,ite_self]) (λx h=>?_);(try simp only[h,Di]))
    |(refine Ew (λh=>?_) (λh=>?_)<;>simp only[h,if_true,if_false,Bool.false_eq_true])
def OC(j3:Int->Int->UInt64->UInt64->Option Int)(a b:Int)(f g:UInt64):Option Int:=
both (
bo (
j3 a b f g)) [
j3 a b f g]
theorem Bff: @OC= @GL:=by
  unfold OC GL
  repeat (refine funext λ_=>?_)
  repeat' first
    |with_reducible rfl
    |with_reducible refine Gu ?_ ?_
    |with_reducible refine Gm ?_ ?_ ?_
    |with_reducible refine Gs ?_ ?_ ?_ ?_
    |((with_reducible refine Jj ?_ ?_);focus (intro h;first|(subst h;rfl)|(simp only[h];rfl)|(simp[Bf,Ad,h];done)))
    |with_reducible refine Jm λx=>?_
    |with_reducible refine Nw (λ_=>?_) (λ_=>?_)
    |(refine Ea (λh=>by simp only[h,Ji,Di,De,ite_self]) (λx h=>?_);(try simp only[h,Di]))
    |(refine Ew (λh=>?_) (λh=>?_)<;>simp only[h,if_true,if_false,Bool.false_eq_true])
abbrev R_:=Int
def H:=hd_ [.agg [Si,Si,Sq,Sq]] [Si] (.q (.q (.cut [1,3] [] (.mode false) (.cut [1,3] [] (.mode false) .d)))) [] f321
def x3(a b:Int)(f g:UInt64):Option R_:=H.e P_ [r,r,r] ⟨[(1,.ptr 0 []),(3,.ptr 1 [])],[.box 361 (.agg [vi a,vi b,vq f,vq g]),.box 361 (.agg [vi (Fy (wZ a (0:Int)) (24:Int)),vi (Fy (wZ b (0:Int)) (24:Int)),vq f,vq g])],[]⟩
theorem e3:x3=TA:=Eq.trans (b:=LM TR) F3 (by rw[Bfa];rfl)
def k:KC_:=kk_ 321 H (u4 MP) func321 (λx=>Eq.trans (b:=u4 (OC x3) x) F3 (by rw[Bff];simp only[e3]<;>rfl))
end F321
namespace F237
def H:=hd_ [.agg [Sb,Si],Si,Si] [Sq,Si] .d [F287.k,F288.k] f237
def k:KC_:=kk_ 237 H (u4 DA) func237
end F237
namespace F340
def H:=hd_ [Sq] [Si] .d [] f340
def k:KC_:=kk_ 340 H Gg func340
end F340
namespace F348
def QB(j6:Int->UInt64->Int->LB->Int->Option (Int×Int×Int))(g:LB)(b a:Int):Option (Int×Int×Int):=
(Ib g b).bind λm=>
if(Bg m 0)then
some (0,0,m)
else
if(Cx a 0)then
some (0,0,2)
else
if(Ha a b)then
some (0,0,24)
else
(λn:Option (Int×Int×Int)=>
(λo:Option (Int×Int×Int)=>
bo2 (
o)) (
bo (
n))) (
(DA g b a (Fy 48 (Ap b a))).bind λ(k,h)=>
j6 h k a g b)
theorem Bf2: @QB= @Xl:=by
  unfold QB Xl;simp only[EC,Ti,Tg]
abbrev R_:=(Int×Int×Int)
def H:=hd_ [.agg [Sb,Si],Si] [Si,Si,Si] (.q (.q (.q (.q (.q (.cut [3,5,6,8,9] [] (.keep [2,3,5,6,8,9,22,23,24,25,26,27,28,29] false) (.q (.q (.cut [] [] (.blk (.seq (.blk (.seq (.blk (.cut [] [] (.cut [3,4,5] [] (.cut [3,4,5,36] [] (.keep [3,4,5,8,36,37,38,39,40] true) .d) .d) .d)) .d)) .d)) .d))))))))) [F237.k,F287.k,F340.k] f348 false [(360,.d)]
def k:KC_:=kk_ 348 H (u3 EW) func348 (λx=>Eq.trans (b:=u3 (QB UE) x) F3 (by simp only[Bf2]<;>rfl))
end F348
namespace F349
def H:=hd_ [Su,Si] [Sz] .d [] f349
def k:KC_:=kk_ 349 H (u2 Vh) func349
end F349
namespace F322
abbrev R_:=(UInt32×Int×Int)
def H:=hd_ [.agg [Sb,Si],Si,Si] [Su,Si,Si] (.q (.q (.q (.q (.q (.q (.cut [2,3,7,10,11] [] .d .d))))))) [F237.k,F287.k,F348.k,F349.k] f322
def k:KC_:=kk_ 322 H (u4 lO) func322
end F322
namespace F336
def H:=hd_ [.agg [Si,Si,Sq,Sq],Su] [Si,Su] .d [] f336
def k:KC_:=kk_ 336 H (u5 FL) func336
end F336
namespace F286
abbrev R_:=(UInt32×Int×Int×Int×UInt64×UInt64×Int)
def H:=hd_ [.agg [Sb,Si],Si,.agg [Si,Si,Sq,Sq]] [Su,Si,.agg [Si,Si,Sq,Sq],Si] (.q (.cut [1,3,5,8] [] .d (.q (.q (.cut [5,6,7,8] [] .d (.cut [5,6,7,8] [] (.keep [5,6,7,8,81] true) .d)))))) [F237.k,F287.k,F321.k,F322.k,F336.k] f286 false [(323,(.q (.q (.q (.blk (.cut [0,1,4] [] (.blk (.q (.keep [0,1,4,6,18,19,20,21,22,23,24,25] true))) (.cut [] [] (.keep [0,1,4,27,28,29,30,31,32,33,34] true) .d))))))),(350,.d)]
def x8(f:UInt32)(k a:Int)(b:UInt64)(m:Int)(n:UInt64):Option R_:=H.e P_ [r,r,r,r,r,l,(call 1 323),r,r,r,d,r] ⟨[(0,.ptr 0 []),(1,vu f),(4,.fn 350 [])],[.box 361 (.agg [vi a,vi m,vq b,vq n]),.box 361 (.agg [vi 0,vi 0,vq 0,vq 0])],[[(5,.ptr 0 []),(6,vu f),(7,vi k),(8,.ptr 1 []),(81,vu f)]]⟩
theorem e8:x8=DW:=F3
def k:KC_:=kk_ 286 H (u7 EL) func286 (λx=>Eq.trans (b:=u7 (cT (cL (bS x8))) x) F3 (by simp only[e8]<;>rfl))
end F286
namespace F236
def Wg(j21:Int->Int->Int->UInt32->Int-> (List (Int×Int×UInt64×UInt64×Unit))->LU->Int->Int->UInt64->UInt64->Option (LU×Int×Int))(j24:Int->LU->Option (LU×Int×Int))(a f:Int)(g:LB)(b k h:Int)(m:List (Int×Int×UInt64×UInt64×Unit))(n:LU):Option (LU×Int×Int):=
if(Cx h (Cm f a))then
(fP g b k (Fy (Ae k 81) b)).bind λ(ag,ae,af)=>
if(Bg af 0)then
some (([]:LU),0,af)
else
(Gi (Bg a 0)).bind λ_=>
(Af m (Me h a)).bind λ_=>
(λai:Option (LU×Int×Int)=>
both (
both (
(Af m (Me h a)).bind λo=>
(λao:Option (LU×Int×Int)=>
bo (
ao)) (
(EL ag ae 0 o.1 o.2.1 o.2.2.1 o.2.2.2.1).bind λ(w,v,aa,ab,ac,ad,y)=>
j21 k h y w v m n aa ab ac ad)) [
ai]) [
(Af m (Me h a)).bind λo=>
(λaj:Option (LU×Int×Int)=>
both (
bo (
aj)) [
aj]) (
(EL ag ae 0 o.1 o.2.1 o.2.2.1 o.2.2.2.1).bind λ(w,v,aa,ab,ac,ad,y)=>
j21 k h y w v m n aa ab ac ad),
bo (
ai)]) (
(Af m (Me h a)).bind λo=>
(EL ag ae 0 o.1 o.2.1 o.2.2.1 o.2.2.2.1).bind λ(w,v,aa,ab,ac,ad,y)=>
j21 k h y w v m n aa ab ac ad)
else
j24 k n
theorem Bdd: @Wg= @Rm:=by
  unfold Wg Rm
  try simp only[EC,Ti,Tg]
  all_goals
    repeat (refine funext λ_=>?_)
    repeat' first
      |with_reducible rfl
      |with_reducible refine Gu ?_ ?_
      |with_reducible refine Gm ?_ ?_ ?_
      |with_reducible refine Gs ?_ ?_ ?_ ?_
      |((with_reducible refine Jj ?_ ?_);focus (intro h;first|(subst h;rfl)|(simp only[h];rfl)|(simp[Bf,Ad,h];done)))
      |with_reducible refine Jm λx=>?_
      |with_reducible refine Nw (λ_=>?_) (λ_=>?_)
      |(refine Ea (λh=>by simp only[h,Ji,Di,De,ite_self]) (λx h=>?_);(try simp only[h,Di]))
      |(refine Ew (λh=>?_) (λh=>?_)<;>simp only[h,if_true,if_false,Bool.false_eq_true])
abbrev R_:=(LU×Int×Int)
abbrev K_:=S->Option R_
def H:=hd_ [Si,Si,.agg [Sb,Si]] [Ov 122,Si,Si] (.q (.q (.cut [0,1,5,9] [] (.q (.blk (.loop [0,1,5,9,19] [] .d))) (.q (.q (.cut [11,12] [] (.q (.blk (.loop [0,5,9,11,12,28,29] [⟨11,[],.own 122 (.int .u32)⟩] (.q (.q (.seq (.blk (.q (.q (.q (.cut [0,5,9,11,12,13,15,16,17,18,28,29] [] (.mode false) (.q (.cut [0,5,9,11,12,16,28,29] [] .d .d))))))) .d)))))) .d)))))) [F284.k,F285.k,F286.k] f236
def t16(a f:Int)(g:LB)(b k h:Int)(m:List (Int×Int×UInt64×UInt64×Unit))(n:LU):S:=⟨[(0,vi a),(5,.ptr 0 []),(9,.ptr 1 []),(11,.own 2),(12,vi k),(28,vi (Cm f a)),(29,vi h)],[.box 303 (.agg [vb g,vi b]),.box 362 (.val (.vec 6 (.cons (.int .i64) (.cons (.int .i64) (.cons (.int .u64) (.cons (.int .u64) .nil))))) m),Av 122 n],[]⟩
def z16:ZT_ R_:=H.i P_ [r,r,r,r,r,l,r,d]
def t13(a f:Int)(g:LB)(b u:Int)(p:List (Int×Int×UInt64×UInt64×Unit)):S:=⟨[(0,vi a),(1,vi f),(5,.ptr 0 []),(9,.ptr 1 []),(19,vi u)],[.box 303 (.agg [vb g,vi b]),.box 362 (.val (.vec 6 (.cons (.int .i64) (.cons (.int .i64) (.cons (.int .u64) (.cons (.int .u64) .nil))))) p)],[]⟩
def z13:ZT_ R_:=H.i P_ [r,r,l,r,d]
def x16(a f:Int)(g:LB)(b k h:Int)(m:List (Int×Int×UInt64×UInt64×Unit))(n:LU):Option R_:=H.e P_ [r,r,r,r,r,l,r,d] (t16 a f g b k h m n)
theorem i16(a f:Int)(g:LB)(b:Int):∀(q:Nat) (k h:Int) (m:List (Int×Int×UInt64×UInt64×Unit)) (n:LU),z16 q (t16 a f g b k h m n)=Lz a f g b q k h m n:=
 ind (λ_ _ _ _=>by kernel_rfl) λq ih k h m n=>Eq.trans (b:=Wg (Rv (λk h m n=>(z16 q) (t16 a f g b k h m n)) a f g b) NX a f g b k h m n) F3 (by rw[Bdd];simp only[ih]<;>rfl)
theorem e16:x16=LN:=by funext a f g b k h m n;exact Eq.trans F3 ((i16 a f g b Bs k h m n).trans (by rw[Am];rfl))
theorem i13(a f:Int)(g:LB)(b:Int):∀(q:Nat) (u:Int) (p:List (Int×Int×UInt64×UInt64×Unit)),z13 q (t13 a f g b u p)=Ze a f g b q u p:=
 ind (λ_ _=>by kernel_rfl) λq ih u p=>Eq.trans (b:=NL (NW x16) (λu p=>(z13 q) (t13 a f g b u p)) a f g b u p) F3 (by simp only[e16,ih]<;>rfl)
def k:KC_:=kk_ 236 H (u4 DP) func236 (λx=>Eq.trans (b:=u4 (DF (λa f g b u p=>z13 Bs (t13 a f g b u p))) x) F3 (by simp only[i13,Am]<;>rfl))
end F236
namespace F324
abbrev R_:=(Int×LX×LX×Int)
def H:=hd_ [Si,.lf (.vec 16 (.int .i32)) none] [.agg [Si,.lf (.vec 16 (.int .i32)) none,.lf (.vec 16 (.int .i32)) none],Si] (.q (.q (.seq (.q (.blk (.cut [4,6,9,11] [] .d .d))) .d))) [] f324
def k:KC_:=kk_ 324 H (u2 rD) func324
end F324
namespace F289
def H:=hd_ [Si,.lf (.vec 16 (.int .i32)) none] [.agg [Si,Sx,.agg [Si,.lf (.vec 16 (.int .i32)) none,.lf (.vec 16 (.int .i32)) none]],Si] .d [F324.k] f289
def k:KC_:=kk_ 289 H (u2 wS) func289
end F289
namespace F291
def H:=hd_ [Su] [Sx] .d [] f291
def k:KC_:=kk_ 291 H Vt func291
end F291
namespace F325
def H:=hd_ [.agg [Si,Sx,.agg [Si,.lf (.vec 16 (.int .i32)) none,.lf (.vec 16 (.int .i32)) none]]] [Si] .d [F324.k] f325
def k:KC_:=kk_ 325 H (u5 Us) func325
end F325
namespace F351
def H:=hd_ [Si] [Si,Si] .d [] f351
def k:KC_:=kk_ 351 H jW func351
end F351
namespace F352
def H:=hd_ [Si,Sx] [Sx] .d [] f352
def k:KC_:=kk_ 352 H (u2 SL) func352
end F352
namespace F326
def H:=hd_ [Si,Sx] [Sx,Si] .d [F351.k,F352.k] f326
def k:KC_:=kk_ 326 H (u2 Uw) func326
end F326
namespace F361
def H:=hd_ [.agg [Si,.lf (.vec 16 (.int .i32)) none,.lf (.vec 16 (.int .i32)) none]] [Si] .d [] f361
def k:KC_:=kk_ 361 H (u3 EI) func361
end F361
namespace F353
abbrev R_:=(Int32×Int)
def H:=hd_ [.agg [Si,.lf (.vec 16 (.int .i32)) none,.lf (.vec 16 (.int .i32)) none]] [Sx,Si] (.q (.q (.q (.cut [1,5] [] (.q (.blk (.loop [1,5,18,19] [] .d))) .d)))) [F361.k] f353
def t4(b:LX)(a:Int)(f:LX)(h:Int32)(g:Int):S:=⟨[(1,.ptr 0 []),(5,vx h),(18,.val (.vec 16 (.int .i32)) b),(19,vi g)],[.box 370 (.agg [vi a,.val (.vec 16 (.int .i32)) b,.val (.vec 16 (.int .i32)) f])],[]⟩
def z4:ZT_ R_:=H.i P_ [r,r,r,l,r,d]
theorem i4(b:LX)(a:Int)(f:LX):∀(q:Nat) (h:Int32) (g:Int),z4 q (t4 b a f h g)=Td b a f q h g:=
 ind (λ_ _=>by kernel_rfl) λq ih h g=>Eq.trans (b:=FU TM (λh g=>(z4 q) (t4 b a f h g)) b a f h g) F3 (by simp only[ih]<;>rfl)
def k:KC_:=kk_ 353 H (u3 NH) func353 (λx=>Eq.trans (b:=u3 (UD (λb a f h g=>z4 Bs (t4 b a f h g))) x) F3 (by simp only[i4,Am]<;>rfl))
end F353
namespace F365
def H:=hd_ [Si] [Sx] .d [] f365
def k:KC_:=kk_ 365 H ZO func365
end F365
namespace F362
abbrev R_:=(Int×LX×LX×Int)
def H:=hd_ [.agg [Si,.lf (.vec 16 (.int .i32)) none,.lf (.vec 16 (.int .i32)) none],Sx] [.agg [Si,.lf (.vec 16 (.int .i32)) none,.lf (.vec 16 (.int .i32)) none],Si] (.q (.q (.q (.cut [2,4] [] (.q (.blk (.loop [1,2,4,19,20] [] .d))) .d)))) [F361.k,F365.k] f362
def t4(h:Int32)(f:LX)(g a:Int)(b:LX):S:=⟨[(1,vx h),(2,.ptr 0 []),(4,.ptr 1 []),(19,.val (.vec 16 (.int .i32)) f),(20,vi a)],[.box 370 (.agg [vi g,.val (.vec 16 (.int .i32)) b,.val (.vec 16 (.int .i32)) f]),.box 370 (.agg [vi 0,.val (.vec 16 (.int .i32)) (List.replicate 16 (0:Int32)),.val (.vec 16 (.int .i32)) (List.replicate 16 (0:Int32))])],[]⟩
def z4:ZT_ R_:=H.i P_ [r,r,r,l,r,d]
theorem i4(h:Int32)(f:LX)(g:Int):∀(q:Nat) (a:Int) (b:LX),z4 q (t4 h f g a b)=So h f g q a b:=
 ind (λ_ _=>by kernel_rfl) λq ih a b=>Eq.trans (b:=FZ Amp (λa b=>(z4 q) (t4 h f g a b)) h f g a b) F3 (by simp only[ih]<;>rfl)
def k:KC_:=kk_ 362 H (u4 dK) func362 (λx=>Eq.trans (b:=u4 (TG (λh f g a b=>z4 Bs (t4 h f g a b))) x) F3 (by simp only[i4,Am]<;>rfl))
end F362
namespace F363
def UC(j2:Int32->Int->LX->LX->Option (Int×LX×LX×Int))(b:Int)(f a:LX)(g:Int32):Option (Int×LX×LX×Int):=
(EI b f a).bind λh=>
if(Bg h 0)then
some (0,(List.replicate 16 (0:Int32)),(List.replicate 16 (0:Int32)),h)
else
both (
(ZW 16 1 16).bind λ_=>
(ZW 16 0 16).bind λ_=>
j2 g b f a) [
(ZW 16 0 16).bind λ_=>
(ZW 16 1 16).bind λ_=>
j2 g b f a]
theorem Bgh: @UC= @KH:=by
  unfold UC KH
  repeat (refine funext λ_=>?_)
  repeat' first
    |with_reducible rfl
    |with_reducible refine Gu ?_ ?_
    |with_reducible refine Gm ?_ ?_ ?_
    |with_reducible refine Gs ?_ ?_ ?_ ?_
    |((with_reducible refine Jj ?_ ?_);focus (intro h;first|(subst h;rfl)|(simp only[h];rfl)|(simp[Bf,Ad,h];done)))
    |with_reducible refine Jm λx=>?_
    |with_reducible refine Nw (λ_=>?_) (λ_=>?_)
    |(refine Ea (λh=>by simp only[h,Ji,Di,De,ite_self]) (λx h=>?_);(try simp only[h,Di]))
    |(refine Ew (λh=>?_) (λh=>?_)<;>simp only[h,if_true,if_false,Bool.false_eq_true])
abbrev R_:=(Int×LX×LX×Int)
def H:=hd_ [.agg [Si,.lf (.vec 16 (.int .i32)) none,.lf (.vec 16 (.int .i32)) none],Sx] [.agg [Si,.lf (.vec 16 (.int .i32)) none,.lf (.vec 16 (.int .i32)) none],Si] (.q (.q (.cut [1,2,4] [] .d .d))) [F361.k] f363
def k:KC_:=kk_ 363 H (u4 mU) func363 (λx=>Eq.trans (b:=u4 (UC bT) x) F3 (by simp only[Bgh]<;>rfl))
end F363
namespace F354
def H:=hd_ [.agg [Si,.lf (.vec 16 (.int .i32)) none,.lf (.vec 16 (.int .i32)) none],Sx,Sx] [.agg [Si,.lf (.vec 16 (.int .i32)) none,.lf (.vec 16 (.int .i32)) none]] .d [F362.k,F363.k] f354
def k:KC_:=kk_ 354 H (u5 PD) func354
end F354
namespace F327
def H:=hd_ [.agg [Si,.lf (.vec 16 (.int .i32)) none,.lf (.vec 16 (.int .i32)) none],Sx] [Sx,.agg [Si,.lf (.vec 16 (.int .i32)) none,.lf (.vec 16 (.int .i32)) none],Si] .d [F353.k,F354.k] f327
def k:KC_:=kk_ 327 H (u4 iP) func327
end F327
namespace F290
def MC(a:Int)(b:Int32)(f:Int)(g h:LX)(o:Int32):Option (Int32×Int×Int32×Int×LX×LX×Int):=
(Us a b f g h).bind λk=>
if(Bg k 0)then
some (0,0,0,0,(List.replicate 16 (0:Int32)),(List.replicate 16 (0:Int32)),k)
else
(Uw a b).bind λ(m,y)=>
(iP f g h o).bind λ(n,p,u,v,w)=>
(λaa:Option (Int32×Int×Int32×Int×LX×LX×Int)=>
bo (
aa)) (
some ((Ae n m),a,(Ae n m),p,u,v,w))
theorem Bfh: @MC= @Kk:=by
  unfold MC Kk;simp only[EC,Ti,Tg]
def H:=hd_ [.agg [Si,Sx,.agg [Si,.lf (.vec 16 (.int .i32)) none,.lf (.vec 16 (.int .i32)) none]],Sx] [Sx,.agg [Si,Sx,.agg [Si,.lf (.vec 16 (.int .i32)) none,.lf (.vec 16 (.int .i32)) none]],Si] (.q (.q (.q (.q (.seq (.mode false) .d))))) [F325.k,F326.k,F327.k] f290
def k:KC_:=kk_ 290 H (u6 Kk) func290 (λx=>Eq.trans (b:=u6 MC x) F3 (by simp only[Bfh]<;>rfl))
end F290
namespace F328
def H:=hd_ [Si,Sw] [Si] .d [] f328
def k:KC_:=kk_ 328 H (u2 WS) func328
end F328
namespace F294
def Kq(a:LX):Option (LX):=
G5 a (
some ([]:LX)) (
(Bf ([]:LX) a).bind λb=>
some b)
theorem Axn: @Kq= @Db:=by
  unfold Kq Db
  repeat (refine funext λ_=>?_)
  repeat' first
    |with_reducible rfl
    |with_reducible refine Gu ?_ ?_
    |with_reducible refine Gm ?_ ?_ ?_
    |with_reducible refine Gs ?_ ?_ ?_ ?_
    |((with_reducible refine Jj ?_ ?_);focus (intro h;first|(subst h;rfl)|(simp only[h];rfl)|(simp[Bf,Ad,h];done)))
    |with_reducible refine Jm λx=>?_
    |with_reducible refine Nw (λ_=>?_) (λ_=>?_)
    |(refine Ea (λh=>by simp only[h,Ji,Di,De,ite_self]) (λx h=>?_);(try simp only[h,Di]))
    |(refine Ew (λh=>?_) (λh=>?_)<;>simp only[h,if_true,if_false,Bool.false_eq_true])
def H:=hd_ [Sw] [Ow 21] .d [] f294
def k:KC_:=kk_ 294 H Db func294 (λx=>Eq.trans (b:=Kq x) F3 (by simp only[Axn]<;>rfl))
end F294
namespace F292
abbrev R_:=(LX×Int)
abbrev K_:=S->Option R_
def H:=hd_ [Si,Sw] [Ow 21,Si] (.q (.q (.q (.cut [7] [] (.q (.blk (.loop [0,7,8] [] (.q (.cut [0,7,8] [] (.blk (.keep [0,7,8,24,25,26,27,28,29] true)) .d))))) .d)))) [F294.k,F328.k] f292 true [(329,(.q (.cut [0,2] [] .d (.q (.blk (.loop [0,3] [] .d))))))]
def t18(b a g:Int)(h:LX):S:=⟨[(0,.view true 0 [] (.int .i32) a ((Ae a b)-a)),(3,vi g)],[Aw 21 h],[[(0,vi b),(7,.own 0),(8,vi a),(24,.own 0),(25,vi a),(26,vi a),(27,vi b),(28,vi (Ae a b)),(29,.view true 0 [] (.int .i32) a ((Ae a b)-a))]]⟩
def z18(JL:K_):ZT_ R_:=H.i P_ [r,r,r,l,r,d,(lp JL),r,l,d,(call 6 329),r,r,r,d]
def t12(b a:Int)(f:LX):S:=⟨[(0,vi b),(7,.own 0),(8,vi a)],[Aw 21 f],[]⟩
def z12:ZT_ R_:=H.i P_ [r,r,r,l,r,d]
def x18(JL:K_)(b a g:Int)(h:LX):Option R_:=H.e P_ [r,r,r,l,r,d,(lp JL),r,l,d,(call 6 329),r,r,r,d] (t18 b a g h)
theorem i18(JL:K_)(b a:Int):∀(q:Nat) (g:Int) (h:LX),z18 JL q (t18 b a g h)=Vg (λa f=>JL (t12 b a f)) b a q g h:=
 ind (λ_ _=>by kernel_rfl) λq ih g h=>Eq.trans (b:=KQ (dG (λa f=>JL (t12 b a f)) b) (λg h=>(z18 JL q) (t18 b a g h)) b a g h) F3 (by simp only[ih]<;>rfl)
theorem e18(JL:K_)(b:Int):x18 JL b=dI (λa f=>JL (t12 b a f)) b:=by funext a g h;exact Eq.trans F3 ((i18 JL b a Bs g h).trans (by rw[Am];rfl))
theorem i12(b:Int):∀(q:Nat) (a:Int) (f:LX),z12 q (t12 b a f)=Rg b q a f:=
 ind (λ_ _=>by kernel_rfl) λq ih a f=>Eq.trans (b:=bW (aG (x18 (z12 q) b) b) Aqu b a f) F3 (by simp only[e18,ih]<;>rfl)
def k:KC_:=kk_ 292 H (u2 rX) func292 (λx=>Eq.trans (b:=u2 (iL (λb a f=>z12 Bs (t12 b a f))) x) F3 (by simp only[i12,Am]<;>rfl))
end F292
namespace F180
abbrev R_:=Int
def H:=hd_ [Si,Sw] [Si] (.q (.q (.q (.q (.cut [] [] (.q (.blk (.loop [5,6,22,23,24] [] .d))) .d))))) [F164.k] f180
def t4(b f:Int32)(a:LX)(g:Int):S:=⟨[(5,vx b),(6,vx f),(22,vw a),(23,vi (Ad a)),(24,vi g)],[],[]⟩
def z4:ZT_ R_:=H.i P_ [r,r,r,r,l,r,d]
theorem i4(b f:Int32)(a:LX):∀(q:Nat) (g:Int),z4 q (t4 b f a g)=Qh b f a q g:=
 ind (λ_=>by kernel_rfl) λq ih g=>Eq.trans (b:=DV Afy (λg=>(z4 q) (t4 b f a g)) b f a g) F3 (by simp only[ih]<;>rfl)
def k:KC_:=kk_ 180 H (u2 Ni) func180 (λx=>Eq.trans (b:=u2 (PT (λb f a g=>z4 Bs (t4 b f a g))) x) F3 (by simp only[i4,Am]<;>rfl))
end F180
namespace F238
def Ur(j16:Int->Int32->Int-> (List (Int×Int32×(Int×LX×LX×Unit)×Unit))->LX->Int->Int32->Int->LX->LX->Option (LX×Int))(j18:Int->Int->LX->Option (LX×Int))(f:LU)(a b g:Int)(h:List (Int×Int32×(Int×LX×LX×Unit)×Unit))(k:LX):Option (LX×Int):=
if(Cx g (Ad f))then
(Af f g).bind λag=>
(Gi (Bg a 0)).bind λ_=>
(Af h (Me g a)).bind λ_=>
both (
(Af h (Me g a)).bind λm=>
both (
(Vt ag).bind λae=>
(λao:Option (LX×Int)=>
bo (
ao)) (
(Kk m.1 m.2.1 m.2.2.1.1 m.2.2.1.2.1 m.2.2.1.2.2.1 ae).bind λ(y,aa,w,ab,ac,ad,v)=>
j16 g y v h k aa w ab ac ad)) [
(Vt ag).bind λae=>
(Kk m.1 m.2.1 m.2.2.1.1 m.2.2.1.2.1 m.2.2.1.2.2.1 ae).bind λ(y,aa,w,ab,ac,ad,v)=>
j16 g y v h k aa w ab ac ad]) [
(Vt ag).bind λaf=>
both (
(Af h (Me g a)).bind λu=>
(λap:Option (LX×Int)=>
bo (
ap)) (
(Kk u.1 u.2.1 u.2.2.1.1 u.2.2.1.2.1 u.2.2.1.2.2.1 af).bind λ(y,aa,w,ab,ac,ad,v)=>
j16 g y v h k aa w ab ac ad)) [
(Af h (Me g a)).bind λu=>
(Kk u.1 u.2.1 u.2.2.1.1 u.2.2.1.2.1 u.2.2.1.2.2.1 af).bind λ(y,aa,w,ab,ac,ad,v)=>
j16 g y v h k aa w ab ac ad],
both (
(Af h (Me g a)).bind λm=>
(Vt ag).bind λae=>
(Kk m.1 m.2.1 m.2.2.1.1 m.2.2.1.2.1 m.2.2.1.2.2.1 ae).bind λ(y,aa,w,ab,ac,ad,v)=>
j16 g y v h k aa w ab ac ad) [
(Vt ag).bind λaf=>
(Af h (Me g a)).bind λu=>
(Kk u.1 u.2.1 u.2.2.1.1 u.2.2.1.2.1 u.2.2.1.2.2.1 af).bind λ(y,aa,w,ab,ac,ad,v)=>
j16 g y v h k aa w ab ac ad]]
else
j18 a b k
theorem Bcl: @Ur= @Ks:=by
  unfold Ur Ks
  try simp only[EC,Ti,Tg]
  all_goals
    repeat (refine funext λ_=>?_)
    repeat' first
      |with_reducible rfl
      |with_reducible refine Gu ?_ ?_
      |with_reducible refine Gm ?_ ?_ ?_
      |with_reducible refine Gs ?_ ?_ ?_ ?_
      |((with_reducible refine Jj ?_ ?_);focus (intro h;first|(subst h;rfl)|(simp only[h];rfl)|(simp[Bf,Ad,h];done)))
      |with_reducible refine Jm λx=>?_
      |with_reducible refine Nw (λ_=>?_) (λ_=>?_)
      |(refine Ea (λh=>by simp only[h,Ji,Di,De,ite_self]) (λx h=>?_);(try simp only[h,Di]))
      |(refine Ew (λh=>?_) (λh=>?_)<;>simp only[h,if_true,if_false,Bool.false_eq_true])
abbrev R_:=(LX×Int)
abbrev K_:=S->Option R_
def H:=hd_ [.agg [Si,Si],.lf (.vec 16 (.int .i32)) none,Sv] [Ow 21,Si] (.q (.q (.cut [2,3,8] [] (.q (.blk (.loop [2,3,4,8,20] [] .d))) (.q (.cut [3,10] [] (.q (.blk (.loop [3,8,10,33,34,35] [⟨10,[],.own 21 (.int .i32)⟩] (.q (.q (.seq (.blk (.q (.q (.cut [3,8,10,13,14,15,16,33,34,35] [] (.mode false) .d)))) .d)))))) .d))))) [F180.k,F289.k,F290.k,F291.k,F292.k] f238
def t13(f:LU)(a b g:Int)(h:List (Int×Int32×(Int×LX×LX×Unit)×Unit))(k:LX):S:=⟨[(3,.ptr 0 []),(8,.ptr 1 []),(10,.own 2),(33,vv f),(34,vi (Ad f)),(35,vi g)],[.box 66 (.agg [vi a,vi b]),.box 373 (.val (.vec 6 (.cons (.int .i64) (.cons (.int .i32) (.cons (.cons (.int .i64) (.cons (.vec 16 (.int .i32)) (.cons (.vec 16 (.int .i32)) .nil))) .nil)))) h),Aw 21 k],[]⟩
def z13:ZT_ R_:=H.i P_ [r,r,r,r,l,r,d]
def t10(f:LU)(a b:Int)(o:LX)(p:Int)(n:List (Int×Int32×(Int×LX×LX×Unit)×Unit)):S:=⟨[(2,vv f),(3,.ptr 0 []),(4,.ptr 1 []),(8,.ptr 2 []),(20,vi p)],[.box 66 (.agg [vi a,vi b]),.box 232 (.val (.vec 16 (.int .i32)) o),.box 373 (.val (.vec 6 (.cons (.int .i64) (.cons (.int .i32) (.cons (.cons (.int .i64) (.cons (.vec 16 (.int .i32)) (.cons (.vec 16 (.int .i32)) .nil))) .nil)))) n)],[]⟩
def z10:ZT_ R_:=H.i P_ [r,r,l,r,d]
def x13(f:LU)(a b g:Int)(h:List (Int×Int32×(Int×LX×LX×Unit)×Unit))(k:LX):Option R_:=H.e P_ [r,r,r,r,l,r,d] (t13 f a b g h k)
theorem i13(f:LU)(a b:Int):∀(q:Nat) (g:Int) (h:List (Int×Int32×(Int×LX×LX×Unit)×Unit)) (k:LX),z13 q (t13 f a b g h k)=Ig f a b q g h k:=
 ind (λ_ _ _=>by kernel_rfl) λq ih g h k=>Eq.trans (b:=Ur (Wb (λg h k=>(z13 q) (t13 f a b g h k)) a f b) Kt f a b g h k) F3 (by rw[Bcl];simp only[ih]<;>rfl)
theorem e13:x13=JR:=by funext f a b g h k;exact Eq.trans F3 ((i13 f a b Bs g h k).trans (by rw[Am];rfl))
theorem i10(f:LU)(a b:Int)(o:LX):∀(q:Nat) (p:Int) (n:List (Int×Int32×(Int×LX×LX×Unit)×Unit)),z10 q (t10 f a b o p n)=Wm f a b o q p n:=
 ind (λ_ _=>by kernel_rfl) λq ih p n=>Eq.trans (b:=JY (JU x13) (λp n=>(z10 q) (t10 f a b o p n)) f a b o p n) F3 (by simp only[e13,ih]<;>rfl)
def k:KC_:=kk_ 238 H (u4 Xw) func238 (λx=>Eq.trans (b:=u4 (Yt (λf a b o p n=>z10 Bs (t10 f a b o p n))) x) F3 (by simp only[i10,Am]<;>rfl))
end F238
namespace F174
def H:=hd_ [.agg [Si,Si],.lf (.vec 16 (.int .i32)) none,Si,Sb] [Ow 21,Si] .d [F233.k,F234.k,F235.k,F236.k,F237.k,F238.k] f174
def k:KC_:=kk_ 174 H (u5 Hs) func174
end F174
namespace F176
abbrev R_:=(Int×Int)
def H:=hd_ [Sb] [Si,Si] (.q (.q (.cut [0,4] [] .d .d))) [F130.k,F239.k,F240.k,F241.k] f176
def k:KC_:=kk_ 176 H tN func176
end F176
namespace F125
abbrev R_:=(Int×Int)
abbrev K_:=S->Option R_
def H:=hd_ [Sb] [Si,Si] (.q (.q (.q (.q (.cut [5] [] (.blk (.loop [1,4,5] [] (.q (.cut [1,4,5] [] (.blk (.cut [1,4,5,6] [] (.keep [1,4,5,6,16,17] true) .d)) .d)))) .d))))) [F176.k] f125 false [(175,.d)]
def t8(a:Int)(b:LB):S:=⟨[(1,.ptr 0 []),(4,.fn 175 [.ptr 0 []]),(5,vi a)],[.box 29 (vb b)],[]⟩
def z8:ZT_ R_:=H.i P_ [r,r,r,r,l,d]
theorem i8:∀(q:Nat) (a:Int) (b:LB),z8 q (t8 a b)=Sj q a b:=
 ind (λ_ _=>by kernel_rfl) λq ih a b=>Eq.trans (b:=HM (FM (λa b=>(z8 q) (t8 a b))) Ad6 a b) F3 (by simp only[ih]<;>rfl)
def k:KC_:=kk_ 125 H Rn func125 (λx=>Eq.trans (b:=IK (λa b=>z8 Bs (t8 a b)) x) F3 (by simp only[i8,Am]<;>rfl))
end F125
namespace F158
abbrev R_:=(Int×Int×Int×LX×Int)
abbrev K_:=S->Option R_
def H:=hd_ [Sb,Ss] [.agg [Si,Si,Si,Ow 21],Si] (.q (.q (.q (.q (.cut [0,1,4,6] [] (.cut [0,1,4,6,8] [] (.keep [0,1,4,6,8,34,35,36] true) .d) (.cut [0,1,4,6,7,9] [⟨9,[],.own 3 (.int .i64)⟩] (.keep [0,1,4,6,7,9,41,42,43,44,45] true) (.q (.q (.q (.q (.q (.cut [0,4,10,14] [] (.q (.blk (.loop [0,4,6,10,11,12,14,75,76,77] [⟨10,[3],.own 21 (.int .i32)⟩] (.q (.q (.seq (.blk (.q (.q (.cut [0,4,6,10,11,12,14,16,17,18,75,76,77] [] .d .d)))) .d)))))) .d)))))))))))) [F125.k,F153.k,F155.k,F169.k,F172.k,F174.k] f158 false [(170,(.q (.q (.cut [0,6,7] [] .d (.q (.q (.q (.cut [6] [] (.q (.blk (.loop [0,6,60,61,62] [] .d))) .d)))))))),(213,.d)]
def t21(a:LB)(w:LI)(m f g h o p n b ab ae:Int)(ac:LX)(k:LI)(y aa:Int)(ad:LX):S:=⟨[(0,vb a),(4,.ptr 0 []),(6,.ptr 1 []),(10,.ptr 2 []),(11,.ptr 3 []),(12,.ptr 4 []),(14,vi y),(75,.own 5),(76,vi (Ad w)),(77,vi aa)],[.box 42 (.agg [vi 0,vi 0,vi 0,.nils]),.box 227 (.agg [.agg [vi m,vi f,vi g,vi h,vi o],.agg [vi p,vi n,vi b,vi ab,vi ae],.own 6]),.box 42 (.agg [vi f,vi g,vi h,.own 7]),.box 66 (.agg [vi f,vi g]),.box 232 (.val (.vec 16 (.int .i32)) ac),Ai 3 w,Ai 3 k,Aw 21 ad],[]⟩
def z21:ZT_ R_:=H.i P_ [r,r,r,r,r,r,r,r,r,r,r,l,r,d]
def t17(v:LI)(a u:LB)(m f g h o p n b:Int)(k:LI)(ag af:Int):S:=⟨[(0,.ptr 0 []),(6,.own 1),(60,.own 1),(61,vi (Ad v)),(62,vi ag)],[.box 227 (.agg [.agg [vi m,vi f,vi g,vi h,vi o],.agg [vi p,vi n,vi b,vi (Ae (Ae b (Cm (4:Int) (Ad v))) (4:Int)),vi af],.own 3]),Ai 3 v,.box 42 (.agg [vi 0,vi 0,vi 0,.nils]),Ai 3 k],[[(0,vb a),(1,vs u),(4,.ptr 2 []),(6,.ptr 0 []),(42,vb a)]]⟩
def z17:ZT_ R_:=H.i P_ [r,r,r,r,r,l,(call 1 170),r,r,r,r,r,r,l,r,d]
def x21(a:LB)(w:LI)(m f g h o p n b ab ae:Int)(ac:LX)(k:LI)(y aa:Int)(ad:LX):Option R_:=H.e P_ [r,r,r,r,r,r,r,r,r,r,r,l,r,d] (t21 a w m f g h o p n b ab ae ac k y aa ad)
def x14(a u:LB)(m f g h o p n b ah ai:Int)(k:LI)(am:Int):Option R_:=H.e P_ [r,r,r,r,l,r] ⟨[(0,vb a),(1,vs u),(4,.ptr 0 []),(6,.ptr 1 []),(8,vi am)],[.box 42 (.agg [vi 0,vi 0,vi 0,.nils]),.box 227 (.agg [.agg [vi m,vi f,vi g,vi h,vi o],.agg [vi p,vi n,vi b,vi ah,vi ai],.own 2]),Ai 3 k],[]⟩
theorem i21(a:LB)(w:LI)(m f g h o p n b ab ae:Int)(ac:LX)(k:LI):∀(q:Nat) (y aa:Int) (ad:LX),z21 q (t21 a w m f g h o p n b ab ae ac k y aa ad)=Pw a w m f g h o p n b ab ae ac k q y aa ad:=
 ind (λ_ _ _=>by kernel_rfl) λq ih y aa ad=>Eq.trans (b:=DT (QC (λy aa ad=>(z21 q) (t21 a w m f g h o p n b ab ae ac k y aa ad)) a w m f g h o p n b ab ae ac k) NZ a w m f g h o p n b ab ae ac k y aa ad) F3 (by simp only[ih]<;>rfl)
theorem e21:x21=Aj3:=by funext a w m f g h o p n b ab ae ac k y aa ad;exact Eq.trans F3 ((i21 a w m f g h o p n b ab ae ac k Bs y aa ad).trans (by rw[Am];rfl))
theorem i17(v:LI)(a u:LB)(m f g h o p n b:Int)(k:LI):∀(q:Nat) (ag af:Int),z17 q (t17 v a u m f g h o p n b k ag af)=Pq v a u m f g h o p n b k q ag af:=
 ind (λ_ _=>by kernel_rfl) λq ih ag af=>Eq.trans (b:=CF (PR (Up x21)) (λag af=>(z17 q) (t17 v a u m f g h o p n b k ag af)) v a u m f g h o p n b k ag af) F3 (by simp only[e21,ih]<;>rfl)
theorem e14:x14=CK:=Eq.trans (b:=MB (OE (Up x21) (PU (Up x21) (λv a u m f g h o p n b k ag af=>z17 Bs (t17 v a u m f g h o p n b k ag af))))) F3 (by simp only[e21,i17,Am]<;>rfl)
def k:KC_:=kk_ 158 H (u2 OQ) func158 (λx=>Eq.trans (b:=u2 (UK x14) x) F3 (by simp only[e14]<;>rfl))
end F158
namespace F109
def H:=hd_ [Sb,Ss] [Si] .d [F158.k] f109
def k:KC_:=kk_ 109 H (u2 gP) func109
end F109
namespace F110
def H:=hd_ [Sb,Ss,Si] [Sc] .d [⟨(151,Lk),Qj⟩,F152.k] f110
def k:KC_:=kk_ 110 H (u3 Apx) func110
end F110
namespace F171
abbrev R_:=(LI×Int)
abbrev K_:=S->Option R_
def H:=hd_ [Sl] [Ol 3,Si] (.q (.q (.q (.q (.q (.cut [7] [] (.q (.blk (.loop [6,7,17,18,19] [] (.q (.q (.cut [6,7,17,18,19] [] (.blk (.q (.keep [6,7,9,17,18,19,23,24,25,26,27,28] true))) .d)))))) .d)))))) [F156.k] f171 false [(230,.d)]
def t6(a:LI)(b g:Int)(f:LI):S:=⟨[(6,.fn 230 [.ptr 0 []]),(7,.own 1),(17,vl a),(18,vi (Ad a)),(19,vi b)],[.box 3 (vi g),Ai 3 f],[]⟩
def z6:ZT_ R_:=H.i P_ [r,r,r,r,r,l,r,d]
theorem i6(a:LI):∀(q:Nat) (b g:Int) (f:LI),z6 q (t6 a b g f)=Lp a q b g f:=
 ind (λ_ _ _=>by kernel_rfl) λq ih b g f=>Eq.trans (b:=Vj (ER (λb g f=>(z6 q) (t6 a b g f)) a) QU a b g f) F3 (by simp only[ih]<;>rfl)
def k:KC_:=kk_ 171 H Wx func171 (λx=>Eq.trans (b:=FF (λa b g f=>z6 Bs (t6 a b g f)) x) F3 (by simp only[i6,Am]<;>rfl))
end F171
namespace F132
abbrev R_:=(LB×Int)
abbrev K_:=S->Option R_
def H:=hd_ [Si,Sw] [Ob 5,Si] (.q (.q (.q (.cut [7] [] (.q (.blk (.loop [0,7,17,18,19] [⟨7,[],.own 5 (.int .u8)⟩] (.q (.q (.cut [0,7,17,18,19] [] (.blk (.q (.cut [0,7,9,17,18,19] [] .d (.q (.blk (.loop [0,7,9,17,18,19,28,29] [] .d)))))) .d)))))) .d)))) [F180.k] f132
def t26(b:Int)(a:LX)(k:Int32)(f m:Int)(h:LB):S:=⟨[(0,vi b),(7,.own 0),(9,vx k),(17,vw a),(18,vi (Ad a)),(19,vi f),(28,vi (Ej b (8:Int))),(29,vi m)],[Ab 5 h],[]⟩
def z26(Kr:K_):ZT_ R_:=H.i P_ [r,r,r,l,r,d,(lp Kr),r,r,l,d,r,r,r,d]
def t16(b:Int)(a:LX)(f:Int)(g:LB):S:=⟨[(0,vi b),(7,.own 0),(17,vw a),(18,vi (Ad a)),(19,vi f)],[Ab 5 g],[]⟩
def z16:ZT_ R_:=H.i P_ [r,r,r,l,r,d]
def x26(Kr:K_)(b:Int)(a:LX)(k:Int32)(f m:Int)(h:LB):Option R_:=H.e P_ [r,r,r,l,r,d,(lp Kr),r,r,l,d,r,r,r,d] (t26 b a k f m h)
theorem i26(Kr:K_)(b:Int)(a:LX)(k:Int32)(f:Int):∀(q:Nat) (m:Int) (h:LB),z26 Kr q (t26 b a k f m h)=Il (λf g=>Kr (t16 b a f g)) b a k f q m h:=
 ind (λ_ _=>by kernel_rfl) λq ih m h=>Eq.trans (b:=Xz (JA (λf g=>Kr (t16 b a f g)) b a) (λm h=>(z26 Kr q) (t26 b a k f m h)) b a k f m h) F3 (by simp only[ih]<;>rfl)
theorem e26(Kr:K_)(b:Int)(a:LX):x26 Kr b a=IE (λf g=>Kr (t16 b a f g)) b a:=by funext k f m h;exact Eq.trans F3 ((i26 Kr b a k f Bs m h).trans (by rw[Am];rfl))
theorem i16(b:Int)(a:LX):∀(q:Nat) (f:Int) (g:LB),z16 q (t16 b a f g)=Ft b a q f g:=
 ind (λ_ _=>by kernel_rfl) λq ih f g=>Eq.trans (b:=Xx (HL (x26 (z16 q) b a) b a) Aen b a f g) F3 (by simp only[e26,ih]<;>rfl)
def k:KC_:=kk_ 132 H (u2 Ik) func132 (λx=>Eq.trans (b:=u2 (NG (λb a f g=>z16 Bs (t16 b a f g))) x) F3 (by simp only[i16,Am]<;>rfl))
end F132
namespace F85
abbrev R_:=(LB×Int)
def H:=hd_ [Sb,Ss,Si] [Ob 5,Si] (.q (.cut [2,8,9,11] [] (.keep [0,1,2,8,9,11,12,13,14,15,16,17,18,19] true) (.q (.q (.cut [6,7] [⟨6,[],.own 5 (.int .u8)⟩] (.keep [2,6,7,8,30,31,32,33,34] true) .d))))) [F105.k,F132.k,F154.k,F171.k,F172.k,F174.k] f85 false [(124,.d),(173,(.q (.cut [0,3,4,5,6,10,11] [] .d (.q (.cut [4,12,13] [] .d .d)))))]
def k:KC_:=kk_ 85 H (u3 BH) func85
end F85
namespace F111
abbrev R_:=(Int×Int)
def H:=hd_ [.agg [Si,Si,Si,Si,Si],Si] [Si,Si] (.q (.q (.q (.q (.cut [2,8] [] (.q (.blk (.loop [2,6,8,23,24] [] .d))) .d))))) [F154.k] f111
def t4(m f a b g h:Int)(k:LI)(n o:Int):S:=⟨[(2,.ptr 0 []),(6,.own 1),(8,vi n),(23,vi m),(24,vi o)],[.box 95 (.agg [vi f,vi a,vi b,vi g,vi h]),Ai 3 k],[]⟩
def z4:ZT_ R_:=H.i P_ [r,r,r,r,l,r,d]
theorem i4(m f a b g h:Int)(k:LI):∀(q:Nat) (n o:Int),z4 q (t4 m f a b g h k n o)=Pe m f a b g h k q n o:=
 ind (λ_ _=>by kernel_rfl) λq ih n o=>Eq.trans (b:=BM LZ (λn o=>(z4 q) (t4 m f a b g h k n o)) m f a b g h k n o) F3 (by simp only[ih]<;>rfl)
def k:KC_:=kk_ 111 H (u6 SC) func111 (λx=>Eq.trans (b:=u6 (PW (λm f a b g h k n o=>z4 Bs (t4 m f a b g h k n o))) x) F3 (by simp only[i4,Am]<;>rfl))
end F111
namespace F76
abbrev R_:=(Int×UInt8×Int×Int×Int)
def H:=hd_ [Sb,Ss] [.agg [Si,Sc,Si,Si],Si] (.q (.q (.q (.q (.q (.cut [0,1,4,6,7] [] .d (.q (.cut [4,6,7,9] [] (.q (.blk (.loop [0,1,4,6,7,9,42,43] [] .d))) .d)))))))) [F85.k,F105.k,F109.k,F110.k,F111.k] f76
def t6(p n:LB)(a:LI)(b:Int)(u:UInt8)(f g h k m o v:Int):S:=⟨[(0,vb p),(1,vs n),(4,.ptr 0 []),(6,.ptr 1 []),(7,.ptr 2 []),(9,vi (Ad a)),(42,vi (Ad a)),(43,vi v)],[.box 99 (.agg [vi 0,vc 0,vi 0,vi 0]),.box 99 (.agg [vi b,vc u,vi 0,vi 0]),.box 97 (.agg [.agg [vi f,vi g,vi h,vi k,vi m],vi o,.own 3]),Ai 3 a],[]⟩
def z6:ZT_ R_:=H.i P_ [r,r,r,r,r,r,r,l,r,d]
theorem i6(p n:LB)(a:LI)(b:Int)(u:UInt8)(f g h k m o:Int):∀(q:Nat) (v:Int),z6 q (t6 p n a b u f g h k m o v)=AW p n a b u f g h k m o q v:=
 ind (λ_=>by kernel_rfl) λq ih v=>Eq.trans (b:=MJ MI (λv=>(z6 q) (t6 p n a b u f g h k m o v)) p n a b u f g h k m o v) F3 (by simp only[ih]<;>rfl)
def k:KC_:=kk_ 76 H (u2 Uo) func76 (λx=>Eq.trans (b:=u2 (QA (NQ (λp n a b u f g h k m o v=>z6 Bs (t6 p n a b u f g h k m o v)))) x) F3 (by simp only[i6,Am]<;>rfl))
end F76
namespace F72
def H:=hd_ [Sb,Ss] [.agg [.agg [.agg [Si,Si,Si,Si,Si],Si,Ol 3],.agg [Si,Sc,Si,Si]],Si] .d [F76.k,F105.k] f72
def k:KC_:=kk_ 72 H (u2 J3) func72
end F72
namespace F106
abbrev R_:=Int
def H:=hd_ [.agg [.agg [.agg [Si,Si,Si,Si,Si],Si,Sl],.agg [Si,Sc,Si,Si]]] [Si] (.q (.q (.q (.seq (.blk (.cut [1,3,5,15] [] .d (.cond .d (.cut [3,5,30] [] .d .d)))) .d)))) [F154.k,F156.k] f106
def k:KC_:=kk_ 106 H (u11 jN) func106
end F106
namespace F74
def QE(j26:Int->Int->Int->Int->Int->Int->LI->Int->UInt8->Int->Int->Option (LB×Int))(k m n o p u:Int)(h:LI)(a:Int)(b:UInt8)(f g:Int):Option (LB×Int):=
(jN k m n o p u h a b f g).bind λan=>
if(Bg an 0)then
some (([]:LB),an)
else
(λao:Option (LB×Int)=>
(λbd:Option (LB×Int)=>
(λbe:Option (LB×Int)=>
both (
both (
ao) [
bd,
bd]) [
bo2 (
ao),
be,
be]) (
both (
bd) [
ao,
both (
ao) [
j26 k m n o p u h a b f g]])) (
both (
j26 k m n o p u h a b f g) [
ao])) (
bo (
j26 k m n o p u h a b f g))
theorem Bf5: @QE= @TW:=by
  unfold QE TW
  try simp only[EC,Ti,Tg]
  all_goals
    repeat (refine funext λ_=>?_)
    repeat' first
      |with_reducible rfl
      |with_reducible refine Gu ?_ ?_
      |with_reducible refine Gm ?_ ?_ ?_
      |with_reducible refine Gs ?_ ?_ ?_ ?_
      |((with_reducible refine Jj ?_ ?_);focus (intro h;first|(subst h;rfl)|(simp only[h];rfl)|(simp[Bf,Ad,h];done)))
      |with_reducible refine Jm λx=>?_
      |with_reducible refine Nw (λ_=>?_) (λ_=>?_)
      |(refine Ea (λh=>by simp only[h,Ji,Di,De,ite_self]) (λx h=>?_);(try simp only[h,Di]))
      |(refine Ew (λh=>?_) (λh=>?_)<;>simp only[h,if_true,if_false,Bool.false_eq_true])
abbrev R_:=(LB×Int)
def H:=hd_ [.agg [.agg [.agg [Si,Si,Si,Si,Si],Si,Sl],.agg [Si,Sc,Si,Si]]] [Ss,Si] (.q (.q (.cut [1,5,6] [] (.mode false) (.q (.q (.cut [1,5,6,7,8] [] (.keep [1,5,6,7,8] true) (.cut [1,5,6,7,8] [] (.keep [1,5,6,7,8] true) (.cut [1,5,6,7,8] [] (.keep [1,5,6,7,8] true) (.cut [1,5,6,7,8] [] (.keep [1,5,6,7,8] true) (.cut [1,6,7,8] [] (.keep [1,6,7,8] true) (.cut [1,6,7,8] [] (.keep [1,6,7,8] true) (.cut [6,7,8] [] (.keep [6,7,8] true) (.cut [7] [] (.keep [7] true) (.seq (.keep [7] true) .d)))))))))))))) [⟨(99,Pa),Ye⟩,F106.k] f74 false [(23,.d),(26,.pr 1 51 5),(36,.pr 0 51 5),(107,(.seq (.keep [1,2] true) (.q (.blk (.loop [2,9,10,11] [] (.q (.q (.seq (.blk (.q (.keep [2,9,10,11] true))) .d))))))))]
def t48(a:Int)(b:UInt8)(f g w:Int)(v:LB):S:=⟨[(2,.ptr 0 []),(9,.own 1),(10,vi (Ad ([a,(Ah b:Int),f,g]:LI))),(11,vi w)],[.box 51 (.agg [.wp 0,.own 2]),Ai 3 ([a,(Ah b:Int),f,g]:LI),Ab 5 v],[[(7,.ptr 0 [])]]⟩
def z48:ZT_ R_:=H.i P_ [r,r,r,r,r,r,r,r,r,r,r,r,l,(call 11 107),r,r,d]
def t45(h:LI)(a:Int)(b:UInt8)(f g ak:Int)(y:LB):S:=⟨[(2,.ptr 0 []),(9,vl h),(10,vi (Ad h)),(11,vi ak)],[.box 51 (.agg [.wp 0,.own 2]),.box 99 (.agg [vi a,vc b,vi f,vi g]),Ab 5 y],[[(6,.ptr 1 []),(7,.ptr 0 []),(8,.fn 107 [.ptr 0 []])]]⟩
def z45:ZT_ R_:=H.i P_ [r,r,r,r,r,r,r,r,r,r,r,l,(call 4 107),r,r,d]
def t42(u k m n o p:Int)(h:LI)(a:Int)(b:UInt8)(f g ab:Int)(aa:LB):S:=⟨[(2,.ptr 0 []),(9,.own 1),(10,vi (Ad ([u]:LI))),(11,vi ab)],[.box 51 (.agg [.wp 0,.own 4]),Ai 3 ([u]:LI),.box 101 (.agg [.agg [.agg [vi k,vi m,vi n,vi o,vi p],vi u,vl h],.agg [vi a,vc b,vi f,vi g]]),.box 99 (.agg [vi a,vc b,vi f,vi g]),Ab 5 aa],[[(1,.ptr 2 []),(6,.ptr 3 []),(7,.ptr 0 []),(8,.fn 107 [.ptr 0 []])]]⟩
def z42:ZT_ R_:=H.i P_ [r,r,r,r,r,r,r,r,r,r,l,(call 5 107),r,r,d]
def t39(p k m n o u:Int)(h:LI)(a:Int)(b:UInt8)(f g ad:Int)(ac:LB):S:=⟨[(2,.ptr 0 []),(9,.own 1),(10,vi (Ad ([p]:LI))),(11,vi ad)],[.box 51 (.agg [.wp 0,.own 4]),Ai 3 ([p]:LI),.box 101 (.agg [.agg [.agg [vi k,vi m,vi n,vi o,vi p],vi u,vl h],.agg [vi a,vc b,vi f,vi g]]),.box 99 (.agg [vi a,vc b,vi f,vi g]),Ab 5 ac],[[(1,.ptr 2 []),(6,.ptr 3 []),(7,.ptr 0 []),(8,.fn 107 [.ptr 0 []])]]⟩
def z39:ZT_ R_:=H.i P_ [r,r,r,r,r,r,r,r,r,l,(call 4 107),r,r,d]
def t36(o k m n p u:Int)(h:LI)(a:Int)(b:UInt8)(f g af:Int)(ae:LB):S:=⟨[(2,.ptr 0 []),(9,.own 1),(10,vi (Ad ([o]:LI))),(11,vi af)],[.box 51 (.agg [.wp 0,.own 5]),Ai 3 ([o]:LI),.box 101 (.agg [.agg [.agg [vi k,vi m,vi n,vi o,vi p],vi u,vl h],.agg [vi a,vc b,vi f,vi g]]),.box 95 (.agg [vi k,vi m,vi n,vi o,vi p]),.box 99 (.agg [vi a,vc b,vi f,vi g]),Ab 5 ae],[[(1,.ptr 2 []),(5,.ptr 3 []),(6,.ptr 4 []),(7,.ptr 0 []),(8,.fn 107 [.ptr 0 []])]]⟩
def z36:ZT_ R_:=H.i P_ [r,r,r,r,r,r,r,r,l,(call 4 107),r,r,d]
def t33(n k m o p u:Int)(h:LI)(a:Int)(b:UInt8)(f g ah:Int)(ag:LB):S:=⟨[(2,.ptr 0 []),(9,.own 1),(10,vi (Ad ([n]:LI))),(11,vi ah)],[.box 51 (.agg [.wp 0,.own 5]),Ai 3 ([n]:LI),.box 101 (.agg [.agg [.agg [vi k,vi m,vi n,vi o,vi p],vi u,vl h],.agg [vi a,vc b,vi f,vi g]]),.box 95 (.agg [vi k,vi m,vi n,vi o,vi p]),.box 99 (.agg [vi a,vc b,vi f,vi g]),Ab 5 ag],[[(1,.ptr 2 []),(5,.ptr 3 []),(6,.ptr 4 []),(7,.ptr 0 []),(8,.fn 107 [.ptr 0 []])]]⟩
def z33:ZT_ R_:=H.i P_ [r,r,r,r,r,r,r,l,(call 4 107),r,r,d]
def t30(m k n o p u:Int)(h:LI)(a:Int)(b:UInt8)(f g aj:Int)(ai:LB):S:=⟨[(2,.ptr 0 []),(9,.own 1),(10,vi (Ad ([m]:LI))),(11,vi aj)],[.box 51 (.agg [.wp 0,.own 5]),Ai 3 ([m]:LI),.box 101 (.agg [.agg [.agg [vi k,vi m,vi n,vi o,vi p],vi u,vl h],.agg [vi a,vc b,vi f,vi g]]),.box 95 (.agg [vi k,vi m,vi n,vi o,vi p]),.box 99 (.agg [vi a,vc b,vi f,vi g]),Ab 5 ai],[[(1,.ptr 2 []),(5,.ptr 3 []),(6,.ptr 4 []),(7,.ptr 0 []),(8,.fn 107 [.ptr 0 []])]]⟩
def z30:ZT_ R_:=H.i P_ [r,r,r,r,r,r,l,(call 4 107),r,r,d]
def t27(k m n o p u:Int)(h:LI)(a:Int)(b:UInt8)(f g am:Int)(al:LB):S:=⟨[(2,.ptr 0 []),(9,.own 1),(10,vi (Ad ([k]:LI))),(11,vi am)],[.box 51 (.agg [.wp 0,.own 5]),Ai 3 ([k]:LI),.box 101 (.agg [.agg [.agg [vi k,vi m,vi n,vi o,vi p],vi u,vl h],.agg [vi a,vc b,vi f,vi g]]),.box 95 (.agg [vi k,vi m,vi n,vi o,vi p]),.box 99 (.agg [vi a,vc b,vi f,vi g]),Ab 5 al],[[(1,.ptr 2 []),(5,.ptr 3 []),(6,.ptr 4 []),(7,.ptr 0 []),(8,.fn 107 [.ptr 0 []])]]⟩
def z27:ZT_ R_:=H.i P_ [r,r,r,r,r,l,(call 4 107),r,r,d]
def x48(a:Int)(b:UInt8)(f g w:Int)(v:LB):Option R_:=H.e P_ [r,r,r,r,r,r,r,r,r,r,r,r,l,(call 11 107),r,r,d] (t48 a b f g w v)
def x45(h:LI)(a:Int)(b:UInt8)(f g ak:Int)(y:LB):Option R_:=H.e P_ [r,r,r,r,r,r,r,r,r,r,r,l,(call 4 107),r,r,d] (t45 h a b f g ak y)
def x42(u k m n o p:Int)(h:LI)(a:Int)(b:UInt8)(f g ab:Int)(aa:LB):Option R_:=H.e P_ [r,r,r,r,r,r,r,r,r,r,l,(call 5 107),r,r,d] (t42 u k m n o p h a b f g ab aa)
def x39(p k m n o u:Int)(h:LI)(a:Int)(b:UInt8)(f g ad:Int)(ac:LB):Option R_:=H.e P_ [r,r,r,r,r,r,r,r,r,l,(call 4 107),r,r,d] (t39 p k m n o u h a b f g ad ac)
def x36(o k m n p u:Int)(h:LI)(a:Int)(b:UInt8)(f g af:Int)(ae:LB):Option R_:=H.e P_ [r,r,r,r,r,r,r,r,l,(call 4 107),r,r,d] (t36 o k m n p u h a b f g af ae)
def x33(n k m o p u:Int)(h:LI)(a:Int)(b:UInt8)(f g ah:Int)(ag:LB):Option R_:=H.e P_ [r,r,r,r,r,r,r,l,(call 4 107),r,r,d] (t33 n k m o p u h a b f g ah ag)
def x30(m k n o p u:Int)(h:LI)(a:Int)(b:UInt8)(f g aj:Int)(ai:LB):Option R_:=H.e P_ [r,r,r,r,r,r,l,(call 4 107),r,r,d] (t30 m k n o p u h a b f g aj ai)
def x26(k m n o p u:Int)(h:LI)(a:Int)(b:UInt8)(f g:Int):Option R_:=H.e P_ [r,r,r] ⟨[(1,.ptr 0 []),(5,.ptr 1 []),(6,.ptr 2 [])],[.box 101 (.agg [.agg [.agg [vi k,vi m,vi n,vi o,vi p],vi u,vl h],.agg [vi a,vc b,vi f,vi g]]),.box 95 (.agg [vi k,vi m,vi n,vi o,vi p]),.box 99 (.agg [vi a,vc b,vi f,vi g])],[]⟩
theorem i48(a:Int)(b:UInt8)(f g:Int):∀(q:Nat) (w:Int) (v:LB),z48 q (t48 a b f g w v)=PN a b f g q w v:=
 ind (λ_ _=>by kernel_rfl) λq ih w v=>Eq.trans (b:=Afv Agc (λw v=>(z48 q) (t48 a b f g w v)) a b f g w v) F3 (by simp only[ih]<;>rfl)
theorem e48:x48=Ala:=by funext a b f g w v;exact Eq.trans F3 ((i48 a b f g Bs w v).trans (by rw[Am];rfl))
theorem i45(h:LI)(a:Int)(b:UInt8)(f g:Int):∀(q:Nat) (ak:Int) (y:LB),z45 q (t45 h a b f g ak y)=NT h a b f g q ak y:=
 ind (λ_ _=>by kernel_rfl) λq ih ak y=>Eq.trans (b:=Aim (Afx x48) (λak y=>(z45 q) (t45 h a b f g ak y)) h a b f g ak y) F3 (by simp only[e48,ih]<;>rfl)
theorem e45:x45=Agi:=by funext h a b f g ak y;exact Eq.trans F3 ((i45 h a b f g Bs ak y).trans (by rw[Am];rfl))
theorem i42(u k m n o p:Int)(h:LI)(a:Int)(b:UInt8)(f g:Int):∀(q:Nat) (ab:Int) (aa:LB),z42 q (t42 u k m n o p h a b f g ab aa)=NA u k m n o p h a b f g q ab aa:=
 ind (λ_ _=>by kernel_rfl) λq ih ab aa=>Eq.trans (b:=Afj (Ain x45) (λab aa=>(z42 q) (t42 u k m n o p h a b f g ab aa)) u k m n o p h a b f g ab aa) F3 (by simp only[e45,ih]<;>rfl)
theorem e42:x42=Agf:=by funext u k m n o p h a b f g ab aa;exact Eq.trans F3 ((i42 u k m n o p h a b f g Bs ab aa).trans (by rw[Am];rfl))
theorem i39(p k m n o u:Int)(h:LI)(a:Int)(b:UInt8)(f g:Int):∀(q:Nat) (ad:Int) (ac:LB),z39 q (t39 p k m n o u h a b f g ad ac)=MT p k m n o u h a b f g q ad ac:=
 ind (λ_ _=>by kernel_rfl) λq ih ad ac=>Eq.trans (b:=Afs (Agg x42) (λad ac=>(z39 q) (t39 p k m n o u h a b f g ad ac)) p k m n o u h a b f g ad ac) F3 (by simp only[e42,ih]<;>rfl)
theorem e39:x39=Afu:=by funext p k m n o u h a b f g ad ac;exact Eq.trans F3 ((i39 p k m n o u h a b f g Bs ad ac).trans (by rw[Am];rfl))
theorem i36(o k m n p u:Int)(h:LI)(a:Int)(b:UInt8)(f g:Int):∀(q:Nat) (af:Int) (ae:LB),z36 q (t36 o k m n p u h a b f g af ae)=MN o k m n p u h a b f g q af ae:=
 ind (λ_ _=>by kernel_rfl) λq ih af ae=>Eq.trans (b:=Age (Ah3 x39) (λaf ae=>(z36 q) (t36 o k m n p u h a b f g af ae)) o k m n p u h a b f g af ae) F3 (by simp only[e39,ih]<;>rfl)
theorem e36:x36=Afl:=by funext o k m n p u h a b f g af ae;exact Eq.trans F3 ((i36 o k m n p u h a b f g Bs af ae).trans (by rw[Am];rfl))
theorem i33(n k m o p u:Int)(h:LI)(a:Int)(b:UInt8)(f g:Int):∀(q:Nat) (ah:Int) (ag:LB),z33 q (t33 n k m o p u h a b f g ah ag)=PZ n k m o p u h a b f g q ah ag:=
 ind (λ_ _=>by kernel_rfl) λq ih ah ag=>Eq.trans (b:=Akj (Aj4 x36) (λah ag=>(z33 q) (t33 n k m o p u h a b f g ah ag)) n k m o p u h a b f g ah ag) F3 (by simp only[e36,ih]<;>rfl)
theorem e33:x33=Aj9:=by funext n k m o p u h a b f g ah ag;exact Eq.trans F3 ((i33 n k m o p u h a b f g Bs ah ag).trans (by rw[Am];rfl))
theorem i30(m k n o p u:Int)(h:LI)(a:Int)(b:UInt8)(f g:Int):∀(q:Nat) (aj:Int) (ai:LB),z30 q (t30 m k n o p u h a b f g aj ai)=MK m k n o p u h a b f g q aj ai:=
 ind (λ_ _=>by kernel_rfl) λq ih aj ai=>Eq.trans (b:=Aj8 (Alj x33) (λaj ai=>(z30 q) (t30 m k n o p u h a b f g aj ai)) m k n o p u h a b f g aj ai) F3 (by simp only[e33,ih]<;>rfl)
theorem e30:x30=Ak7:=by funext m k n o p u h a b f g aj ai;exact Eq.trans F3 ((i30 m k n o p u h a b f g Bs aj ai).trans (by rw[Am];rfl))
theorem i27(k m n o p u:Int)(h:LI)(a:Int)(b:UInt8)(f g:Int):∀(q:Nat) (am:Int) (al:LB),z27 q (t27 k m n o p u h a b f g am al)=NV k m n o p u h a b f g q am al:=
 ind (λ_ _=>by kernel_rfl) λq ih am al=>Eq.trans (b:=Ak9 (Akh x30) (λam al=>(z27 q) (t27 k m n o p u h a b f g am al)) k m n o p u h a b f g am al) F3 (by simp only[e30,ih]<;>rfl)
theorem e26:x26=Ale:=Eq.trans (b:=Akt (λk m n o p u h a b f g am al=>z27 Bs (t27 k m n o p u h a b f g am al))) F3 (by simp only[i27,Am]<;>rfl)
def k:Kc P_ gl:=⟨(74,⟨H.p,H.r,u11 G0⟩),cp H func74 (by intro p hp;rcases List.mem_cons.1 hp with rfl|hp;exact trivial;rcases List.mem_cons.1 hp with rfl|hp;exact M2;rcases List.mem_cons.1 hp with rfl|hp;exact N3;rcases List.mem_cons.1 hp with rfl|hp;exact trivial;cases hp) (λx=>Eq.trans (b:=u11 (QE x26) x) F3 (by rw[Bf5];simp only[e26]<;>rfl))⟩
end F74
namespace F59
def H:=hd_ [Ss,Ss] [Ss] .d [F67.k] f59
def k:KC_:=kk_ 59 H (u2 Io) func59
end F59
namespace F25
def H:=hd_ [Ss,Ss] [Ss] .d [F59.k] f25
def k:KC_:=kk_ 25 H (u2 Iz) func25
end F25
theorem Azo:ConOk Tryz.prog gl 139 TH:=Ayt ent139
namespace F108
abbrev R_:=LB
def H:=hd_ [Ss,Ss,Ss,Si] [Ss] (.q (.q (.cut [0,1,2,3] [] .d (.q (.q (.q (.cut [0,10,11] [] (.q (.cond (.q (.blk (.loop [0,1,2,10,11,52,53] [] (.q (.q (.seq (.blk (.q (.seq (.keep [0,1,2,10,11,12,52,53,62,63,64,65] true) (.seq (.keep [0,1,2,10,12,52,53,67] true) .d)))) .d)))))) (.seq (.keep [0,2,3,10,11,74] true) (.q (.blk (.loop [0,2,10,11,77,78] [] (.q (.q (.seq (.blk (.q (.q (.seq (.keep [0,2,10,11,15,77,78,90,91,92,93] true) (.seq (.keep [0,2,10,15,77,78,95] true) .d))))) .d))))))))) (.seq (.keep [0,10,11,99,100,101] true) .d)))))))) [⟨(27,Sd),FC⟩,⟨(62,HO),Acq⟩,⟨(139,TH),Azo⟩] f108 false [(23,.d),(26,.pr 1 51 5),(36,.pr 0 51 5),(157,.pr 2 51 5)]
def t8(a g b:LB)(f h m:Int)(n:LB):S:=⟨[(0,vs a),(1,vs g),(2,vs b),(10,.ptr 0 []),(11,vi h),(52,vi f),(53,vi m)],[.box 51 (.agg [.wp 0,.own 1]),Ab 5 n],[]⟩
def z8:ZT_ R_:=H.i P_ [r,r,r,r,r,r,l,r,l,r,d]
def t10(a b:LB)(f k o:Int)(p:LB):S:=⟨[(0,vs a),(2,vs b),(10,.ptr 0 []),(11,vi k),(77,vi (Ap f (1:Int))),(78,vi o)],[.box 51 (.agg [.wp 0,.own 1]),Ab 5 p],[]⟩
def z10:ZT_ R_:=H.i P_ [r,r,r,r,r,r,l,r,r,r,r,d]
theorem i8(a g b:LB)(f:Int):∀(q:Nat) (h m:Int) (n:LB),z8 q (t8 a g b f h m n)=Yv a g b f q h m n:=
 ind (λ_ _ _=>by kernel_rfl) λq ih h m n=>Eq.trans (b:=PF Om (λh m n=>(z8 q) (t8 a g b f h m n)) a g b f h m n) F3 (by simp only[ih]<;>rfl)
theorem i10(a b:LB)(f:Int):∀(q:Nat) (k o:Int) (p:LB),z10 q (t10 a b f k o p)=Wn a b f q k o p:=
 ind (λ_ _ _=>by kernel_rfl) λq ih k o p=>Eq.trans (b:=JW Om (λk o p=>(z10 q) (t10 a b f k o p)) a b f k o p) F3 (by simp only[ih]<;>rfl)
def k:Kc P_ gl:=⟨(108,⟨H.p,H.r,u4 Aew⟩),cp H func108 (by intro p hp;rcases List.mem_cons.1 hp with rfl|hp;exact trivial;rcases List.mem_cons.1 hp with rfl|hp;exact M2;rcases List.mem_cons.1 hp with rfl|hp;exact N3;rcases List.mem_cons.1 hp with rfl|hp;exact ru;cases hp) (λx=>Eq.trans (b:=u4 (MG (OA (λa g b f h m n=>z8 Bs (t8 a g b f h m n)) (λa b f k o p=>z10 Bs (t10 a b f k o p)))) x) F3 (by simp only[i8,i10,Am]<;>rfl))⟩
end F108
namespace F75
def H:=hd_ [Ss,Ss,Ss] [Ss] .d [F108.k] f75
def k:KC_:=kk_ 75 H (u3 NB) func75
end F75
namespace F112
abbrev R_:=LB
def H:=hd_ [.lf (.list .str) none,Ss] [Ss] (.q (.q (.q (.cut [0,1,5] [] (.q (.cond (.cut [0,1,5] [] .d .d) .d)) (.cut [0,1,5] [] (.q (.blk (.loop [0,1,5,39,40,41] [] .d))) (.q (.q (.seq (.keep [0,1,8,58,59,60] true) (.cut [8] [] (.q (.blk (.loop [1,8,63,64,65] [] (.q (.q (.seq (.blk (.q (.seq (.keep [1,8,10,63,64,65,69] true) (.keep [1,8,10,63,64,65,71] true)))) .d)))))) .d))))))))) [] f112 false [(23,.d),(26,.pr 1 51 5),(36,.pr 0 51 5),(157,.pr 2 51 5)]
def t14(a:LB)(f:List LB)(k:Int)(h:LB):S:=⟨[(1,vs a),(8,.ptr 0 []),(63,.val (.list .str) f),(64,vi (Ad f)),(65,vi k)],[.box 51 (.agg [.wp 0,.own 1]),Ab 5 h],[]⟩
def z14:ZT_ R_:=H.i P_ [r,r,r,r,r,r,r,r,l,r,d]
def t11(b:List LB)(a:LB)(g m:Int):S:=⟨[(0,.val (.list .str) b),(1,vs a),(5,vi g),(39,.val (.list .str) b),(40,vi (Ad b)),(41,vi m)],[],[]⟩
def z11:ZT_ R_:=H.i P_ [r,r,r,r,l,r,d]
def x14(a:LB)(f:List LB)(k:Int)(h:LB):Option R_:=H.e P_ [r,r,r,r,r,r,r,r,l,r,d] (t14 a f k h)
theorem i14(a:LB)(f:List LB):∀(q:Nat) (k:Int) (h:LB),z14 q (t14 a f k h)=Pz a f q k h:=
 ind (λ_ _=>by kernel_rfl) λq ih k h=>Eq.trans (b:=EO EH (λk h=>(z14 q) (t14 a f k h)) a f k h) F3 (by simp only[ih]<;>rfl)
theorem e14:x14=Ab0:=by funext a f k h;exact Eq.trans F3 ((i14 a f Bs k h).trans (by rw[Am];rfl))
theorem i11(b:List LB)(a:LB):∀(q:Nat) (g m:Int),z11 q (t11 b a g m)=Qa b a q g m:=
 ind (λ_ _=>by kernel_rfl) λq ih g m=>Eq.trans (b:=EM (FJ x14) (λg m=>(z11 q) (t11 b a g m)) b a g m) F3 (by simp only[e14,ih]<;>rfl)
def k:Kc P_ gl:=⟨(112,⟨H.p,H.r,u2 Qw⟩),cp H func112 (by intro p hp;rcases List.mem_cons.1 hp with rfl|hp;exact trivial;rcases List.mem_cons.1 hp with rfl|hp;exact M2;rcases List.mem_cons.1 hp with rfl|hp;exact N3;rcases List.mem_cons.1 hp with rfl|hp;exact ru;cases hp) (λx=>Eq.trans (b:=u2 (IF (JE (EU (λb a g m=>z11 Bs (t11 b a g m)))) (EU (λb a g m=>z11 Bs (t11 b a g m)))) x) F3 (by simp only[i11,Am]<;>rfl))⟩
end F112
namespace F77
abbrev R_:=LB
def H:=hd_ [Sl,Si] [Ss] (.q (.q (.q (.cut [5] [] (.q (.blk (.loop [5,12,13,14] [⟨5,[],.own 9 .str⟩] .d))) .d)))) [F73.k,⟨(99,Pa),Ye⟩,F112.k] f77
def t4(a:LI)(f:Int)(b:List LB):S:=⟨[(5,.own 0),(12,vl a),(13,vi (Ad a)),(14,vi f)],[.arr 9 .str b],[]⟩
def z4:ZT_ R_:=H.i P_ [r,r,r,l,r,d]
theorem i4(a:LI):∀(q:Nat) (f:Int) (b:List LB),z4 q (t4 a f b)=Sa a q f b:=
 ind (λ_ _=>by kernel_rfl) λq ih f b=>Eq.trans (b:=JI IP (λf b=>(z4 q) (t4 a f b)) a f b) F3 (by simp only[ih]<;>rfl)
def k:KC_:=kk_ 77 H (u2 Fc) func77 (λx=>Eq.trans (b:=u2 (IL (λa f b=>z4 Bs (t4 a f b))) x) F3 (by simp only[i4,Am]<;>rfl))
end F77
namespace F113
def H:=hd_ [Ss] [.agg [Ss,Ob 5,.agg [Si,Si,Si,Si,Si],Ol 3,Si,Ob 5,Sz,Si],Si] .d [] f113
def k:KC_:=kk_ 113 H RU func113
end F113
namespace F127
def IU(a:LB):Option (LB):=
G5 a (
some ([]:LB)) (
(Bf ([]:LB) a).bind λb=>
some b)
theorem Bek: @IU= @Nb:=by
  unfold IU Nb
  repeat (refine funext λ_=>?_)
  repeat' first
    |with_reducible rfl
    |with_reducible refine Gu ?_ ?_
    |with_reducible refine Gm ?_ ?_ ?_
    |with_reducible refine Gs ?_ ?_ ?_ ?_
    |((with_reducible refine Jj ?_ ?_);focus (intro h;first|(subst h;rfl)|(simp only[h];rfl)|(simp[Bf,Ad,h];done)))
    |with_reducible refine Jm λx=>?_
    |with_reducible refine Nw (λ_=>?_) (λ_=>?_)
    |(refine Ea (λh=>by simp only[h,Ji,Di,De,ite_self]) (λx h=>?_);(try simp only[h,Di]))
    |(refine Ew (λh=>?_) (λh=>?_)<;>simp only[h,if_true,if_false,Bool.false_eq_true])
def H:=hd_ [Sb] [Ob 5] .d [] f127
def k:KC_:=kk_ 127 H Nb func127 (λx=>Eq.trans (b:=IU x) F3 (by simp only[Bek]<;>rfl))
end F127
namespace F219
def Ns(a:LI):Option (LI):=
G5 a (
some ([]:LI)) (
(Bf ([]:LI) a).bind λb=>
some b)
theorem Ayc: @Ns= @Jv:=by
  unfold Ns Jv
  repeat (refine funext λ_=>?_)
  repeat' first
    |with_reducible rfl
    |with_reducible refine Gu ?_ ?_
    |with_reducible refine Gm ?_ ?_ ?_
    |with_reducible refine Gs ?_ ?_ ?_ ?_
    |((with_reducible refine Jj ?_ ?_);focus (intro h;first|(subst h;rfl)|(simp only[h];rfl)|(simp[Bf,Ad,h];done)))
    |with_reducible refine Jm λx=>?_
    |with_reducible refine Nw (λ_=>?_) (λ_=>?_)
    |(refine Ea (λh=>by simp only[h,Ji,Di,De,ite_self]) (λx h=>?_);(try simp only[h,Di]))
    |(refine Ew (λh=>?_) (λh=>?_)<;>simp only[h,if_true,if_false,Bool.false_eq_true])
def H:=hd_ [Sl] [Ol 3] .d [] f219
def k:KC_:=kk_ 219 H Jv func219 (λx=>Eq.trans (b:=Ns x) F3 (by simp only[Ayc]<;>rfl))
end F219
namespace F161
def H:=hd_ [.agg [Ss,Sb,.agg [Si,Si,Si,Si,Si],Sl,Si,Sb,Sz,Si]] [.agg [Ss,Ob 5,.agg [Si,Si,Si,Si,Si],Ol 3,Si,Ob 5,Sz,Si]] .d [F127.k,F219.k] f161
def k:KC_:=kk_ 161 H (u12 Fb) func161
end F161
namespace F274
def H:=hd_ [.agg [Si,Si,Si,Si,Si],Ss] [Si] .d [] f274
def k:KC_:=kk_ 274 H (u6 Pm) func274
end F274
namespace F271
abbrev R_:=Bool
def H:=hd_ [.agg [Ss,Sb,.agg [Si,Si,Si,Si,Si],Sl,Si,Sb,Sz,Si]] [Sz] (.q (.q (.q (.cut [1,3] [] .d (.q (.q (.q (.cut [1,5] [] (.q (.blk (.loop [1,5,83,84,85] [] .d))) .d)))))))) [F154.k,F156.k,F274.k] f271
def t6(w:LI)(o p:LB)(h b f k m:Int)(g:LI)(a:Int)(n:LB)(u:Bool)(v y aa:Int):S:=⟨[(1,.ptr 0 []),(5,vi y),(83,vl w),(84,vi (Ad w)),(85,vi aa)],[.box 148 (.agg [vs o,vb p,.agg [vi h,vi b,vi f,vi k,vi m],vl g,vi a,vb n,vt u,vi v])],[]⟩
def z6:ZT_ R_:=H.i P_ [r,r,r,r,r,r,r,l,r,d]
theorem i6(w:LI)(o p:LB)(h b f k m:Int)(g:LI)(a:Int)(n:LB)(u:Bool)(v:Int):∀(q:Nat) (y aa:Int),z6 q (t6 w o p h b f k m g a n u v y aa)=Ms w o p h b f k m g a n u v q y aa:=
 ind (λ_ _=>by kernel_rfl) λq ih y aa=>Eq.trans (b:=Xv HK (λy aa=>(z6 q) (t6 w o p h b f k m g a n u v y aa)) w o p h b f k m g a n u v y aa) F3 (by simp only[ih]<;>rfl)
def k:KC_:=kk_ 271 H (u12 DQ) func271 (λx=>Eq.trans (b:=u12 (HT (IX (λw o p h b f k m g a n u v y aa=>z6 Bs (t6 w o p h b f k m g a n u v y aa)))) x) F3 (by simp only[i6,Am]<;>rfl))
end F271
namespace F218
def H:=hd_ [Si] [.agg [Sz,Si]] .d [] f218
def k:KC_:=kk_ 218 H As func218
end F218
namespace F273
abbrev R_:=Bool
def H:=hd_ [Sb] [Sz] (.q (.cut [] [] (.q (.blk (.loop [0,5,6] [] .d))) .d)) [F204.k] f273
def t4(a:LB)(b:Int):S:=⟨[(0,vb a),(5,.val (.vec 2 .str) ([([73,68,51]:LB),([65,80,69,84,65,71,69,88]:LB)]:List LB)),(6,vi b)],[],[]⟩
def z4:ZT_ R_:=H.i P_ [r,l,r,d]
theorem i4(a:LB):∀(q:Nat) (b:Int),z4 q (t4 a b)=My a q b:=
 ind (λ_=>by kernel_rfl) λq ih b=>Eq.trans (b:=Sg Aev (λb=>(z4 q) (t4 a b)) a b) F3 (by simp only[ih]<;>rfl)
def k:KC_:=kk_ 273 H Rl func273 (λx=>Eq.trans (b:=II (λa b=>z4 Bs (t4 a b)) x) F3 (by simp only[i4,Am]<;>rfl))
end F273
namespace F275
def H:=hd_ [.agg [Si,Si,Si,Si,Si]] [.agg [Si,Si]] .d [] f275
def k:KC_:=kk_ 275 H (u5 FY) func275
end F275
namespace F346
abbrev R_:=Int
def H:=hd_ [Sl,Si] [Si] (.q (.cut [] [] (.q (.blk (.loop [0,1,7,8] [] .d))) .d)) [] f346
def t4(a:LI)(b f:Int):S:=⟨[(0,vl a),(1,vi b),(7,vi (Ad a)),(8,vi f)],[],[]⟩
def z4:ZT_ R_:=H.i P_ [r,l,r,d]
theorem i4(a:LI)(b:Int):∀(q:Nat) (f:Int),z4 q (t4 a b f)=Gq a b q f:=
 ind (λ_=>by kernel_rfl) λq ih f=>Eq.trans (b:=Lg Lj (λf=>(z4 q) (t4 a b f)) a b f) F3 (by simp only[ih]<;>rfl)
def k:KC_:=kk_ 346 H (u2 Nc) func346 (λx=>Eq.trans (b:=u2 (Lf (λa b f=>z4 Bs (t4 a b f))) x) F3 (by simp only[i4,Am]<;>rfl))
end F346
namespace F313
def H:=hd_ [Sl,Si] [Sz] .d [F346.k] f313
def k:KC_:=kk_ 313 H (u2 Ll) func313
end F313
namespace F272
def H:=hd_ [Si] [Sz] .d [F313.k] f272
def k:KC_:=kk_ 272 H Wu func272
end F272
namespace F214
def Zc(j28:Bool->Int->Option Int)(y ac:Int)(g a:LB)(h p m u v b:Int)(n:Bool)(o:Int)(ak:LX)(f:LI)(k:LB):Option Int:=
if(Bg ac 0)then
(As ac).bind λ(bi,bj)=>
j28 bi bj
else
(Ik m ak).bind λ(bk,bb)=>
if(Bg bb 0)then
(As bb).bind λ(bl,bm)=>
j28 bl bm
else
(Bf k bk).bind λdv=>
(λfa:Option Int=>
bo (
fa)) (
(Cb a y (Ad a)).bind λdw=>
j28 false 0)
theorem Bdt: @Zc= @DJ:=by
  unfold Zc DJ;simp only[EC,Ti,Tg]
def BC(j13:Bool->Int->Option Int)(j12:LB->LB->Int->Int->Int->Int->Int->Int->Bool->Int->LI->LB->Option Int)(j25:Bool->Int->Option Int)(j23:LB->LB->Int->Int->Int->Int->Int->Int->Bool->Int->LI->LB->Option Int)(j24:LB->LB->Int->Int->Int->Int->Int->Int->Bool->Int->LI->LB->Int->Option Int)(j28:Bool->Int->Option Int)(j26:Int->LB->LB->Int->Int->Int->Int->Int->Int->Bool->Int->LX->LI->LI->LB->Option Int)(j22:Bool->Option Int)(j21:Option Int)(al am:LB)(an ao ap aq ar:Int)(au:LI)(ad:Int)(ae:LB)(aa:Bool)(w:Int):Option Int:=
if(Eg (Ad al) 64)then
some 8
else
if((geq w 0)&&(!aa))then
(Fb al am an ao ap aq ar au ad ae aa w).bind λ(g,a,h,p,m,u,v,f,b,k,n,o)=>
(DQ al am an ao ap aq ar au ad ae aa w).bind λbn=>
if bn then
if(geq h 0)then
(Hf a).bind λ(ah,av)=>
if(geq av 24)then
j13 true 0
else
if(Bg av 0)then
(As av).bind λ(bp,bq)=>
j13 bp bq
else
(Cb a ah (Ad a)).bind λbr=>
(Rl br).bind λaj=>
if aj then
j13 true 0
else
(Cb a ah (Ad a)).bind λbs=>
(Jt bs).bind λ(ay,az,ab,ba,af,aw)=>
if(geq aw 24)then
j13 true 0
else
if(Bg aw 0)then
(As aw).bind λ(bt,bu)=>
j13 bt bu
else
both (
(Cb a (Ae ah 22) (Ad a)).bind λax=>
(λfb:Option Int=>
bo (
fb)) (
j12 g ax ay az ab ba af b n o f k)) [
(Cb a (Ae ah 22) (Ad a)).bind λax=>
j12 g ax ay az ab ba af b n o f k]
else
if(geq (Ad f) 0)then
if(geq h 2)then
if(Cx (Ad a) 8)then
j25 true 0
else
j23 g a h p m u v b n o f k
else
j24 g a h p m u v b n o f k 0
else
if(Cx b (Ad f))then
(Af f b).bind λ_=>
(Af f b).bind λy=>
if(Cx (Ad a) y)then
j28 true 0
else
(Mv g).bind λ(bc,ai)=>
if(Bg ai 0)then
(As ai).bind λ(bv,bw)=>
j28 bv bw
else
(Dq h p m u v).bind λ(ag,bx)=>
if((Bg bx 0)||(Ha b (Ad ag)))then
(As 8).bind λ(bz,da)=>
j28 bz da
else
j26 y g a h p m u v b n o bc ag f k
else
if(Eg (Ad a) 4000)then
(As 38).bind λ(db,bd)=>
j22 ((db==true)&&((geq bd 0)&&true))
else
j21
else
j22 false
else
if((geq (Ad am) 0)&&(geq (Ad au) 0))then
if((((geq an 0)&&((geq ao 0)&&((geq ap 0)&&((geq aq 0)&&((geq ar 0)&&true)))))&&(geq ad 0))&&(MQ (Ad ae) 12000))then
if(geq w 0)then
j22 true
else
if(!aa)then
(Wu w).bind λdc=>
j22 dc
else
j22 false
else
j22 false
else
if((false&&(geq ad 0))&&(MQ (Ad ae) 12000))then
if(geq w 0)then
j22 true
else
if(!aa)then
(Wu w).bind λdd=>
j22 dd
else
j22 false
else
j22 false
theorem Be5: @BC= @Pk:=by
  unfold BC Pk
  try simp only[EC,Ti,Tg]
  all_goals
    repeat (refine funext λ_=>?_)
    repeat' first
      |with_reducible rfl
      |with_reducible refine Gu ?_ ?_
      |with_reducible refine Gm ?_ ?_ ?_
      |with_reducible refine Gs ?_ ?_ ?_ ?_
      |((with_reducible refine Jj ?_ ?_);focus (intro h;first|(subst h;rfl)|(simp only[h];rfl)|(simp[Bf,Ad,h];done)))
      |with_reducible refine Jm λx=>?_
      |with_reducible refine Nw (λ_=>?_) (λ_=>?_)
      |(refine Ea (λh=>by simp only[h,Ji,Di,De,ite_self]) (λx h=>?_);(try simp only[h,Di]))
      |(refine Ew (λh=>?_) (λh=>?_)<;>simp only[h,if_true,if_false,Bool.false_eq_true])
abbrev R_:=Int
def H:=hd_ [.agg [Ss,Sb,.agg [Si,Si,Si,Si,Si],Sl,Si,Sb,Sz,Si]] [Si] (.q (.q (.q (.cut [3] [] (.q (.cond (.q (.keep [3,21,22,23,24,25] false)) .d)) .d)))) [F132.k,⟨(151,Lk),Qj⟩,F152.k,F153.k,F154.k,F155.k,F161.k,F172.k,F174.k,F218.k,F271.k,F272.k,F273.k,F274.k,F275.k] f214 false [(160,(.q (.cut [2] [] (.blk (.q (.cond (.cut [2] [] (.keep [2,11] true) .d) (.q (.cond (.cut [2] [] (.keep [2,20] true) .d) (.q (.cond (.cut [2] [] (.keep [2,33] true) .d) .d))))))) .d))),(215,(.q (.q (.q (.q (.q (.cut [0,2,5] [] (.mode false) .d))))))),(216,(.q (.q (.cut [0,2,3] [⟨0,[1],.ro (.int .u8)⟩] (.q (.cond (.q (.cut [0,2,3] [⟨0,[1],.ro (.int .u8)⟩,⟨9,[1],.ro (.int .u8)⟩,⟨10,[1],.ro (.int .u8)⟩,⟨15,[1],.ro (.int .u8)⟩,⟨16,[1],.ro (.int .u8)⟩,⟨18,[],.ro (.int .u8)⟩] .d (.cut [0,2,3,4,5] [] .d .d))) .d)) .d)))),(217,(.q (.q (.q (.q (.q (.q (.cut [0,2,3,4,6] [⟨0,[1],.ro (.int .u8)⟩,⟨9,[1],.ro (.int .u8)⟩,⟨10,[1],.ro (.int .u8)⟩,⟨13,[1],.ro (.int .u8)⟩,⟨14,[1],.ro (.int .u8)⟩,⟨19,[1],.ro (.int .u8)⟩,⟨20,[1],.ro (.int .u8)⟩,⟨22,[],.ro (.int .u8)⟩,⟨28,[1],.ro (.int .u8)⟩,⟨29,[1],.ro (.int .u8)⟩,⟨40,[1],.ro (.int .u8)⟩,⟨41,[1],.ro (.int .u8)⟩] .d (.cut [0,2,3,5,7] [] .d (.q (.q (.q (.q (.seq (.mode false) .d))))))))))))))]
def x27(y ac:Int)(g a:LB)(h p m u v b:Int)(n:Bool)(o:Int)(ak:LX)(f:LI)(k:LB):Option R_:=H.e P_ [r,r,r,l,r,l,r,(dcall 3 160 3 #[true,true,true,true,true,true,true,true] #[true,true,true,true,true,false,false,false]),r,l,d,r,r,r,r,r,l,l,(call 1 217),r,r,r,r,r,r,r,r] ⟨[(0,.ptr 0 []),(2,.ptr 1 []),(3,vi y),(5,vi ac),(7,.own 2)],[.box 148 (.agg [vs g,vb a,.agg [vi h,vi p,vi m,vi u,vi v],.own 4,vi b,.own 5,vt n,vi o]),.box 210 (.agg [vt false,vi 0]),Aw 21 ak,.box 210 (.agg [vt false,vi 0]),Ai 3 f,Ab 5 k],[[(2,.ptr 3 [])],[(3,vt false),(21,.cst (.bool true)),(23,.agg [vt true,vi 0])]]⟩
theorem e27:x27=QQ:=Eq.trans (b:=Zc Tv) F3 (by rw[Bdt];rfl)
def k:KC_:=kk_ 214 H (u12 Lh) func214 (λx=>Eq.trans (b:=u12 (BC DN Aad Tr QR CY Tv (RW x27) Jy Aac) x) F3 (by rw[Be5];simp only[e27]<;>rfl))
end F214
namespace F159
def BI(f g:LB)(h k m n o:Int)(p:LI)(u:Int)(v:LB)(b:Bool)(a:Int):Option (LB×LB×Int×Int×Int×Int×Int×LI×Int×LB×Bool×Int×Int):=
(Lh f g h k m n o p u v b a).bind λw=>
if(Bg w 0)then
some (([]:LB),([]:LB),0,0,0,0,0,([]:LI),0,([]:LB),false,0,w)
else
if(Bg a 0)then
(λbl:Option (LB×LB×Int×Int×Int×Int×Int×LI×Int×LB×Bool×Int×Int)=>
both (
both (
(Fb f g h k m n o p u v b a).bind λ(y,aa,ab,ac,ad,ae,af,ag,ah,ai,aj,ak)=>
(λbm:Option (LB×LB×Int×Int×Int×Int×Int×LI×Int×LB×Bool×Int×Int)=>
bo (
bm)) (
some (y,aa,ab,ac,ad,ae,af,ag,ah,ai,aj,ak,a))) [
bl]) [
bl]) (
(Fb f g h k m n o p u v b a).bind λ(y,aa,ab,ac,ad,ae,af,ag,ah,ai,aj,ak)=>
some (y,aa,ab,ac,ad,ae,af,ag,ah,ai,aj,ak,a))
else
if b then
(Fb f g h k m n o p u v b a).bind λ(al,am,an,ao,ap,aq,ar,au,av,aw,ax,ay)=>
some (al,am,an,ao,ap,aq,ar,au,av,aw,ax,ay,36)
else
(Fb f g h k m n o p u v b a).bind λ(az,ba,bb,bc,bd,be,bf,bg,bh,bi,bj,bk)=>
some (az,ba,bb,bc,bd,be,bf,bg,bh,bi,bj,bk,0)
theorem Bdz: @BI= @Nu:=by
  unfold BI Nu
  try simp only[EC,Ti,Tg]
  all_goals
    repeat (refine funext λ_=>?_)
    repeat' first
      |with_reducible rfl
      |with_reducible refine Gu ?_ ?_
      |with_reducible refine Gm ?_ ?_ ?_
      |with_reducible refine Gs ?_ ?_ ?_ ?_
      |((with_reducible refine Jj ?_ ?_);focus (intro h;first|(subst h;rfl)|(simp only[h];rfl)|(simp[Bf,Ad,h];done)))
      |with_reducible refine Jm λx=>?_
      |with_reducible refine Nw (λ_=>?_) (λ_=>?_)
      |(refine Ea (λh=>by simp only[h,Ji,Di,De,ite_self]) (λx h=>?_);(try simp only[h,Di]))
      |(refine Ew (λh=>?_) (λh=>?_)<;>simp only[h,if_true,if_false,Bool.false_eq_true])
def H:=hd_ [.agg [Ss,Sb,.agg [Si,Si,Si,Si,Si],Sl,Si,Sb,Sz,Si]] [.agg [Ss,Ob 5,.agg [Si,Si,Si,Si,Si],Ol 3,Si,Ob 5,Sz,Si],Si] (.q (.q (.seq (.blk (.q (.cond (.seq (.mode false) .d) .d))) .d))) [F161.k,F214.k] f159
def k:KC_:=kk_ 159 H (u12 Nu) func159 (λx=>Eq.trans (b:=u12 BI x) F3 (by simp only[Bdz]<;>rfl))
end F159
namespace F162
def H:=hd_ [.agg [Ss,Sb,.agg [Si,Si,Si,Si,Si],Sl,Si,Sb,Sz,Si],Si] [.agg [Ss,Ob 5,.agg [Si,Si,Si,Si,Si],Ol 3,Si,Sb,Sz,Si],Si] .d [] f162
def k:KC_:=kk_ 162 H (u13 bH) func162
end F162
namespace F114
def AX(j78:Int->Int->Int->Int->Int->LI->Bool->Int->LB->Int->LB->Option (LB×LB×Int×Int×Int×Int×Int×LI×Int×LB×Bool×Int×Int))(a:LB)(b:Bool)(f w ab:Int)(g:LB)(m o n p u h:Int)(am:LX)(k:LI)(v:LB):Option (LB×LB×Int×Int×Int×Int×Int×LI×Int×LB×Bool×Int×Int):=
if(Bg ab 0)then
(As ab).bind λ(br,bs)=>
j78 m o n p u k br bs g h v
else
(Ik n am).bind λ(bt,af)=>
if(Bg af 0)then
(As af).bind λ(bu,bv)=>
j78 m o n p u k bu bv g h v
else
(Bf v bt).bind λbw=>
(λhb:Option (LB×LB×Int×Int×Int×Int×Int×LI×Int×LB×Bool×Int×Int)=>
bo (
hb)) (
(Cb g w (Ad g)).bind λbx=>
j78 m o n p u k false 0 bx (Ae h 1) bw)
theorem Bdy: @AX= @Vv:=by
  unfold AX Vv;simp only[EC,Ti,Tg]
def CP(j62:Int->LI->LB->Bool->Int->LB->Int->Int->Int->Int->Int->Option (LB×LB×Int×Int×Int×Int×Int×LI×Int×LB×Bool×Int×Int))(j61:LB->Int->Int->Int->Int->Int->Int->LI->LB->Option (LB×LB×Int×Int×Int×Int×Int×LI×Int×LB×Bool×Int×Int))(j75:Int->Int->Int->Int->Int->Int->LB->Bool->Int->LB->LI->Option (LB×LB×Int×Int×Int×Int×Int×LI×Int×LB×Bool×Int×Int))(j73:LB->Int->Int->Int->Int->Int->Int->LI->LB->Option (LB×LB×Int×Int×Int×Int×Int×LI×Int×LB×Bool×Int×Int))(j74:LB->Int->Int->Int->Int->Int->Int->LI->LB->Int->Option (LB×LB×Int×Int×Int×Int×Int×LI×Int×LB×Bool×Int×Int))(j78:Int->Int->Int->Int->Int->LI->Bool->Int->LB->Int->LB->Option (LB×LB×Int×Int×Int×Int×Int×LI×Int×LB×Bool×Int×Int))(j76:Int->LB->Int->Int->Int->Int->Int->Int->LX->LI->LI->LB->Option (LB×LB×Int×Int×Int×Int×Int×LI×Int×LB×Bool×Int×Int))(j71:LB->Int->Int->Int->Int->Int->Int->Bool->Int->LI->LB->Option (LB×LB×Int×Int×Int×Int×Int×LI×Int×LB×Bool×Int×Int))(j70:LB->Int->Int->Int->Int->Int->Int->LI->LB->Option (LB×LB×Int×Int×Int×Int×Int×LI×Int×LB×Bool×Int×Int))(a:LB)(b:Bool)(f:Int)(g:LB)(m o n p u h:Int)(k:LI)(v:LB):Option (LB×LB×Int×Int×Int×Int×Int×LI×Int×LB×Bool×Int×Int):=
if(geq m 0)then
(Hf g).bind λ(ad,an)=>
if(geq an 24)then
j62 h k v true 0 g m o n p u
else
if(Bg an 0)then
(As an).bind λ(bz,da)=>
j62 h k v bz da g m o n p u
else
(Cb g ad (Ad g)).bind λdb=>
(Rl db).bind λal=>
if al then
j62 h k v true 0 g m o n p u
else
(Cb g ad (Ad g)).bind λdc=>
(Jt dc).bind λ(ah,ai,y,aj,aa,ao)=>
if(geq ao 24)then
j62 h k v true 0 g m o n p u
else
if(Bg ao 0)then
(As ao).bind λ(dd,de)=>
j62 h k v dd de g m o n p u
else
both (
(Cb g (Ae ad 22) (Ad g)).bind λag=>
bo (
j61 ag ah ai y aj aa h k v)) [
(Cb g (Ae ad 22) (Ad g)).bind λag=>
j61 ag ah ai y aj aa h k v]
else
if(geq (Ad k) 0)then
if(geq m 2)then
if(Cx (Ad g) 8)then
j75 m o n p u h v true 0 g k
else
j73 g m o n p u h k v
else
j74 g m o n p u h k v 0
else
if(Cx h (Ad k))then
(Af k h).bind λ_=>
(Af k h).bind λw=>
if(Cx (Ad g) w)then
j78 m o n p u k true 0 g h v
else
(Mv a).bind λ(aq,ak)=>
if(Bg ak 0)then
(As ak).bind λ(df,dg)=>
j78 m o n p u k df dg g h v
else
(Dq m o n p u).bind λ(ac,dh)=>
if((Bg dh 0)||(Ha h (Ad ac)))then
(As 8).bind λ(di,ap)=>
j78 m o n p u k di ap g h v
else
j76 w g m o n p u h aq ac k v
else
if(Eg (Ad g) 4000)then
(As 38).bind λ(dj,ae)=>
j71 g m o n p u h dj ae k v
else
j70 g m o n p u h k v
theorem Be2: @CP= @Jb:=by
  unfold CP Jb
  repeat (refine funext λ_=>?_)
  repeat' first
    |with_reducible rfl
    |with_reducible refine Gu ?_ ?_
    |with_reducible refine Gm ?_ ?_ ?_
    |with_reducible refine Gs ?_ ?_ ?_ ?_
    |((with_reducible refine Jj ?_ ?_);focus (intro h;first|(subst h;rfl)|(simp only[h];rfl)|(simp[Bf,Ad,h];done)))
    |with_reducible refine Jm λx=>?_
    |with_reducible refine Nw (λ_=>?_) (λ_=>?_)
    |(refine Ea (λh=>by simp only[h,Ji,Di,De,ite_self]) (λx h=>?_);(try simp only[h,Di]))
    |(refine Ew (λh=>?_) (λh=>?_)<;>simp only[h,if_true,if_false,Bool.false_eq_true])
abbrev R_:=(LB×LB×Int×Int×Int×Int×Int×LI×Int×LB×Bool×Int×Int)
abbrev K_:=S->Option R_
def H:=hd_ [.agg [Ss,Sb,.agg [Si,Si,Si,Si,Si],Sl,Si,Sb,Sz,Si],Sb] [.agg [Ss,Ob 5,.agg [Si,Si,Si,Si,Si],Ol 3,Si,Sb,Sz,Si],Si] (.q (.q (.q (.q (.blk (.loop [2,4] [⟨2,[1],.ro (.int .u8)⟩] (.blk (.cut [2,4,7] [] (.keep [2,4,7,22] true) .d)))))))) [F132.k,⟨(151,Lk),Qj⟩,F152.k,F153.k,F154.k,F155.k,F159.k,F161.k,F162.k,F172.k,F174.k,F218.k,F273.k,F274.k,F275.k] f114 false [(160,(.q (.cut [2] [] (.blk (.q (.cond (.cut [2] [] (.keep [2,11] true) .d) (.q (.cond (.cut [2] [] (.keep [2,20] true) .d) (.q (.cond (.cut [2] [] (.keep [2,33] true) .d) .d))))))) .d))),(215,(.q (.q (.q (.q (.q (.cut [0,2,5] [] (.mode false) .d))))))),(216,(.q (.q (.cut [0,2,3] [] (.q (.cond (.q (.cut [0,2,3] [⟨0,[1],.ro (.int .u8)⟩,⟨9,[1],.ro (.int .u8)⟩,⟨10,[1],.ro (.int .u8)⟩,⟨15,[1],.ro (.int .u8)⟩,⟨16,[1],.ro (.int .u8)⟩,⟨18,[],.ro (.int .u8)⟩] .d (.cut [0,2,3,4,5] [] .d .d))) .d)) .d)))),(217,(.q (.q (.q (.q (.q (.q (.cut [0,2,3,4,6] [⟨0,[1],.ro (.int .u8)⟩,⟨9,[1],.ro (.int .u8)⟩,⟨10,[1],.ro (.int .u8)⟩,⟨13,[1],.ro (.int .u8)⟩,⟨14,[1],.ro (.int .u8)⟩,⟨19,[1],.ro (.int .u8)⟩,⟨20,[1],.ro (.int .u8)⟩,⟨22,[],.ro (.int .u8)⟩,⟨28,[1],.ro (.int .u8)⟩,⟨29,[1],.ro (.int .u8)⟩,⟨40,[1],.ro (.int .u8)⟩,⟨41,[1],.ro (.int .u8)⟩] .d (.cut [0,2,3,5,7] [] .d (.q (.q (.q (.q (.seq (.mode false) .d))))))))))))))]
def t37(a:LB)(b:Bool)(f:Int)(g:LB)(m o n p u h:Int)(k:LI)(v:LB):S:=⟨[(2,.ptr 0 []),(4,.ptr 1 [])],[.box 148 (.agg [vs a,vb g,.agg [vi m,vi o,vi n,vi p,vi u],.own 2,vi h,.own 3,vt b,vi f]),.box 148 (.agg [vs ([]:LB),.nils,.agg [vi 0,vi 0,vi 0,vi 0,vi 0],.nils,vi 0,.nils,vt false,vi 0]),Ai 3 k,Ab 5 v],[]⟩
def z37:ZT_ R_:=H.i P_ [r,r,r,r,d]
def x75(qK:K_)(a:LB)(b:Bool)(f m o n p u h:Int)(v:LB)(bf:Bool)(bg:Int)(bh:LB)(bi:LI):Option R_:=H.e P_ [r,r,r,r,d,(lp qK),d,l,(call 0 160),r,l,d,r,r,r,l,r] ⟨[(2,.ptr 0 [])],[.box 210 (.agg [vt bf,vi bg]),.box 148 (.agg [vs a,vb bh,.agg [vi m,vi o,vi n,vi p,vi u],.own 3,vi h,.own 4,vt b,vi f]),.box 148 (.agg [vs ([]:LB),.nils,.agg [vi 0,vi 0,vi 0,vi 0,vi 0],.nils,vi 0,.nils,vt false,vi 0]),Ai 3 bi,Ab 5 v],[[(2,.ptr 1 []),(4,.ptr 2 [])]]⟩
def x78(qK:K_)(a:LB)(b:Bool)(f m o n p u:Int)(k:LI)(bl:Bool)(bm:Int)(bn:LB)(bp:Int)(bq:LB):Option R_:=H.e P_ [r,r,r,r,d,(lp qK),d,l,(call 0 160),r,l,d,r,r,r,r,r,l,r] ⟨[(2,.ptr 0 [])],[.box 210 (.agg [vt bl,vi bm]),.box 148 (.agg [vs a,vb bn,.agg [vi m,vi o,vi n,vi p,vi u],.own 3,vi bp,.own 4,vt b,vi f]),.box 148 (.agg [vs ([]:LB),.nils,.agg [vi 0,vi 0,vi 0,vi 0,vi 0],.nils,vi 0,.nils,vt false,vi 0]),Ai 3 k,Ab 5 bq],[[(2,.ptr 1 []),(4,.ptr 2 [])]]⟩
def x77(qK:K_)(a:LB)(b:Bool)(f w ab:Int)(g:LB)(m o n p u h:Int)(am:LX)(k:LI)(v:LB):Option R_:=H.e P_ [r,r,r,r,d,(lp qK),d,l,(call 0 160),r,l,d,r,r,r,r,r,l,l,(call 1 217),r,r,r,r,r,r,r,r] ⟨[(0,.ptr 0 []),(2,.ptr 1 []),(3,vi w),(5,vi ab),(7,.own 2)],[.box 148 (.agg [vs a,vb g,.agg [vi m,vi o,vi n,vi p,vi u],.own 5,vi h,.own 6,vt b,vi f]),.box 210 (.agg [vt false,vi 0]),Aw 21 am,.box 210 (.agg [vt false,vi 0]),.box 148 (.agg [vs ([]:LB),.nils,.agg [vi 0,vi 0,vi 0,vi 0,vi 0],.nils,vi 0,.nils,vt false,vi 0]),Ai 3 k,Ab 5 v],[[(2,.ptr 3 [])],[(2,.ptr 0 []),(4,.ptr 4 [])]]⟩
theorem e75(qK:K_)(a:LB)(b:Bool)(f:Int):x75 qK a b f=Pr (λg m o n p u h k v=>qK (t37 a b f g m o n p u h k v)) a b f:=F3
theorem e78(qK:K_)(a:LB)(b:Bool)(f:Int):x78 qK a b f=Vk (λg m o n p u h k v=>qK (t37 a b f g m o n p u h k v)) a b f:=F3
theorem e77(qK:K_)(a:LB)(b:Bool)(f:Int):x77 qK a b f=EN (λg m o n p u h k v=>qK (t37 a b f g m o n p u h k v)) a b f:=Eq.trans (b:=AX (x78 qK a b f) a b f) F3 (by rw[Bdy];simp only[e78]<;>rfl)
theorem i37(a:LB)(b:Bool)(f:Int):∀(q:Nat) (g:LB) (m o n p u h:Int) (k:LI) (v:LB),z37 q (t37 a b f g m o n p u h k v)=Bh a b f q g m o n p u h k v:=
 ind (λ_ _ _ _ _ _ _ _ _=>by kernel_rfl) λq ih g m o n p u h k v=>Eq.trans (b:=CP (Vi (λg m o n p u h k v=>(z37 q) (t37 a b f g m o n p u h k v)) a b f) (EY (λg m o n p u h k v=>(z37 q) (t37 a b f g m o n p u h k v)) a b f) (x75 (z37 q) a b f) (FT (FA (x75 (z37 q) a b f) (Vn (x75 (z37 q) a b f) a b f) a b f) a b f) (Vn (x75 (z37 q) a b f) a b f) (x78 (z37 q) a b f) (FD (x77 (z37 q) a b f) a b f) (Fz (λg m o n p u h k v=>(z37 q) (t37 a b f g m o n p u h k v)) a b f) (FO (λg m o n p u h k v=>(z37 q) (t37 a b f g m o n p u h k v)) a b f) a b f g m o n p u h k v) F3 (by rw[Be2];simp only[e75,e78,e77,ih]<;>rfl)
def k:KC_:=kk_ 114 H (u13 Jn) func114 (λx=>Eq.trans (b:=u13 (JD (λa b f g m o n p u h k v=>z37 Bs (t37 a b f g m o n p u h k v))) x) F3 (by simp only[i37,Am]<;>rfl))
end F114
namespace F163
def H:=hd_ [.agg [Ss,Sb,.agg [Si,Si,Si,Si,Si],Sl,Si,Sb,Sz,Si]] [Si] .d [F125.k,⟨(151,Lk),Qj⟩,F152.k] f163
def k:KC_:=kk_ 163 H (u12 OV) func163
end F163
namespace F115
def H:=hd_ [.agg [Ss,Sb,.agg [Si,Si,Si,Si,Si],Sl,Si,Sb,Sz,Si]] [.agg [Ss,Ob 5,.agg [Si,Si,Si,Si,Si],Ol 3,Si,Sb,Sz,Si],Si] .d [F159.k,F162.k,F163.k] f115
def k:KC_:=kk_ 115 H (u12 Qc) func115
end F115
namespace F116
abbrev R_:=(LX×Int)
abbrev K_:=S->Option R_
def H:=hd_ [Si,Sb] [Ow 21,Si] (.q (.q (.q (.q (.q (.q (.cut [10] [] (.q (.blk (.loop [0,1,9,10,11] [⟨10,[],.own 21 (.int .i32)⟩] (.q (.cut [0,1,9,10,11] [] (.blk (.q (.q (.cut [0,1,9,10,11,12] [] (.q (.blk (.loop [0,1,9,10,11,12,53,54] [] .d))) .d)))) .d))))) .d))))))) [F164.k] f116
def t25(a:Int)(b:LB)(f:Int)(g:LX)(k:Int32)(h:Int):S:=⟨[(0,vi a),(1,vb b),(9,vi (Ej a (8:Int))),(10,.own 0),(11,vi f),(12,vx k),(53,vi (Ej a (8:Int))),(54,vi h)],[Aw 21 g],[]⟩
def z25(Kr:K_):ZT_ R_:=H.i P_ [r,r,r,r,r,r,l,r,d,(lp Kr),r,l,d,r,r,l,r,d]
def t16(a:Int)(b:LB)(f:Int)(g:LX):S:=⟨[(0,vi a),(1,vb b),(9,vi (Ej a (8:Int))),(10,.own 0),(11,vi f)],[Aw 21 g],[]⟩
def z16:ZT_ R_:=H.i P_ [r,r,r,r,r,r,l,r,d]
def x25(Kr:K_)(a:Int)(b:LB)(f:Int)(g:LX)(k:Int32)(h:Int):Option R_:=H.e P_ [r,r,r,r,r,r,l,r,d,(lp Kr),r,l,d,r,r,l,r,d] (t25 a b f g k h)
theorem i25(Kr:K_)(a:Int)(b:LB)(f:Int)(g:LX):∀(q:Nat) (k:Int32) (h:Int),z25 Kr q (t25 a b f g k h)=El (λf g=>Kr (t16 a b f g)) a b f g q k h:=
 ind (λ_ _=>by kernel_rfl) λq ih k h=>Eq.trans (b:=Fe (Tu (λf g=>Kr (t16 a b f g)) a b) (λk h=>(z25 Kr q) (t25 a b f g k h)) a b f g k h) F3 (by simp only[ih]<;>rfl)
theorem e25(Kr:K_)(a:Int)(b:LB):x25 Kr a b=Jz (λf g=>Kr (t16 a b f g)) a b:=by funext f g k h;exact Eq.trans F3 ((i25 Kr a b f g Bs k h).trans (by rw[Am];rfl))
theorem i16(a:Int)(b:LB):∀(q:Nat) (f:Int) (g:LX),z16 q (t16 a b f g)=Dx a b q f g:=
 ind (λ_ _=>by kernel_rfl) λq ih f g=>Eq.trans (b:=Fg (Hw (λf g=>(z16 q) (t16 a b f g)) a b) (x25 (z16 q) a b) Aa6 a b f g) F3 (by simp only[e25,ih]<;>rfl)
def k:KC_:=kk_ 116 H (u2 Od) func116 (λx=>Eq.trans (b:=u2 (EX (λa b f g=>z16 Bs (t16 a b f g))) x) F3 (by simp only[i16,Am]<;>rfl))
end F116
namespace F79
def H:=hd_ [Sb,Ss] [.agg [Si,Si,Si,Ow 21],Si] .d [F113.k,F114.k,F115.k,F116.k] f79
def k:KC_:=kk_ 79 H (u2 Py) func79
end F79
namespace F78
abbrev R_:=LB
def H:=hd_ [.agg [Si,Si,Si,Sw],Si] [Ss] (.q (.q (.cut [1,5] [] (.q (.blk (.loop [1,5,9,10,11] [⟨5,[],.own 3 (.int .i64)⟩] .d))) .d))) [F77.k] f78
def t4(a:Int)(b:LX)(g:Int)(f:LI):S:=⟨[(1,vi a),(5,.own 0),(9,vw b),(10,vi (Ad b)),(11,vi g)],[Ai 3 f],[]⟩
def z4:ZT_ R_:=H.i P_ [r,r,l,r,d]
theorem i4(a:Int)(b:LX):∀(q:Nat) (g:Int) (f:LI),z4 q (t4 a b g f)=Lw a b q g f:=
 ind (λ_ _=>by kernel_rfl) λq ih g f=>Eq.trans (b:=Yy Yj (λg f=>(z4 q) (t4 a b g f)) a b g f) F3 (by simp only[ih]<;>rfl)
def k:KC_:=kk_ 78 H (u5 Fx) func78 (λx=>Eq.trans (b:=u5 (Yk (λa b g f=>z4 Bs (t4 a b g f))) x) F3 (by simp only[i4,Am]<;>rfl))
end F78
theorem Bce:ConOk Tryz.prog gl 80 bY:=Bc9 ent80
namespace F220
def H:=hd_ [.agg [Si,Si],Si] [Si] .d [F233.k] f220
def k:KC_:=kk_ 220 H (u3 Amd) func220
end F220
namespace F166
def H:=hd_ [.agg [Si,Si],Si] [Ow 21,Si] .d [F220.k] f166
def k:KC_:=kk_ 166 H (u3 Afa) func166
end F166
namespace F119
def Yw(a b f ah:Int)(ai:LI)(ag:LX):Option (Int×Int×Int×LX×LI×Int):=
if(Bg ah 0)then
some (0,0,0,([]:LX),([]:LI),ah)
else
if(geq (Ad ag) 0)then
some (0,0,0,([]:LX),([]:LI),6)
else
both (
bo (
some (a,b,f,ag,ai,0))) [
some (a,b,f,ag,ai,0)]
theorem Bdu: @Yw= @DE:=by
  unfold Yw DE
  repeat (refine funext λ_=>?_)
  repeat' first
    |with_reducible rfl
    |with_reducible refine Gu ?_ ?_
    |with_reducible refine Gm ?_ ?_ ?_
    |with_reducible refine Gs ?_ ?_ ?_ ?_
    |((with_reducible refine Jj ?_ ?_);focus (intro h;first|(subst h;rfl)|(simp only[h];rfl)|(simp[Bf,Ad,h];done)))
    |with_reducible refine Jm λx=>?_
    |with_reducible refine Nw (λ_=>?_) (λ_=>?_)
    |(refine Ea (λh=>by simp only[h,Ji,Di,De,ite_self]) (λx h=>?_);(try simp only[h,Di]))
    |(refine Ew (λh=>?_) (λh=>?_)<;>simp only[h,if_true,if_false,Bool.false_eq_true])
abbrev R_:=(Int×Int×Int×LX×LI×Int)
abbrev K_:=S->Option R_
def H:=hd_ [Sb,Ss,Si] [.agg [Si,Si,Si,Ow 21],Ol 3,Si] (.q (.q (.q (.q (.q (.q (.q (.cut [6,12,14,15] [⟨14,[],.own 3 (.int .i64)⟩,⟨15,[3],.own 21 (.int .i32)⟩] (.keep [0,1,5,6,12,13,14,15,60,61,62,63,64,66] true) (.q (.q (.seq (.mode false) .d))))))))))) [F85.k,F105.k,F116.k,F154.k,F158.k,F166.k] f119 false [(117,(.q (.q (.q (.q (.q (.cut [6,8] [] (.q (.blk (.loop [0,1,2,6,8,37,38,39] [⟨2,[0],.own 3 (.int .i64)⟩,⟨2,[3,3],.own 21 (.int .i32)⟩] (.q (.q (.cut [0,1,2,6,8,37,38,39] [] (.blk (.q (.q (.q (.cut [0,1,2,6,8,11,12,14,15,37,38,39] [⟨15,[],.own 21 (.int .i32)⟩] .d (.cut [0,1,2,6,8,16,37,38,39] [] (.keep [0,1,2,6,8,11,12,14,15,16,37,38,39,65,66,67,68,69,70,71] true) .d)))))) .d)))))) .d))))))),(165,(.q (.cut [2,7] [] .d .d)))]
def t21(g h:LB)(o:LI)(m k a b f p u n v w y:Int)(aa:LI)(ab:Int)(ad:LI)(ac:LX):S:=⟨[(0,vb g),(1,vs h),(2,.fn 165 [.ptr 0 [],.ptr 1 [],.ptr 2 [],.ptr 3 []]),(6,.ptr 4 []),(8,.ptr 5 []),(37,.own 6),(38,vi (Ad o)),(39,vi ab)],[.box 81 (.own 8),.box 3 (vi k),.box 66 (.agg [vi a,vi b]),.box 42 (.agg [vi a,vi b,vi f,.own 9]),.box 95 (.agg [vi 0,vi 0,vi 0,vi 0,vi 0]),.box 97 (.agg [.agg [vi p,vi u,vi n,vi v,vi w],vi y,.own 10]),Ai 3 o,.box 42 (.agg [vi 0,vi 0,vi 0,.nils]),Ai 3 ad,Aw 21 ac,Ai 3 aa],[[(0,vb g),(1,vs h),(5,.ptr 1 []),(6,.ptr 7 []),(12,vi m),(13,.ptr 2 []),(14,.ptr 0 []),(15,.ptr 3 []),(61,vb g),(62,vs h),(63,.fn 165 [.ptr 0 [],.ptr 1 [],.ptr 2 [],.ptr 3 []])]]⟩
def z21:ZT_ R_:=H.i P_ [r,r,r,r,r,r,r,l,(call 3 117),r,r,r,r,r,l,r,d]
def x40(a b f ah:Int)(ai:LI)(ag:LX):Option R_:=H.e P_ [r,r,r,r,r,r,r,r] ⟨[(6,.ptr 0 []),(12,vi ah),(14,.ptr 1 []),(15,.ptr 2 [])],[.box 42 (.agg [vi 0,vi 0,vi 0,.nils]),.box 81 (.own 3),.box 42 (.agg [vi a,vi b,vi f,.own 4]),Ai 3 ai,Aw 21 ag],[]⟩
theorem e40:x40=Nd:=Eq.trans (b:=Yw) F3 (by rw[Bdu];rfl)
theorem i21(g h:LB)(o:LI)(m k a b f p u n v w y:Int)(aa:LI):∀(q:Nat) (ab:Int) (ad:LI) (ac:LX),z21 q (t21 g h o m k a b f p u n v w y aa ab ad ac)=CI g h o m k a b f p u n v w y aa q ab ad ac:=
 ind (λ_ _ _=>by kernel_rfl) λq ih ab ad ac=>Eq.trans (b:=RA x40 (RB (Tt x40 (Tq (λab ad ac=>(z21 q) (t21 g h o m k a b f p u n v w y aa ab ad ac)) g h o m k a b f p u n v w y aa) g h o m k a b f p u n v w y aa) (QN (Tt x40 (Tq (λab ad ac=>(z21 q) (t21 g h o m k a b f p u n v w y aa ab ad ac)) g h o m k a b f p u n v w y aa) g h o m k a b f p u n v w y aa) g h o m a b f k p u n v w y aa) (RH (Tt x40 (Tq (λab ad ac=>(z21 q) (t21 g h o m k a b f p u n v w y aa ab ad ac)) g h o m k a b f p u n v w y aa) g h o m k a b f p u n v w y aa) g h o m a b f k p u n v w y aa) g h o m k a b f p u n v w y aa) (Aa2 x40) g h o m k a b f p u n v w y aa ab ad ac) F3 (by simp only[e40,ih]<;>rfl)
def k:KC_:=kk_ 119 H (u3 Xg) func119 (λx=>Eq.trans (b:=u3 (Ad5 x40 (λg h o m k a b f p u n v w y aa ab ad ac=>z21 Bs (t21 g h o m k a b f p u n v w y aa ab ad ac))) x) F3 (by simp only[e40,i21,Am]<;>rfl))
end F119
theorem Bg5:ConOk Tryz.prog gl 82 HP:=Bg3 ent82
theorem Bg2:ConOk Tryz.prog gl 93 IQ:=Bgm ent93
namespace F94
abbrev R_:=LB
def H:=hd_ [.lf (.list (.list (.int .u8))) none] [Ob 5] (.q (.q (.cut [0,3] [] (.q (.blk (.loop [0,3,9,10,11] [] .d))) (.cut [0,6] [⟨6,[],.own 5 (.int .u8)⟩] (.keep [0,3,6,23,24] true) (.cut [6] [] (.q (.blk (.loop [6,25,26,27] [] .d))) .d))))) [] f94 true [(141,(.q (.cut [0,1] [] .d .d)))]
def t14(a:List LB)(g:Int)(f:LB):S:=⟨[(6,.own 0),(25,.val (.list (.list (.int .u8))) a),(26,vi (Ad a)),(27,vi g)],[Ab 5 f],[]⟩
def z14:ZT_ R_:=H.i P_ [r,r,r,r,l,r,d]
def t9(a:List LB)(b h:Int):S:=⟨[(0,.val (.list (.list (.int .u8))) a),(3,vi b),(9,.val (.list (.list (.int .u8))) a),(10,vi (Ad a)),(11,vi h)],[],[]⟩
def z9:ZT_ R_:=H.i P_ [r,r,l,r,d]
def x14(a:List LB)(g:Int)(f:LB):Option R_:=H.e P_ [r,r,r,r,l,r,d] (t14 a g f)
theorem i14(a:List LB):∀(q:Nat) (g:Int) (f:LB),z14 q (t14 a g f)=Ch a q g f:=
 ind (λ_ _=>by kernel_rfl) λq ih g f=>Eq.trans (b:=Dm Aap (λg f=>(z14 q) (t14 a g f)) a g f) F3 (by simp only[ih]<;>rfl)
theorem e14:x14=Hk:=by funext a g f;exact Eq.trans F3 ((i14 a Bs g f).trans (by rw[Am];rfl))
theorem i9(a:List LB):∀(q:Nat) (b h:Int),z9 q (t9 a b h)=Cq a q b h:=
 ind (λ_ _=>by kernel_rfl) λq ih b h=>Eq.trans (b:=Ds (Hl (Hn (Hm x14))) (λb h=>(z9 q) (t9 a b h)) a b h) F3 (by simp only[e14,ih]<;>rfl)
def k:KC_:=kk_ 94 H Dj func94 (λx=>Eq.trans (b:=Md (λa b h=>z9 Bs (t9 a b h)) x) F3 (by simp only[i9,Am]<;>rfl))
end F94
theorem Aae:ConOk Tryz.prog gl 58 Vs:=Bfi ent58 (by unfold gl;repeat first|exact List.Mem.head _|apply List.Mem.tail) (by unfold gl;repeat first|exact List.Mem.head _|apply List.Mem.tail) (by unfold gl;repeat first|exact List.Mem.head _|apply List.Mem.tail)
namespace F95
abbrev R_:=((List (UInt8×Int×Unit))×Bool)
def H:=hd_ [.lf (.list .str) none] [.lf (.list (.cons (.int .u8) (.cons (.int .i64) .nil))) (some 193),Sz] (.q (.q (.cut [4] [] (.q (.blk (.loop [4,11,12,13] [⟨4,[],.own 193 (.cons (.int .u8) (.cons (.int .i64) .nil))⟩] .d))) .d))) [F35.k,⟨(58,Vs),Aae⟩] f95
def t4(a:List LB)(f:Int)(b:List (UInt8×Int×Unit)):S:=⟨[(4,.own 0),(11,.val (.list .str) a),(12,vi (Ad a)),(13,vi f)],[.arr 193 (.cons (.int .u8) (.cons (.int .i64) .nil)) b],[]⟩
def z4:ZT_ R_:=H.i P_ [r,r,l,r,d]
theorem i4(a:List LB):∀(q:Nat) (f:Int) (b:List (UInt8×Int×Unit)),z4 q (t4 a f b)=EP a q f b:=
 ind (λ_ _=>by kernel_rfl) λq ih f b=>Eq.trans (b:=Ack Acp (λf b=>(z4 q) (t4 a f b)) a f b) F3 (by simp only[ih]<;>rfl)
def k:KC_:=kk_ 95 H TN func95 (λx=>Eq.trans (b:=Adr (λa f b=>z4 Bs (t4 a f b)) x) F3 (by simp only[i4,Am]<;>rfl))
end F95
theorem Axo:ConOk Tryz.prog gl 142 TJ:=Ay2 ent142
namespace F251
abbrev R_:=Bool
def H:=hd_ [.agg [Sc,Si]] [Sz] (.q (.seq (.q (.blk (.cut [1,4,5] [] .d .d))) .d)) [] f251
def k:KC_:=kk_ 251 H (u2 Atj) func251
end F251
namespace F250
def H:=hd_ [.agg [Sc,Si]] [Sz] .d [F251.k] f250
def k:KC_:=kk_ 250 H (u2 Afw) func250
end F250
namespace F194
abbrev R_:=Int
abbrev K_:=S->Option R_
def H:=hd_ [.lf (.list (.cons (.int .u8) (.cons (.int .i64) .nil))) none] [Si] (.q (.q (.cut [] [] (.cut [7] [] (.keep [7] true) .d) .d))) [F250.k] f194 false [(249,(.q (.cut [4] [] (.keep [4,7,8] true) .d))),(300,(.q (.cut [] [] (.q (.blk (.loop [0,1,7,8] [] (.q (.q (.cut [0,1,7,8] [] (.blk (.q (.cut [0,1,5,7,8,16] [] .d .d))) .d)))))) .d)))]
def t11(a:List (UInt8×Int×Unit))(b:Int):S:=⟨[(0,.val (.list (.cons (.int .u8) (.cons (.int .i64) .nil))) a),(1,.fn 250 []),(7,vi (Ad a)),(8,vi b)],[],[[(4,vt false)],[]]⟩
def z11:ZT_ R_:=H.i P_ [r,r,l,l,(call 1 249),r,l,(call 2 300),r,l,r,d]
theorem i11(a:List (UInt8×Int×Unit)):∀(q:Nat) (b:Int),z11 q (t11 a b)=FH a q b:=
 ind (λ_=>by kernel_rfl) λq ih b=>Eq.trans (b:=Ab8 (Aco (λb=>(z11 q) (t11 a b)) a) Adq a b) F3 (by simp only[ih]<;>rfl)
def k:KC_:=kk_ 194 H Atk func194 (λx=>Eq.trans (b:=Aez (λa b=>z11 Bs (t11 a b)) x) F3 (by simp only[i11,Am]<;>rfl))
end F194
namespace F192
def H:=hd_ [.agg [Ss,Sb,.agg [Si,Si,Si,Si,Si],Sl,Si,Sb,Sz,Si],Si] [.agg [Ss,Ob 5,.agg [Si,Si,Si,Si,Si],Ol 3,Si,Sb,Sz,Si],Ob 5,Si] .d [F127.k,F161.k,F214.k] f192
def k:KC_:=kk_ 192 H (u13 UM) func192
end F192
namespace F143
def Yl(j29:Int->LB->Int->Int->Int->Int->Int->Int->LB->Bool->Int->LB-> (List (Int×LB×Unit))->LB->LI->Option (LB×LB×Int×Int×Int×Int×Int×LI×Int×LB×Bool×Int×(List (Int×LB×Unit))×Int))(b:List (UInt8×Int×Unit))(ac:UInt8×Int×Unit)(a:LB)(ad ab:Int)(f w:LB)(g h k m n:Int)(y:LI)(o:Int)(p:LB)(u:Bool)(v:Int)(ae:LB)(af ag ah ai aj ak:Int)(al:LB)(am:Bool)(an:Int)(aa:List (Int×LB×Unit))(ao:LB)(ap:LI):Option (LB×LB×Int×Int×Int×Int×Int×LI×Int×LB×Bool×Int×(List (Int×LB×Unit))×Int):=
(λfs:Option (LB×LB×Int×Int×Int×Int×Int×LI×Int×LB×Bool×Int×(List (Int×LB×Unit))×Int)=>
bo (
fs)) (
(Cb a (Fy ac.2.1 (Ad a)) (Ad a)).bind λbv=>
(Bf aa ([(ad,([]:LB),())]:List (Int×LB×Unit))).bind λar=>
j29 ab ae af ag ah ai aj ak al am an bv ar ao ap)
theorem Bdv: @Yl= @BP:=by
  unfold Yl BP;simp only[EC,Ti,Tg]
def Zd(j26:(UInt8×Int×Unit)->LB->Int->Int->LB->LB->Int->Int->Int->Int->Int->LI->Int->LB->Bool->Int->LB->Int->Int->Int->Int->Int->Int->LB->Bool->Int-> (List (Int×LB×Unit))->LB->LI->Option (LB×LB×Int×Int×Int×Int×Int×LI×Int×LB×Bool×Int×(List (Int×LB×Unit))×Int))(j33:Int->Int->LB->LB->Int->Int->Int->Int->Int->LI->Int->LB->Bool->Int->LB->LB->Int->Int->Int->Int->Int->Int->LB->Bool->Int->LB-> (List (Int×LB×Unit))->LB->LI->Option (LB×LB×Int×Int×Int×Int×Int×LI×Int×LB×Bool×Int×(List (Int×LB×Unit))×Int))(j34:Int->Int->LB->LB->Int->Int->Int->Int->Int->LI->Int->LB->Bool->Int->LB->LB->Int->Int->Int->Int->Int->Int->LB->Bool->Int-> (List (Int×LB×Unit))->LB->LI->Option (LB×LB×Int×Int×Int×Int×Int×LI×Int×LB×Bool×Int×(List (Int×LB×Unit))×Int))(j29:Int->LB->Int->Int->Int->Int->Int->Int->LB->Bool->Int->LB-> (List (Int×LB×Unit))->LB->LI->Option (LB×LB×Int×Int×Int×Int×Int×LI×Int×LB×Bool×Int×(List (Int×LB×Unit))×Int))(j31:(List (Int×LB×Unit))->LB->Int->Int->Int->Int->Int->Int->LB->Bool->Int->LB->LB->LI->Option (LB×LB×Int×Int×Int×Int×Int×LI×Int×LB×Bool×Int×(List (Int×LB×Unit))×Int))(b:List (UInt8×Int×Unit))(ab:Int)(f:LB)(g h k m n o:Int)(p:LB)(u:Bool)(v:Int)(a:LB)(aa:List (Int×LB×Unit))(w:LB)(y:LI):Option (LB×LB×Int×Int×Int×Int×Int×LI×Int×LB×Bool×Int×(List (Int×LB×Unit))×Int):=
if(Cx ab (Ad b))then
(Af b ab).bind λac=>
if(geq ac.1 1)then
(λbw:Option (LB×LB×Int×Int×Int×Int×Int×LI×Int×LB×Bool×Int×(List (Int×LB×Unit))×Int)=>
(λda:Option (LB×LB×Int×Int×Int×Int×Int×LI×Int×LB×Bool×Int×(List (Int×LB×Unit))×Int)=>
(λdb:Option (LB×LB×Int×Int×Int×Int×Int×LI×Int×LB×Bool×Int×(List (Int×LB×Unit))×Int)=>
both (
da) [
da,
(Cb a 0 (Fy ac.2.1 (Ad a))).bind λaq=>
(λdc:Option (LB×LB×Int×Int×Int×Int×Int×LI×Int×LB×Bool×Int×(List (Int×LB×Unit))×Int)=>
(λdd:Option (LB×LB×Int×Int×Int×Int×Int×LI×Int×LB×Bool×Int×(List (Int×LB×Unit))×Int)=>
(λde:Option (LB×LB×Int×Int×Int×Int×Int×LI×Int×LB×Bool×Int×(List (Int×LB×Unit))×Int)=>
both (
de) [
de,
dd]) (
both (
dd) [
dc])) (
bo (
dc))) (
(Jn f w g h k m n y o p u v aq).bind λ(ae,ao,af,ag,ah,ai,aj,ap,ak,al,am,an,ad)=>
j26 ac a ad ab f w g h k m n y o p u v ae af ag ah ai aj ak al am an aa ao ap),
both (
db) [
db,
(Cb a 0 (Fy ac.2.1 (Ad a))).bind λaq=>
(λft:Option (LB×LB×Int×Int×Int×Int×Int×LI×Int×LB×Bool×Int×(List (Int×LB×Unit))×Int)=>
bo (
ft)) (
(Jn f w g h k m n y o p u v aq).bind λ(ae,ao,af,ag,ah,ai,aj,ap,ak,al,am,an,ad)=>
j26 ac a ad ab f w g h k m n y o p u v ae af ag ah ai aj ak al am an aa ao ap)]]) (
bo (
bw))) (
both (
both (
(Cb a 0 (Fy ac.2.1 (Ad a))).bind λaq=>
(λfu:Option (LB×LB×Int×Int×Int×Int×Int×LI×Int×LB×Bool×Int×(List (Int×LB×Unit))×Int)=>
bo (
fu)) (
(Jn f w g h k m n y o p u v aq).bind λ(ae,ao,af,ag,ah,ai,aj,ap,ak,al,am,an,ad)=>
j26 ac a ad ab f w g h k m n y o p u v ae af ag ah ai aj ak al am an aa ao ap)) [
bw]) [
(Cb a 0 (Fy ac.2.1 (Ad a))).bind λaq=>
(λdf:Option (LB×LB×Int×Int×Int×Int×Int×LI×Int×LB×Bool×Int×(List (Int×LB×Unit))×Int)=>
both (
bo (
df)) [
df]) (
(Jn f w g h k m n y o p u v aq).bind λ(ae,ao,af,ag,ah,ai,aj,ap,ak,al,am,an,ad)=>
j26 ac a ad ab f w g h k m n y o p u v ae af ag ah ai aj ak al am an aa ao ap),
bo (
bw)])) (
(Cb a 0 (Fy ac.2.1 (Ad a))).bind λaq=>
(Jn f w g h k m n y o p u v aq).bind λ(ae,ao,af,ag,ah,ai,aj,ap,ak,al,am,an,ad)=>
j26 ac a ad ab f w g h k m n y o p u v ae af ag ah ai aj ak al am an aa ao ap)
else
if(geq ac.1 2)then
(λdg:Option (LB×LB×Int×Int×Int×Int×Int×LI×Int×LB×Bool×Int×(List (Int×LB×Unit))×Int)=>
(λdh:Option (LB×LB×Int×Int×Int×Int×Int×LI×Int×LB×Bool×Int×(List (Int×LB×Unit))×Int)=>
(λdi:Option (LB×LB×Int×Int×Int×Int×Int×LI×Int×LB×Bool×Int×(List (Int×LB×Unit))×Int)=>
both (
di) [
di,
dh]) (
both (
dh) [
dg])) (
bo (
dg))) (
(UM f w g h k m n y o p u v ac.2.1).bind λ(av,ar,aw,ax,ay,az,ba,bg,bb,bc,bd,be,bf,au)=>
j33 au ab f w g h k m n y o p u v a av aw ax ay az ba bb bc bd be bf aa ar bg)
else
if(geq ac.1 3)then
(λdj:Option (LB×LB×Int×Int×Int×Int×Int×LI×Int×LB×Bool×Int×(List (Int×LB×Unit))×Int)=>
(λdk:Option (LB×LB×Int×Int×Int×Int×Int×LI×Int×LB×Bool×Int×(List (Int×LB×Unit))×Int)=>
(λdl:Option (LB×LB×Int×Int×Int×Int×Int×LI×Int×LB×Bool×Int×(List (Int×LB×Unit))×Int)=>
both (
dl) [
dl,
dk]) (
both (
dk) [
dj])) (
bo (
dj))) (
(Qc f w g h k m n y o p u v).bind λ(bi,bt,bj,bk,bl,bm,bn,bu,bp,bq,br,bs,bh)=>
j34 bh ab f w g h k m n y o p u v a bi bj bk bl bm bn bp bq br bs aa bt bu)
else
j29 ab f g h k m n o p u v a aa w y
else
j31 aa f g h k m n o p u v a w y
theorem Bdx: @Zd= @DL:=by
  unfold Zd DL
  try simp only[EC,Ti,Tg]
  all_goals
    repeat (refine funext λ_=>?_)
    repeat' first
      |with_reducible rfl
      |with_reducible refine Gu ?_ ?_
      |with_reducible refine Gm ?_ ?_ ?_
      |with_reducible refine Gs ?_ ?_ ?_ ?_
      |((with_reducible refine Jj ?_ ?_);focus (intro h;first|(subst h;rfl)|(simp only[h];rfl)|(simp[Bf,Ad,h];done)))
      |with_reducible refine Jm λx=>?_
      |with_reducible refine Nw (λ_=>?_) (λ_=>?_)
      |(refine Ea (λh=>by simp only[h,Ji,Di,De,ite_self]) (λx h=>?_);(try simp only[h,Di]))
      |(refine Ew (λh=>?_) (λh=>?_)<;>simp only[h,if_true,if_false,Bool.false_eq_true])
abbrev R_:=(LB×LB×Int×Int×Int×Int×Int×LI×Int×LB×Bool×Int×(List (Int×LB×Unit))×Int)
abbrev K_:=S->Option R_
def H:=hd_ [Ss,Sb,.lf (.list (.cons (.int .u8) (.cons (.int .i64) .nil))) none] [.agg [Ss,Ob 5,.agg [Si,Si,Si,Si,Si],Ol 3,Si,Sb,Sz,Si],.lf (.list (.cons (.int .i64) (.cons (.list (.int .u8)) .nil))) (some 199),Si] (.q (.q (.q (.q (.q (.cut [6,12,13] [] (.keep [6,12,13,35] true) .d)))))) [F113.k,F114.k,F115.k,F192.k,F194.k] f143 false [(195,(.q (.q (.q (.cut [6] [] (.q (.blk (.loop [5,6,19,20,21] [⟨5,[0,0,5],.ro (.int .u8)⟩,⟨6,[],.own 199 (.cons (.int .i64) (.cons (.list (.int .u8)) .nil))⟩] (.q (.q (.cut [5,6,19,20,21] [] (.blk (.q (.q (.q (.cond (.keep [5,6,19,20,21,33,37,38,39] true) .d))))) .d)))))) .d))))),(252,(.q (.q (.cut [0,1,4,5,6] [] (.mode false) (.seq (.mode false) .d))))),(253,(.q (.cut [0,4,5,6,7] [] (.mode false) .d))),(254,(.q (.cut [0,4,5,6] [] (.mode false) .d)))]
def t17(b:List (UInt8×Int×Unit))(ab:Int)(f:LB)(g h k m n o:Int)(p:LB)(u:Bool)(v:Int)(a:LB)(aa:List (Int×LB×Unit))(w:LB)(y:LI):S:=⟨[(5,.mp false [[1],[2],[3]] [.bfn 252 [.ptr 0 []],.bfn 253 [.ptr 0 []],.bfn 254 [.ptr 0 []]]),(6,.own 1),(19,.val (.list (.cons (.int .u8) (.cons (.int .i64) .nil))) b),(20,vi (Ad b)),(21,vi ab)],[.box 258 (.agg [.agg [vs f,.own 3,.agg [vi g,vi h,vi k,vi m,vi n],.own 4,vi o,vb p,vt u,vi v],.fn 114 [],.fn 115 [],.fn 192 [],vb a]),.arr 199 (.cons (.int .i64) (.cons (.list (.int .u8)) .nil)) aa,.box 148 (.agg [vs ([]:LB),.nils,.agg [vi 0,vi 0,vi 0,vi 0,vi 0],.nils,vi 0,.nils,vt false,vi 0]),Ab 5 w,Ai 3 y],[[(6,.ptr 2 []),(12,.ptr 0 [])]]⟩
def z17:ZT_ R_:=H.i P_ [r,r,r,r,r,l,(call 2 195),r,r,r,l,r,d]
def x26(Zr:K_)(b:List (UInt8×Int×Unit))(ac:UInt8×Int×Unit)(a:LB)(ad ab:Int)(f w:LB)(g h k m n:Int)(y:LI)(o:Int)(p:LB)(u:Bool)(v:Int)(ae:LB)(af ag ah ai aj ak:Int)(al:LB)(am:Bool)(an:Int)(aa:List (Int×LB×Unit))(ao:LB)(ap:LI):Option R_:=H.e P_ [r,r,r,r,r,l,(call 2 195),r,r,r,l,r,d,(lp Zr),r,r,l,d,r,r,r,l,(call 4 252),r,r,r] ⟨[(0,.ptr 0 []),(1,vi (Fy ac.2.1 (Ad a))),(4,.ptr 1 []),(5,.ptr 2 []),(6,vi ad)],[.box 258 (.agg [.agg [vs f,vb w,.agg [vi g,vi h,vi k,vi m,vi n],vl y,vi o,vb p,vt u,vi v],.fn 114 [],.fn 115 [],.fn 192 [],vb a]),.box 199 (.agg [vi 0,.nils]),.box 148 (.agg [vs ae,.own 5,.agg [vi af,vi ag,vi ah,vi ai,vi aj],.own 6,vi ak,vb al,vt am,vi an]),.arr 199 (.cons (.int .i64) (.cons (.list (.int .u8)) .nil)) aa,.box 148 (.agg [vs ([]:LB),.nils,.agg [vi 0,vi 0,vi 0,vi 0,vi 0],.nils,vi 0,.nils,vt false,vi 0]),Ab 5 ao,Ai 3 ap],[[(5,.mp false [[1],[2],[3]] [.bfn 252 [.ptr 0 []],.bfn 253 [.ptr 0 []],.bfn 254 [.ptr 0 []]]),(6,.own 3),(19,.val (.list (.cons (.int .u8) (.cons (.int .i64) .nil))) b),(20,vi (Ad b)),(21,vi ab),(33,.own 3)],[(6,.ptr 4 []),(12,.ptr 0 [])]]⟩
theorem e26(Zr:K_)(b:List (UInt8×Int×Unit)):x26 Zr b=Aa9 (λab f g h k m n o p u v a aa w y=>Zr (t17 b ab f g h k m n o p u v a aa w y)) b:=Eq.trans (b:=Yl (Kf (λab f g h k m n o p u v a aa w y=>Zr (t17 b ab f g h k m n o p u v a aa w y)) b) b) F3 (by rw[Bdv];rfl)
theorem i17(b:List (UInt8×Int×Unit)):∀(q:Nat) (ab:Int) (f:LB) (g h k m n o:Int) (p:LB) (u:Bool) (v:Int) (a:LB) (aa:List (Int×LB×Unit)) (w:LB) (y:LI),z17 q (t17 b ab f g h k m n o p u v a aa w y)=Ke b q ab f g h k m n o p u v a aa w y:=
 ind (λ_ _ _ _ _ _ _ _ _ _ _ _ _ _ _=>by kernel_rfl) λq ih ab f g h k m n o p u v a aa w y=>Eq.trans (b:=Zd (x26 (z17 q) b) (RX (λab f g h k m n o p u v a aa w y=>(z17 q) (t17 b ab f g h k m n o p u v a aa w y)) b) (QM (λab f g h k m n o p u v a aa w y=>(z17 q) (t17 b ab f g h k m n o p u v a aa w y)) b) (Kf (λab f g h k m n o p u v a aa w y=>(z17 q) (t17 b ab f g h k m n o p u v a aa w y)) b) RT b ab f g h k m n o p u v a aa w y) F3 (by rw[Bdx];simp only[e26,ih]<;>rfl)
def k:KC_:=kk_ 143 H (u3 TS) func143 (λx=>Eq.trans (b:=u3 (Abg (λb ab f g h k m n o p u v a aa w y=>z17 Bs (t17 b ab f g h k m n o p u v a aa w y))) x) F3 (by simp only[i17,Am]<;>rfl))
end F143
theorem Bgy:ConOk Tryz.prog gl 84 LH:=Bhe ent84
namespace F86
abbrev R_:=(LB×Int)
abbrev K_:=S->Option R_
def H:=hd_ [Sb,Ss,Si] [Ob 5,Si] (.q (.cut [0,2,8,9,10,11] [] (.keep [0,1,2,8,9,10,11,18,19,20,21,22,23,24,25] true) (.q (.q (.q (.cut [0,10,12] [] (.q (.blk (.loop [0,8,9,10,12,13] [⟨12,[],.own 5 (.int .u8)⟩] (.q (.cut [0,8,9,10,12,13] [] (.blk (.cut [0,8,9,10,12,13,14,15] [⟨14,[],.own 5 (.int .u8)⟩] (.keep [0,8,9,10,12,13,14,15,42,43,44,45,46,47] true) .d)) .d))))) .d)))))) [F105.k,F125.k,F132.k,F154.k,F171.k,F172.k,F174.k] f86 false [(124,.d),(173,(.q (.cut [0,3,4,5,6,10,11] [] .d (.q (.cut [4,12,13] [] .d .d)))))]
def t19(a:LB)(y:Int):S:=⟨[(0,vb a),(8,.cst .nilFunc),(9,vi 0),(10,vi 0),(12,.own 0),(13,vi y)],[Ab 5 ([]:LB)],[]⟩
def z19:ZT_ R_:=H.i P_ [r,r,r,r,r,l,r,d]
def t22(a:LB)(f:LI)(b k n m h o p:Int)(u:LX)(v g:LI)(w:Int)(aa:LB):S:=⟨[(0,vb a),(8,.fn 173 [.ptr 0 [],.ptr 1 [],.ptr 2 [],.ptr 3 [],.ptr 4 [],.ptr 5 []]),(9,vi (Ad f)),(10,vi (Ae b k)),(12,.own 6),(13,vi w)],[.box 97 (.agg [.agg [vi n,vi m,vi h,vi o,vi p],vi b,.own 7]),.box 81 (.own 8),.box 29 (vb a),.box 66 (.agg [vi m,vi h]),.box 232 (.val (.vec 16 (.int .i32)) u),.box 81 (.own 9),Ab 5 aa,Ai 3 v,Ai 3 g,Ai 3 f],[]⟩
def z22:ZT_ R_:=H.i P_ [r,r,r,r,r,l,r,d]
theorem i19(a:LB)(y:Int):∀(q:Nat),z19 q (t19 a y)=Af5 a y q:=
 ind F3 λq ih=>Eq.trans (b:=Aei Aek a y) F3 rfl
theorem i22(a:LB)(f:LI)(b k n m h o p:Int)(u:LX)(v g:LI):∀(q:Nat) (w:Int) (aa:LB),z22 q (t22 a f b k n m h o p u v g w aa)=Mz a f b k n m h o p u v g q w aa:=
 ind (λ_ _=>by kernel_rfl) λq ih w aa=>Eq.trans (b:=Xr (IW (λw aa=>(z22 q) (t22 a f b k n m h o p u v g w aa)) b a f k m h u n o p v g) HY a f b k n m h o p u v g w aa) F3 (by simp only[ih]<;>rfl)
def k:KC_:=kk_ 86 H (u3 Ug) func86 (λx=>Eq.trans (b:=u3 (MY (Af3 (λa y=>z19 Bs (t19 a y))) (IA (λa f b k n m h o p u v g w aa=>z22 Bs (t22 a f b k n m h o p u v g w aa)))) x) F3 (by simp only[i19,i22,Am]<;>rfl))
end F86
theorem Be0:ConOk Tryz.prog gl 87 lD:=Beg ent87
namespace F88
def H:=hd_ [Sb,Si,Sc] [Ob 5,Si] .d [F127.k] f88
def k:KC_:=kk_ 88 H (u3 Au9) func88
end F88
theorem Ax8:ConOk Tryz.prog gl 89 OS:=Bhf ent89
theorem Az9:ConOk Tryz.prog gl 90 TK:=Ay9 ent90
namespace F242
def H:=hd_ [.agg [Si,Si,Si,Sw]] [.agg [Si,Si]] .d [] f242
def k:KC_:=kk_ 242 H (u4 OR) func242
end F242
namespace F179
def H:=hd_ [.agg [Si,Si,Si,Sw],Si] [Si] .d [F177.k,F233.k,F242.k] f179
def k:KC_:=kk_ 179 H (u5 FN) func179
end F179
namespace F131
def H:=hd_ [.agg [Si,Si,Si,Sw]] [Si] .d [F179.k,F180.k] f131
def k:KC_:=kk_ 131 H (u4 Fa) func131
end F131
namespace F181
def H:=hd_ [.agg [Si,Si],Si,Ss] [Si,Sz] .d [F178.k,F233.k] f181
def k:KC_:=kk_ 181 H (u4 Xk) func181
end F181
namespace F133
def H:=hd_ [.agg [Si,Si],Si,Ss] [.agg [.agg [Si,Si],Si,Ss,Ob 5,Ow 21,.lf (.list (.list (.int .u8))) (some 29),Ob 5,Sz,Si],Si] .d [F181.k] f133
def k:KC_:=kk_ 133 H (u4 SB) func133
end F133
namespace F183
def H:=hd_ [.agg [Si,Si]] [Si] .d [] f183
def k:KC_:=kk_ 183 H (u2 DD) func183
end F183
namespace F186
def H:=hd_ [.agg [.agg [Si,Si],Si,Ss,Sb,Sw,.lf (.list (.list (.int .u8))) none,Sb,Sz,Si],Si] [Si] .d [] f186
def k:KC_:=kk_ 186 H (u11 Sp) func186
end F186
namespace F185
def H:=hd_ [.agg [.agg [Si,Si],Si,Ss,Sb,Sw,.lf (.list (.list (.int .u8))) none,Sb,Sz,Si],Si,Si] [Sz] .d [] f185
def k:KC_:=kk_ 185 H (u12 Ro) func185
end F185
namespace F293
abbrev R_:=Bool
abbrev K_:=S->Option R_
def H:=hd_ [.agg [.agg [Si,Si],Si,Ss,Sb,Sw,.lf (.list (.list (.int .u8))) none,Sb,Sz,Si],Si] [Sz] (.q (.q (.cut [1,2,5] [] .d (.q (.q (.cut [1,2,5,6] [] .d (.cut [1,2,5] [] .d (.q (.cut [4] [] (.keep [4,80,81] true) .d))))))))) [F180.k,F183.k,F185.k,F186.k] f293 false [(330,(.q (.cut [4] [] (.keep [4,7,8] true) .d))),(331,.d),(355,(.q (.cut [] [] (.q (.blk (.loop [0,1,7,8] [] (.q (.q (.cut [0,1,7,8] [] (.blk (.q (.cut [0,1,5,7,8,16] [] (.keep [0,1,5,7,8,16] true) .d))) .d)))))) .d)))]
def t16(b:List LB)(f a h:Int):S:=⟨[(0,.val (.list (.list (.int .u8))) b),(1,.fn 331 [.ptr 0 []]),(7,vi (Ad b)),(8,vi h)],[.box 3 (vi (Ae (Ej (Ae (Cm (Cm (81:Int) f) a) (7:Int)) (8:Int)) (4:Int)))],[[(4,vt false)],[]]⟩
def z16:ZT_ R_:=H.i P_ [r,r,r,r,r,r,r,r,l,(call 3 330),r,l,(call 2 355),r,l,r,d]
def x13(f a k o:Int)(p m:LB)(g:LX)(b:List LB)(n:LB)(u:Bool)(v:Int):Option R_:=H.e P_ [r,r,r] ⟨[(1,vi f),(2,.ptr 0 []),(5,vi a)],[.box 180 (.agg [.agg [vi a,vi k],vi o,vs p,vb m,vw g,.val (.list (.list (.int .u8))) b,vb n,vt u,vi v])],[]⟩
theorem i16(b:List LB)(f a:Int):∀(q:Nat) (h:Int),z16 q (t16 b f a h)=If b f a q h:=
 ind (λ_=>by kernel_rfl) λq ih h=>Eq.trans (b:=Oj (Wi (λh=>(z16 q) (t16 b f a h)) b f a) JM b f a h) F3 (by simp only[ih]<;>rfl)
theorem e13:x13=Wd:=Eq.trans (b:=Wp (Oq (Ok (λb f a h=>z16 Bs (t16 b f a h))))) F3 (by simp only[i16,Am]<;>rfl)
def k:KC_:=kk_ 293 H (u11 Yd) func293 (λx=>Eq.trans (b:=u11 (Yq x13) x) F3 (by simp only[e13]<;>rfl))
end F293
namespace F243
def H:=hd_ [.agg [.agg [Si,Si],Si,Ss,Sb,Sw,.lf (.list (.list (.int .u8))) none,Sb,Sz,Si]] [Si] .d [F181.k,F293.k] f243
def k:KC_:=kk_ 243 H (u10 GJ) func243
end F243
namespace F244
abbrev R_:=(Int×Int×Int×LB×LB×LX×(List LB)×LB×Bool×Int)
def H:=hd_ [.agg [.agg [Si,Si],Si,Ss,Sb,Sw,.lf (.list (.list (.int .u8))) none,Sb,Sz,Si]] [.agg [.agg [Si,Si],Si,Ss,Ob 5,Ow 21,.lf (.list (.list (.int .u8))) (some 29),Ob 5,Sz,Si]] (.q (.cut [1,2] [] .d (.q (.q (.cut [1,2,3] [] (.q (.blk (.loop [1,2,3,26,27] [] .d))) .d))))) [F83.k,F294.k] f244
def t6(w a:List LB)(b f g:Int)(h:LB)(k:Bool)(m:Int)(n:LB)(o:LX)(p:LB)(v:Int)(u:List LB):S:=⟨[(1,.ptr 0 []),(2,.ptr 1 []),(3,.own 2),(26,vi (Ad (JT w a))),(27,vi v)],[.box 180 (.agg [.agg [vi b,vi f],vi g,vs h,.own 3,.own 4,.val (.list (.list (.int .u8))) a,.own 5,vt k,vi m]),.box 180 (.agg [.agg [vi 0,vi 0],vi 0,vs ([]:LB),.nils,.nils,.nils,.nils,vt false,vi 0]),.arr 29 (.list (.int .u8)) u,Ab 5 n,Aw 21 o,Ab 5 p],[]⟩
def z6:ZT_ R_:=H.i P_ [r,r,r,r,l,r,d]
theorem i6(w a:List LB)(b f g:Int)(h:LB)(k:Bool)(m:Int)(n:LB)(o:LX)(p:LB):∀(q:Nat) (v:Int) (u:List LB),z6 q (t6 w a b f g h k m n o p v u)=Mw w a b f g h k m n o p q v u:=
 ind (λ_ _=>by kernel_rfl) λq ih v u=>Eq.trans (b:=Xu Aeq (λv u=>(z6 q) (t6 w a b f g h k m n o p v u)) w a b f g h k m n o p v u) F3 (by simp only[ih]<;>rfl)
def k:KC_:=kk_ 244 H (u10 KB) func244 (λx=>Eq.trans (b:=u10 (ID (HV (λw a b f g h k m n o p v u=>z6 Bs (t6 w a b f g h k m n o p v u)))) x) F3 (by simp only[i6,Am]<;>rfl))
end F244
namespace F182
abbrev R_:=(Int×Int×Int×LB×LB×LX×(List LB)×LB×Bool×Int×Int×Int)
def H:=hd_ [.agg [.agg [Si,Si],Si,Ss,Sb,Sw,.lf (.list (.list (.int .u8))) none,Sb,Sz,Si]] [.agg [.agg [Si,Si],Si,Ss,Ob 5,Ow 21,.lf (.list (.list (.int .u8))) (some 29),Ob 5,Sz,Si],Si,Si] (.q (.q (.q (.cut [1,2,6,7] [] .d .d)))) [F178.k,F243.k,F244.k] f182
def k:KC_:=kk_ 182 H (u10 Xe) func182
end F182
namespace F332
def H:=hd_ [.agg [Si,Si],Sw] [Si] .d [F180.k,F233.k] f332
def k:KC_:=kk_ 332 H (u3 GC) func332
end F332
namespace F333
abbrev R_:=(LX×Int)
abbrev K_:=S->Option R_
def H:=hd_ [Si,Sw] [Ow 21,Si] (.q (.q (.q (.cut [7] [] (.q (.blk (.loop [0,7,8] [] (.q (.cut [0,7,8] [] (.blk (.keep [0,7,8,24,25,26,27,28,29] true)) .d))))) .d)))) [F294.k,F328.k] f333 true [(356,(.q (.cut [0,2] [] (.q (.blk (.loop [0,2,7,8] [] .d))) .d)))]
def t17(b a f:Int)(g:LX):S:=⟨[(0,.view true 0 [] (.int .i32) a ((Ae a b)-a)),(2,vi (Ap ((Ae a b)-a) (1:Int))),(7,vi (Ap ((Ae a b)-a) (1:Int))),(8,vi f)],[Aw 21 g],[[(0,vi b),(7,.own 0),(8,vi a),(24,.own 0),(25,vi a),(26,vi a),(27,vi b),(28,vi (Ae a b)),(29,.view true 0 [] (.int .i32) a ((Ae a b)-a))]]⟩
def z17(JL:K_):ZT_ R_:=H.i P_ [r,r,r,l,r,d,(lp JL),r,l,d,(call 6 356),r,l,r,d]
def t12(b a:Int)(h:LX):S:=⟨[(0,vi b),(7,.own 0),(8,vi a)],[Aw 21 h],[]⟩
def z12:ZT_ R_:=H.i P_ [r,r,r,l,r,d]
def x17(JL:K_)(b a f:Int)(g:LX):Option R_:=H.e P_ [r,r,r,l,r,d,(lp JL),r,l,d,(call 6 356),r,l,r,d] (t17 b a f g)
theorem i17(JL:K_)(b a:Int):∀(q:Nat) (f:Int) (g:LX),z17 JL q (t17 b a f g)=AN (λa h=>JL (t12 b a h)) b a q f g:=
 ind (λ_ _=>by kernel_rfl) λq ih f g=>Eq.trans (b:=RF (lE (λa h=>JL (t12 b a h)) b) (λf g=>(z17 JL q) (t17 b a f g)) b a f g) F3 (by simp only[ih]<;>rfl)
theorem e17(JL:K_)(b:Int):x17 JL b=Auw (λa h=>JL (t12 b a h)) b:=by funext a f g;exact Eq.trans F3 ((i17 JL b a Bs f g).trans (by rw[Am];rfl))
theorem i12(b:Int):∀(q:Nat) (a:Int) (h:LX),z12 q (t12 b a h)=AG b q a h:=
 ind (λ_ _=>by kernel_rfl) λq ih a h=>Eq.trans (b:=kU (x17 (z12 q) b) Auj b a h) F3 (by simp only[e17,ih]<;>rfl)
def k:KC_:=kk_ 333 H (u2 D8) func333 (λx=>Eq.trans (b:=u2 (pP (λb a h=>z12 Bs (t12 b a h))) x) F3 (by simp only[i12,Am]<;>rfl))
end F333
namespace F357
def H:=hd_ [.agg [Si,.lf (.vec 16 (.int .i32)) none,.lf (.vec 16 (.int .i32)) none],Sx] [Sx,.agg [Si,.lf (.vec 16 (.int .i32)) none,.lf (.vec 16 (.int .i32)) none],Si] .d [F353.k,F354.k] f357
def k:KC_:=kk_ 357 H (u4 RQ) func357
end F357
namespace F334
def DX(a:Int)(b:Int32)(f:Int)(g h:LX)(k:Int32):Option (Int32×Int×Int32×Int×LX×LX×Int):=
(Us a b f g h).bind λm=>
if(Bg m 0)then
some (0,0,0,0,(List.replicate 16 (0:Int32)),(List.replicate 16 (0:Int32)),m)
else
(Uw a b).bind λ(n,y)=>
(RQ f g h (Ap k n)).bind λ(o,p,u,v,w)=>
bo (
some (o,a,k,p,u,v,w))
theorem Be4: @DX= @Ta:=by
  unfold DX Ta;simp only[EC,Ti,Tg]
def H:=hd_ [.agg [Si,Sx,.agg [Si,.lf (.vec 16 (.int .i32)) none,.lf (.vec 16 (.int .i32)) none]],Sx] [Sx,.agg [Si,Sx,.agg [Si,.lf (.vec 16 (.int .i32)) none,.lf (.vec 16 (.int .i32)) none]],Si] (.q (.q (.q (.q (.seq (.mode false) .d))))) [F325.k,F326.k,F357.k] f334
def k:KC_:=kk_ 334 H (u6 Ta) func334 (λx=>Eq.trans (b:=u6 DX x) F3 (by simp only[Be4]<;>rfl))
end F334
namespace F335
def H:=hd_ [Sx] [Su] .d [] f335
def k:KC_:=kk_ 335 H mN func335
end F335
namespace F295
abbrev R_:=(LU×Int)
def H:=hd_ [.agg [Si,Si],.lf (.vec 16 (.int .i32)) none,Sw] [Ov 122,Si] (.q (.q (.q (.q (.q (.cut [3,9,11] [] (.q (.blk (.loop [3,4,9,11,36] [] .d))) (.q (.cut [13] [] (.q (.blk (.loop [3,11,13,49,50,51] [⟨13,[],.own 122 (.int .u32)⟩] .d))) .d)))))))) [F289.k,F332.k,F333.k,F334.k,F335.k] f295
def t10(b:LX)(a f g:Int)(k:List (Int×Int32×(Int×LX×LX×Unit)×Unit))(h:LU):S:=⟨[(3,.ptr 0 []),(11,.ptr 1 []),(13,.own 2),(49,.own 3),(50,vi (Ad b)),(51,vi g)],[.box 66 (.agg [vi a,vi f]),.box 373 (.val (.vec 6 (.cons (.int .i64) (.cons (.int .i32) (.cons (.cons (.int .i64) (.cons (.vec 16 (.int .i32)) (.cons (.vec 16 (.int .i32)) .nil))) .nil)))) k),Av 122 h,Aw 21 b],[]⟩
def z10:ZT_ R_:=H.i P_ [r,r,r,r,r,r,r,l,r,d]
def t7(a f:Int)(n b:LX)(o:Int)(m:List (Int×Int32×(Int×LX×LX×Unit)×Unit)):S:=⟨[(3,.ptr 0 []),(4,.ptr 1 []),(9,.own 2),(11,.ptr 3 []),(36,vi o)],[.box 66 (.agg [vi a,vi f]),.box 232 (.val (.vec 16 (.int .i32)) n),Aw 21 b,.box 373 (.val (.vec 6 (.cons (.int .i64) (.cons (.int .i32) (.cons (.cons (.int .i64) (.cons (.vec 16 (.int .i32)) (.cons (.vec 16 (.int .i32)) .nil))) .nil)))) m)],[]⟩
def z7:ZT_ R_:=H.i P_ [r,r,r,r,r,l,r,d]
def x10(b:LX)(a f g:Int)(k:List (Int×Int32×(Int×LX×LX×Unit)×Unit))(h:LU):Option R_:=H.e P_ [r,r,r,r,r,r,r,l,r,d] (t10 b a f g k h)
theorem i10(b:LX)(a f:Int):∀(q:Nat) (g:Int) (k:List (Int×Int32×(Int×LX×LX×Unit)×Unit)) (h:LU),z10 q (t10 b a f g k h)=It b a f q g k h:=
 ind (λ_ _ _=>by kernel_rfl) λq ih g k h=>Eq.trans (b:=Rb QD (λg k h=>(z10 q) (t10 b a f g k h)) b a f g k h) F3 (by simp only[ih]<;>rfl)
theorem e10:x10=NN:=by funext b a f g k h;exact Eq.trans F3 ((i10 b a f Bs g k h).trans (by rw[Am];rfl))
theorem i7(a f:Int)(n b:LX):∀(q:Nat) (o:Int) (m:List (Int×Int32×(Int×LX×LX×Unit)×Unit)),z7 q (t7 a f n b o m)=CR a f n b q o m:=
 ind (λ_ _=>by kernel_rfl) λq ih o m=>Eq.trans (b:=Aa5 (RG x10) (λo m=>(z7 q) (t7 a f n b o m)) a f n b o m) F3 (by simp only[e10,ih]<;>rfl)
def k:KC_:=kk_ 295 H (u4 BJ) func295 (λx=>Eq.trans (b:=u4 (DB (λa f n b o m=>z7 Bs (t7 a f n b o m))) x) F3 (by simp only[i7,Am]<;>rfl))
end F295
namespace F296
abbrev R_:=((List (Int×Int×UInt64×UInt64×Unit)))
def H:=hd_ [] [.lf (.vec 6 (.cons (.int .i64) (.cons (.int .i64) (.cons (.int .u64) (.cons (.int .u64) .nil))))) none] (.q (.q (.cut [0,1] [] (.q (.blk (.loop [0,1,3] [] .d))) .d))) [F284.k] f296
def t4(b:Int)(a:List (Int×Int×UInt64×UInt64×Unit)):S:=⟨[(0,.ptr 0 []),(1,.ptr 1 []),(3,vi b)],[.box 362 (.val (.vec 6 (.cons (.int .i64) (.cons (.int .i64) (.cons (.int .u64) (.cons (.int .u64) .nil))))) (List.replicate 6 ((0:Int),(0:Int),(0:UInt64),(0:UInt64),()))),.box 362 (.val (.vec 6 (.cons (.int .i64) (.cons (.int .i64) (.cons (.int .u64) (.cons (.int .u64) .nil))))) a)],[]⟩
def z4:ZT_ R_:=H.i P_ [r,r,l,r,d]
theorem i4:∀(q:Nat) (b:Int) (a:List (Int×Int×UInt64×UInt64×Unit)),z4 q (t4 b a)=DR q b a:=
 ind (λ_ _=>by kernel_rfl) λq ih b a=>Eq.trans (b:=RM QV (λb a=>(z4 q) (t4 b a)) b a) F3 (by simp only[ih]<;>rfl)
def k:KC_:=kk_ 296 H (λ_=>DC) func296 (λx=>Eq.trans (b:=BU (λb a=>z4 Bs (t4 b a))) F3 (by simp only[i4,Am]<;>rfl))
end F296
namespace F358
def H:=hd_ [.agg [Sb,Si]] [.agg [Ob 5,Si]] .d [F83.k] f358
def k:KC_:=kk_ 358 H (u2 VO) func358
end F358
namespace F337
abbrev R_:=(LB×Int×Int)
abbrev K_:=S->Option R_
def H:=hd_ [.agg [Sb,Si],Sq,Si] [.agg [Ob 5,Si],Si] (.q (.q (.q (.cut [3,6] [] (.keep [1,2,3,6,40,41] true) .d)))) [F287.k,F358.k] f337 false [(320,(.blk (.loop [0,1,2] [] (.q (.blk (.cut [0,1,2] [] .d (.q (.cut [0,1,2,7] [] .d .d))))))))]
def t15(b:UInt64)(a:Int)(m:UInt64)(h f:Int)(o:LB):S:=⟨[(0,.ptr 0 []),(1,vq m),(2,vi h)],[.box 303 (.agg [.own 2,vi f]),.box 303 (.agg [.nils,vi 0]),Ab 5 o],[[(1,vq b),(2,vi a),(3,.ptr 0 []),(6,.ptr 1 []),(40,vq b),(41,vi a)]]⟩
def z15:ZT_ R_:=H.i P_ [r,r,r,l,(call 2 320),d]
def t22(b:UInt64)(a:Int)(n:UInt64)(k g:Int)(p:LB):S:=⟨[(0,.ptr 0 []),(1,vq n),(2,vi k)],[.box 303 (.agg [.own 2,vi g]),.box 303 (.agg [.nils,vi 0]),Ab 5 p],[[(1,vq b),(2,vi a),(3,.ptr 0 []),(6,.ptr 1 []),(40,vq b),(41,vi a)]]⟩
def z22:ZT_ R_:=H.i P_ [r,r,r,l,(call 2 320),d]
theorem i15(b:UInt64)(a:Int):∀(q:Nat) (m:UInt64) (h f:Int) (o:LB),z15 q (t15 b a m h f o)=Np b a q m h f o:=
 ind (λ_ _ _ _=>by kernel_rfl) λq ih m h f o=>Eq.trans (b:=KG (KS (λm h f o=>(z15 q) (t15 b a m h f o)) b a) aQ b a m h f o) F3 (by simp only[ih]<;>rfl)
theorem i22(b:UInt64)(a:Int):∀(q:Nat) (n:UInt64) (k g:Int) (p:LB),z22 q (t22 b a n k g p)=cE b a q n k g p:=
 ind (λ_ _ _ _=>by kernel_rfl) λq ih n k g p=>Eq.trans (b:=Ar1 (Anw (λn k g p=>(z22 q) (t22 b a n k g p)) b a) Atl b a n k g p) F3 (by simp only[ih]<;>rfl)
def k:KC_:=kk_ 337 H (u4 OO) func337 (λx=>Eq.trans (b:=u4 (gA (λb a m h f o=>z15 Bs (t15 b a m h f o)) (λb a n k g p=>z22 Bs (t22 b a n k g p))) x) F3 (by simp only[i15,i22,Am]<;>rfl))
end F337
namespace F364
def H:=hd_ [Si] [Si,Si] .d [] f364
def k:KC_:=kk_ 364 H cW func364
end F364
namespace F359
def H:=hd_ [.agg [Sb,Si],Si] [.agg [Ob 5,Si],Si] .d [F287.k,F337.k,F364.k] f359
def k:KC_:=kk_ 359 H (u3 RC) func359
end F359
namespace F338
abbrev R_:=(LB×Int×Int)
def H:=hd_ [.agg [Sb,Si],Su,Si] [.agg [Ob 5,Si],Si] (.q (.q (.q (.q (.cut [3,6,9,10,11] [] .d .d))))) [F287.k,F337.k,F349.k,F359.k] f338
def k:KC_:=kk_ 338 H (u4 aI) func338
end F338
namespace F297
def IM(k u n:Int)(a:UInt64)(b:UInt32)(o:UInt64)(m:LB):Option (LB×Int×Int×Int×UInt64×UInt64×Int):=
(λaf:Option (LB×Int×Int×Int×UInt64×UInt64×Int)=>
both (
bo (
af)) [
af]) (
some (m,k,u,n,(Ae a (Ap (Ah b:UInt64) (Cl a (GI.toZ (4:UInt64)).toNat))),o,0))
theorem Beh: @IM= @DO:=by
  unfold IM DO
  try simp only[EC,Ti,Tg]
  all_goals
    repeat (refine funext λ_=>?_)
    repeat' first
      |with_reducible rfl
      |with_reducible refine Gu ?_ ?_
      |with_reducible refine Gm ?_ ?_ ?_
      |with_reducible refine Gs ?_ ?_ ?_ ?_
      |((with_reducible refine Jj ?_ ?_);focus (intro h;first|(subst h;rfl)|(simp only[h];rfl)|(simp[Bf,Ad,h];done)))
      |with_reducible refine Jm λx=>?_
      |with_reducible refine Nw (λ_=>?_) (λ_=>?_)
      |(refine Ea (λh=>by simp only[h,Ji,Di,De,ite_self]) (λx h=>?_);(try simp only[h,Di]))
      |(refine Ew (λh=>?_) (λh=>?_)<;>simp only[h,if_true,if_false,Bool.false_eq_true])
abbrev R_:=(LB×Int×Int×Int×UInt64×UInt64×Int)
def H:=hd_ [.agg [Sb,Si],.agg [Si,Si,Sq,Sq],Su] [.agg [Ob 5,Si],.agg [Si,Si,Sq,Sq],Si] (.q (.cut [2,3,4,6,7] [] .d (.q (.q (.cut [2,3,4,6,7,11] [] .d (.q (.cut [3,4,6,7] [] (.keep [2,3,4,6,7,65] true) (.seq (.mode false) .d)))))))) [F287.k,F321.k,F336.k,F337.k,F338.k] f297 false [(323,(.q (.q (.q (.blk (.cut [0,1,4] [] (.blk (.q (.keep [0,1,4,6,18,19,20,21,22,23,24,25] true))) (.cut [] [] (.keep [0,1,4,27,28,29,30,31,32,33,34] true) .d))))))),(350,.d)]
def x10(k u n:Int)(a:UInt64)(b:UInt32)(o:UInt64)(m:LB):Option R_:=H.e P_ [r,r,r,r,r,r,r] ⟨[(3,.ptr 0 []),(4,.ptr 1 []),(6,.ptr 2 []),(7,.ptr 3 [])],[.box 303 (.agg [.own 4,vi k]),.box 361 (.agg [vi u,vi n,vq (Ae a (Ap (Ah b:UInt64) (Cl a (GI.toZ (4:UInt64)).toNat))),vq o]),.box 303 (.agg [.nils,vi 0]),.box 361 (.agg [vi 0,vi 0,vq 0,vq 0]),Ab 5 m],[]⟩
def x8(b:UInt32)(f:Int)(a:UInt64)(k:Int)(m:LB)(n:Int)(o:UInt64):Option R_:=H.e P_ [r,r,r,r,r,r,l,(call 1 323),r,r,r,d,r] ⟨[(0,.ptr 0 []),(1,vu b),(4,.fn 350 [])],[.box 361 (.agg [vi f,vi n,vq a,vq o]),.box 303 (.agg [.own 4,vi k]),.box 303 (.agg [.nils,vi 0]),.box 361 (.agg [vi 0,vi 0,vq 0,vq 0]),Ab 5 m],[[(2,vu b),(3,.ptr 1 []),(4,.ptr 0 []),(6,.ptr 2 []),(7,.ptr 3 []),(65,vu b)]]⟩
theorem e10:x10=PL:=Eq.trans (b:=IM) F3 (by rw[Beh];rfl)
theorem e8:x8=Xj:=Eq.trans (b:=TP (TE x10)) F3 (by simp only[e10]<;>rfl)
def k:KC_:=kk_ 297 H (u7 cV) func297 (λx=>Eq.trans (b:=u7 (UG (TL (TV x8))) x) F3 (by simp only[e8]<;>rfl))
end F297
namespace F245
abbrev R_:=(LB×Int)
abbrev K_:=S->Option R_
def H:=hd_ [.agg [Si,Si],.lf (.vec 16 (.int .i32)) none,Sw] [Ob 5,Si] (.q (.q (.q (.q (.q (.cut [11] [] (.q (.blk (.loop [3,10,11,30,31,32] [⟨11,[0],.own 5 (.int .u8)⟩] (.q (.q (.cut [3,10,11,30,31,32] [] (.blk (.q (.q (.q (.q (.keep [3,10,11,14,30,31,32,59] true)))))) .d)))))) .d)))))) [F94.k,F206.k,F225.k,F295.k,F296.k,F297.k] f245 false [(298,(.q (.q (.blk (.loop [0,3,7,8] [] (.q (.q (.seq (.blk (.q (.cut [0,3,4,7,8] [] .d (.q (.cut [0,3,7,8] [] .d .d))))) .d))))))))]
def t44(b:LU)(a g h f:Int)(n:List (Int×Int×UInt64×UInt64×Unit))(m:LB)(o k:Int)(w:LB):S:=⟨[(0,.ptr 0 []),(3,.ptr 1 []),(7,vi h),(8,vi o)],[.box 303 (.agg [.own 7,vi k]),.box 303 (.agg [.own 6,vi h]),.box 66 (.agg [vi a,vi g]),.box 362 (.val (.vec 6 (.cons (.int .i64) (.cons (.int .i64) (.cons (.int .u64) (.cons (.int .u64) .nil))))) n),.box 303 (.agg [.own 6,vi h]),Av 122 b,Ab 5 m,Ab 5 w],[[(3,.ptr 2 []),(10,.ptr 3 []),(11,.ptr 0 []),(14,.ptr 4 []),(30,.own 5),(31,vi (Ad b)),(32,vi f),(59,.agg [.own 6,vi h])]]⟩
def z44(JK:K_):ZT_ R_:=H.i P_ [r,r,r,r,r,l,r,d,(lp JK),r,r,l,d,r,r,r,r,(call 1 298),r,r,d]
def t27(b:LU)(a g f:Int)(u:List (Int×Int×UInt64×UInt64×Unit))(v:Int)(p:LB):S:=⟨[(3,.ptr 0 []),(10,.ptr 1 []),(11,.ptr 2 []),(30,.own 3),(31,vi (Ad b)),(32,vi f)],[.box 66 (.agg [vi a,vi g]),.box 362 (.val (.vec 6 (.cons (.int .i64) (.cons (.int .i64) (.cons (.int .u64) (.cons (.int .u64) .nil))))) u),.box 303 (.agg [.own 4,vi v]),Av 122 b,Ab 5 p],[]⟩
def z27:ZT_ R_:=H.i P_ [r,r,r,r,r,l,r,d]
def x44(JK:K_)(b:LU)(a g h f:Int)(n:List (Int×Int×UInt64×UInt64×Unit))(m:LB)(o k:Int)(w:LB):Option R_:=H.e P_ [r,r,r,r,r,l,r,d,(lp JK),r,r,l,d,r,r,r,r,(call 1 298),r,r,d] (t44 b a g h f n m o k w)
theorem i44(JK:K_)(b:LU)(a g h f:Int)(n:List (Int×Int×UInt64×UInt64×Unit))(m:LB):∀(q:Nat) (o k:Int) (w:LB),z44 JK q (t44 b a g h f n m o k w)=Fm (λf u v p=>JK (t27 b a g f u v p)) b a g h f n m q o k w:=
 ind (λ_ _ _=>by kernel_rfl) λq ih o k w=>Eq.trans (b:=Rc (Rr (λo k w=>(z44 JK q) (t44 b a g h f n m o k w)) h b f a g n m) (Zf (λf u v p=>JK (t27 b a g f u v p)) b a g) b a g h f n m o k w) F3 (by simp only[ih]<;>rfl)
theorem e44(JK:K_)(b:LU)(a g:Int):x44 JK b a g=OJ (λf u v p=>JK (t27 b a g f u v p)) b a g:=by funext h f n m o k w;exact Eq.trans F3 ((i44 JK b a g h f n m Bs o k w).trans (by rw[Am];rfl))
theorem i27(b:LU)(a g:Int):∀(q:Nat) (f:Int) (u:List (Int×Int×UInt64×UInt64×Unit)) (v:Int) (p:LB),z27 q (t27 b a g f u v p)=Gz b a g q f u v p:=
 ind (λ_ _ _ _=>by kernel_rfl) λq ih f u v p=>Eq.trans (b:=Rp (x44 (z27 q) b a g) Yo b a g f u v p) F3 (by simp only[e44,ih]<;>rfl)
def k:KC_:=kk_ 245 H (u4 Uh) func245 (λx=>Eq.trans (b:=u4 (CA (λb a g f u v p=>z27 Bs (t27 b a g f u v p))) x) F3 (by simp only[i27,Am]<;>rfl))
end F245
namespace F188
def H:=hd_ [.agg [.agg [Si,Si],Si,Ss,Sb,Sw,.lf (.list (.list (.int .u8))) none,Sb,Sz,Si],Si] [.agg [.agg [Si,Si],Si,Ss,Ob 5,Ow 21,.lf (.list (.list (.int .u8))) (some 29),Ob 5,Sz,Si],Si] .d [] f188
def k:KC_:=kk_ 188 H (u11 Qt) func188
end F188
namespace F135
abbrev R_:=(Int×Int×Int×LB×LB×LX×(List LB)×LB×Bool×Int×Int)
abbrev K_:=S->Option R_
def H:=hd_ [.agg [.agg [Si,Si],Si,Ss,Sb,Sw,.lf (.list (.list (.int .u8))) none,Sb,Sz,Si],Sb] [.agg [.agg [Si,Si],Si,Ss,Ob 5,Ow 21,.lf (.list (.list (.int .u8))) (some 29),Ob 5,Sz,Si],Si] (.q (.q (.q (.q (.q (.cut [2,4] [] (.q (.blk (.loop [2,4,8,9,27,28,29] [] (.q (.q (.cut [2,4,8,9,27,28,29] [] (.blk (.q (.q (.q (.cut [2,4,8,9,12,27,28,29] [⟨2,[3],.own 5 (.int .u8)⟩,⟨2,[4],.own 21 (.int .i32)⟩,⟨9,[0,3],.own 5 (.int .u8)⟩,⟨9,[0,4],.own 21 (.int .i32)⟩] (.keep [2,4,8,9,12,27,28,29,45] true) .d))))) .d)))))) .d)))))) [F116.k,F172.k,F182.k,F183.k,F185.k,F186.k,F188.k,F245.k] f135 false [(184,(.q (.cut [0,1] [] .d (.q (.q (.q (.q (.cut [2] [] (.keep [2,43] true) .d)))))))),(187,.d)]
def t14(p:Int)(n:LB)(a b g:Int)(f:LB)(h:Bool)(k o:Int)(m:LB)(u:Int)(y:LB)(w:LX)(v:List LB):S:=⟨[(2,.ptr 0 []),(4,.ptr 1 []),(8,vi p),(9,.fn 184 [.ptr 0 [],.ptr 2 []]),(27,vb n),(28,vi (Ad n)),(29,vi u)],[.box 180 (.agg [.agg [vi a,vi b],vi g,vs f,.own 3,.own 4,.own 5,.own 6,vt h,vi k]),.box 180 (.agg [.agg [vi 0,vi 0],vi 0,vs ([]:LB),.nils,.nils,.nils,.nils,vt false,vi 0]),.box 3 (vi o),Ab 5 y,Aw 21 w,.arr 29 (.list (.int .u8)) v,Ab 5 m],[]⟩
def z14:ZT_ R_:=H.i P_ [r,r,r,r,r,l,r,d]
theorem i14(p:Int)(n:LB)(a b g:Int)(f:LB)(h:Bool)(k o:Int)(m:LB):∀(q:Nat) (u:Int) (y:LB) (w:LX) (v:List LB),z14 q (t14 p n a b g f h k o m u y w v)=Hh p n a b g f h k o m q u y w v:=
 ind (λ_ _ _ _=>by kernel_rfl) λq ih u y w v=>Eq.trans (b:=Vo (Ln (λu y w v=>(z14 q) (t14 p n a b g f h k o m u y w v)) p n a b g f h k o m) (Hj (λu y w v=>(z14 q) (t14 p n a b g f h k o m u y w v)) p n a b g f h k o m) (EJ (λu y w v=>(z14 q) (t14 p n a b g f h k o m u y w v)) p n a b g f h k o m) EZ p n a b g f h k o m u y w v) F3 (by simp only[ih]<;>rfl)
def k:KC_:=kk_ 135 H (u11 KJ) func135 (λx=>Eq.trans (b:=u11 (IY (λp n a b g f h k o m u y w v=>z14 Bs (t14 p n a b g f h k o m u y w v))) x) F3 (by simp only[i14,Am]<;>rfl))
end F135
namespace F246
def H:=hd_ [Ss] [Si,Si] .d [] f246
def k:KC_:=kk_ 246 H GF func246
end F246
namespace F247
abbrev R_:=(LB×Int)
def H:=hd_ [.agg [Si,Si,Si,Si,Si]] [Ob 5,Si] (.q (.q (.q (.cut [5] [] (.q (.blk (.loop [5,31,32] [] .d))) .d)))) [F206.k,F210.k,F225.k] f247
def t4(b f g h k m:Int)(a:LB):S:=⟨[(5,.own 0),(31,.val (.vec 5 (.int .i64)) ([b,f,g,h,k]:LI)),(32,vi m)],[Ab 5 a],[]⟩
def z4:ZT_ R_:=H.i P_ [r,r,r,l,r,d]
theorem i4(b f g h k:Int):∀(q:Nat) (m:Int) (a:LB),z4 q (t4 b f g h k m a)=Kl b f g h k q m a:=
 ind (λ_ _=>by kernel_rfl) λq ih m a=>Eq.trans (b:=Yc Yg (λm a=>(z4 q) (t4 b f g h k m a)) b f g h k m a) F3 (by simp only[ih]<;>rfl)
def k:KC_:=kk_ 247 H (u5 KL) func247 (λx=>Eq.trans (b:=u5 (HR (λb f g h k m a=>z4 Bs (t4 b f g h k m a))) x) F3 (by simp only[i4,Am]<;>rfl))
end F247
namespace F248
abbrev R_:=(LB×Int)
abbrev K_:=S->Option R_
def H:=hd_ [Sl] [Ob 5,Si] (.q (.q (.q (.q (.cut [5,6] [] (.q (.blk (.loop [5,6,17,18,19] [⟨5,[],.own 5 (.int .u8)⟩,⟨6,[0],.own 5 (.int .u8)⟩] (.q (.q (.cut [5,6,17,18,19] [] (.blk (.q (.keep [5,6,8,17,18,19,23,24,25] true))) .d)))))) (.q (.cut [5] [] (.keep [5,6,9,33,34,35] true) .d))))))) [F156.k,F206.k,F225.k] f248 false [(299,.d)]
def t8(a:LI)(f:Int)(b:LB):S:=⟨[(5,.ptr 0 []),(6,.fn 299 [.ptr 0 []]),(17,vl a),(18,vi (Ad a)),(19,vi f)],[.box 29 (.own 1),Ab 5 b],[]⟩
def z8:ZT_ R_:=H.i P_ [r,r,r,r,l,r,d]
theorem i8(a:LI):∀(q:Nat) (f:Int) (b:LB),z8 q (t8 a f b)=Pp a q f b:=
 ind (λ_ _=>by kernel_rfl) λq ih f b=>Eq.trans (b:=DG (JH (λf b=>(z8 q) (t8 a f b)) a) IC a f b) F3 (by simp only[ih]<;>rfl)
def k:KC_:=kk_ 248 H HB func248 (λx=>Eq.trans (b:=OP (λa f b=>z8 Bs (t8 a f b)) x) F3 (by simp only[i8,Am]<;>rfl))
end F248
namespace F189
def FK(f g h:Int)(b k:LB)(m:LX)(a:List LB)(n:LB)(o:Bool)(p:Int)(u:LB)(v:LI):Option (LB×Int):=
(HB v).bind λ(aa,y)=>
if(Bg y 0)then
some (([]:LB),y)
else
(λao:Option (LB×Int)=>
bo (
ao)) (
(Bf u aa).bind λab=>
(Dj a).bind λac=>
(Bf ab ac).bind λad=>
some (ad,0))
theorem Bee: @FK= @Xy:=by
  unfold FK Xy;simp only[EC,Ti,Tg]
abbrev R_:=(LB×Int)
def H:=hd_ [.agg [.agg [Si,Si],Si,Ss,Sb,Sw,.lf (.list (.list (.int .u8))) none,Sb,Sz,Si],Si] [Ob 5,Si] (.q (.q (.q (.q (.q (.cut [2,8] [] .d (.q (.cut [2,8,11] [] (.q (.blk (.loop [2,8,11,58,59,60] [⟨11,[],.own 3 (.int .i64)⟩] .d))) (.q (.q (.seq (.mode false) .d))))))))))) [F94.k,F209.k,F246.k,F247.k,F248.k] f189
def t6(a:List LB)(f g h:Int)(b k:LB)(m:LX)(n:LB)(o:Bool)(p:Int)(u:LB)(w:Int)(v:LI):S:=⟨[(2,.ptr 0 []),(8,.own 1),(11,.own 2),(58,.val (.list (.list (.int .u8))) a),(59,vi (Ad a)),(60,vi w)],[.box 180 (.agg [.agg [vi f,vi g],vi h,vs b,vb k,vw m,.val (.list (.list (.int .u8))) a,vb n,vt o,vi p]),Ab 5 u,Ai 3 v],[]⟩
def z6:ZT_ R_:=H.i P_ [r,r,r,r,r,r,r,l,r,d]
def x8(f g h:Int)(b k:LB)(m:LX)(a:List LB)(n:LB)(o:Bool)(p:Int)(u:LB)(v:LI):Option R_:=H.e P_ [r,r,r,r,r,r,r,r] ⟨[(2,.ptr 0 []),(8,.own 1),(11,.own 2)],[.box 180 (.agg [.agg [vi f,vi g],vi h,vs b,vb k,vw m,.val (.list (.list (.int .u8))) a,vb n,vt o,vi p]),Ab 5 u,Ai 3 v],[]⟩
theorem e8:x8=Se:=Eq.trans (b:=FK) F3 (by rw[Bee];rfl)
theorem i6(a:List LB)(f g h:Int)(b k:LB)(m:LX)(n:LB)(o:Bool)(p:Int)(u:LB):∀(q:Nat) (w:Int) (v:LI),z6 q (t6 a f g h b k m n o p u w v)=Mx a f g h b k m n o p u q w v:=
 ind (λ_ _=>by kernel_rfl) λq ih w v=>Eq.trans (b:=Xt x8 (λw v=>(z6 q) (t6 a f g h b k m n o p u w v)) a f g h b k m n o p u w v) F3 (by simp only[e8,ih]<;>rfl)
def k:KC_:=kk_ 189 H (u11 KD) func189 (λx=>Eq.trans (b:=u11 (JC (Xs (λa f g h b k m n o p u w v=>z6 Bs (t6 a f g h b k m n o p u w v)))) x) F3 (by simp only[i6,Am]<;>rfl))
end F189
namespace F137
abbrev R_:=(Int×Int×Int×LB×LB×LX×(List LB)×LB×Bool×Int×Int)
def H:=hd_ [.agg [.agg [Si,Si],Si,Ss,Sb,Sw,.lf (.list (.list (.int .u8))) none,Sb,Sz,Si]] [.agg [.agg [Si,Si],Si,Ss,Ob 5,Ow 21,.lf (.list (.list (.int .u8))) (some 29),Ob 5,Sz,Si],Si] (.q (.q (.q (.q (.q (.cut [1,2,6] [] (.q (.cond (.cut [1,2,6,7] [⟨1,[4],.own 21 (.int .i32)⟩] (.keep [1,2,6,7,38] true) .d) .d)) .d)))))) [F172.k,F182.k,F186.k,F188.k,F189.k,F245.k] f137 false [(187,.d)]
def k:KC_:=kk_ 137 H (u10 BZ) func137
end F137
namespace F91
abbrev R_:=(LB×Int)
def H:=hd_ [.agg [Si,Si,Si,Sw],Ss] [Ob 5,Si] (.q (.q (.q (.q (.q (.q (.q (.cut [8,9] [⟨9,[3],.own 5 (.int .u8)⟩,⟨9,[4],.own 21 (.int .i32)⟩,⟨9,[5],.own 29 (.list (.int .u8))⟩,⟨9,[6],.own 5 (.int .u8)⟩] (.keep [8,9,43,46,47,48] true) .d)))))))) [F131.k,F132.k,F133.k,F135.k,F137.k] f91 false [(134,.d),(136,(.q (.cut [2,6,8,9] [] (.keep [2,6,8,9,11,14,15,16] true) (.q (.cut [6,7] [] .d .d)))))]
def k:KC_:=kk_ 91 H (u5 Uf) func91
end F91
namespace F24
def Qd(j100:LB->LB->LB->Option (LB×LB×LB))(j97:LB->LB->LI->Option (LB×LB×LB))(j126:LB->LB->Option (LB×LB×LB))(j127:Int->Int->UInt8->Int->Int->LB->LB->Option (LB×LB×LB))(j129:LB->LB->LB->Option (LB×LB×LB))(j130:LB->LB->LB->Option (LB×LB×LB))(j131:LB->LB->LB->Option (LB×LB×LB))(j135:LB->LB->LB->Option (LB×LB×LB))(j132:LB->LB->LI->Option (LB×LB×LB))(j139:LB->LB->LB->Option (LB×LB×LB))(j137:LB->LB->LB->Option (LB×LB×LB))(j138:LB->LB->LB->Option (LB×LB×LB))(j141:Int->Int->LB->LB->Option (LB×LB×LB))(j143:LB->LB->LI->Int->Int->Int->Option (LB×LB×LB))(h g a:LB)(k:LI):Option (LB×LB×LB):=
if(h==[99,117,116])then
if((true&&(Ha (Ad k) 1))&&(MQ (Ad k) 1))then
(Af k 0).bind λ_=>
(Af k 0).bind λbw=>
if(Cx bw 0)then
(Ao 2).bind λaq=>
j100 g a aq
else
(Af k 0).bind λ_=>
(Af k 0).bind λdw=>
if(Eg dw (Ad g))then
(Ao 2).bind λdx=>
j100 g a dx
else
j97 g a k
else
j126 g a
else
if(h==[112,108,97,99,101])then
if((true&&(Ha (Ad k) 1))&&(MQ (Ad k) 1))then
(Af k 0).bind λ_=>
(λgr:Option (LB×LB×LB)=>
(λgv:Option (LB×LB×LB)=>
(λgw:Option (LB×LB×LB)=>
both (
gv) [
gv,
(Af k 0).bind λan=>
(λgx:Option (LB×LB×LB)=>
(λgy:Option (LB×LB×LB)=>
(λgz:Option (LB×LB×LB)=>
both (
gz) [
gz,
gy]) (
both (
gy) [
gx])) (
bo (
gx))) (
(Ru g a an).bind λ(aj,ah,ab,ai,aa)=>
j127 aa aj ah ab ai g a),
both (
gw) [
gw,
(Af k 0).bind λan=>
(λkz:Option (LB×LB×LB)=>
bo (
kz)) (
(Ru g a an).bind λ(aj,ah,ab,ai,aa)=>
j127 aa aj ah ab ai g a)]]) (
bo (
gr))) (
both (
both (
(Af k 0).bind λan=>
(λla:Option (LB×LB×LB)=>
bo (
la)) (
(Ru g a an).bind λ(aj,ah,ab,ai,aa)=>
j127 aa aj ah ab ai g a)) [
gr]) [
(Af k 0).bind λan=>
(λha:Option (LB×LB×LB)=>
both (
bo (
ha)) [
ha]) (
(Ru g a an).bind λ(aj,ah,ab,ai,aa)=>
j127 aa aj ah ab ai g a),
bo (
gr)])) (
(Af k 0).bind λan=>
(Ru g a an).bind λ(aj,ah,ab,ai,aa)=>
j127 aa aj ah ab ai g a)
else
j126 g a
else
if(h==[102,114,97,109,101])then
if((true&&(Ha (Ad k) 1))&&(MQ (Ad k) 1))then
(Af k 0).bind λ_=>
(Af k 0).bind λdy=>
(BH g a dy).bind λ(dz,fa)=>
(Gl dz fa).bind λbn=>
j129 bn g a
else
j126 g a
else
if(h==[102,114,111,109])then
if((true&&(Ha (Ad k) 1))&&(MQ (Ad k) 1))then
(Af k 0).bind λ_=>
(Af k 0).bind λfb=>
(Ug g a fb).bind λ(fc,fd)=>
(Gl fc fd).bind λbp=>
j130 bp g a
else
j126 g a
else
if(h==[97,116])then
if((true&&(Ha (Ad k) 1))&&(MQ (Ad k) 1))then
(Af k 0).bind λ_=>
(Af k 0).bind λfe=>
(vD g a fe).bind λ(ff,fg)=>
(Gl ff fg).bind λbq=>
j131 bq g a
else
j126 g a
else
if(h==[102,108,105,112])then
if((true&&(Ha (Ad k) 2))&&(MQ (Ad k) 2))then
(Af k 1).bind λ_=>
(Af k 1).bind λfh=>
if(Cx fh 0)then
(Ao 2).bind λfi=>
j135 g a fi
else
(Af k 1).bind λ_=>
(Af k 1).bind λfj=>
if(Eg fj 255)then
(Ao 2).bind λfk=>
j135 g a fk
else
j132 g a k
else
j126 g a
else
if(h==[98,117,114,115,116])then
if((true&&(Ha (Ad k) 2))&&(MQ (Ad k) 2))then
(Af k 1).bind λ_=>
(Af k 1).bind λbs=>
if(Cx bs 0)then
(Ao 2).bind λfl=>
j139 g a fl
else
(Af k 0).bind λ_=>
(Af k 1).bind λ_=>
(Af k 0).bind λfm=>
(Af k 1).bind λfn=>
(aO g fm (Ah fn:UInt32)).bind λ(am,bx)=>
if(Bg bx 0)then
(Ao bx).bind λfo=>
j137 g a fo
else
if(Eg (Ad am) 100000)then
(Ao 4).bind λfp=>
j137 g a fp
else
(strconv_Itoa (Ad am)).bind λay=>
j138 ay a am
else
j126 g a
else
if(h==[119,97,121,115])then
if((true&&(Ha (Ad k) 2))&&(MQ (Ad k) 2))then
(Af k 0).bind λ_=>
(Af k 1).bind λ_=>
(Af k 0).bind λfq=>
(Af k 1).bind λfs=>
(kK a g fq fs).bind λ(bt,bu)=>
j141 bt bu g a
else
j126 g a
else
if(h==[99,108,105,112])then
if((true&&(Ha (Ad k) 3))&&(MQ (Ad k) 3000))then
(Af k 0).bind λ_=>
(Af k 1).bind λ_=>
(Af k 2).bind λ_=>
(Af k 0).bind λp=>
(Af k 1).bind λu=>
(Af k 2).bind λv=>
bo (
j143 g a k p u v)
else
j126 g a
else
if((false&&(Ha (Ad k) 0))&&(MQ (Ad k) 0))then
none
else
j126 g a
theorem Ayx: @Qd= @Ld:=by
  unfold Qd Ld
  try simp only[EC,Ti,Tg]
  all_goals
    repeat (refine funext λ_=>?_)
    repeat' first
      |with_reducible rfl
      |with_reducible refine Gu ?_ ?_
      |with_reducible refine Gm ?_ ?_ ?_
      |with_reducible refine Gs ?_ ?_ ?_ ?_
      |((with_reducible refine Jj ?_ ?_);focus (intro h;first|(subst h;rfl)|(simp only[h];rfl)|(simp[Bf,Ad,h];done)))
      |with_reducible refine Jm λx=>?_
      |with_reducible refine Nw (λ_=>?_) (λ_=>?_)
      |(refine Ea (λh=>by simp only[h,Ji,Di,De,ite_self]) (λx h=>?_);(try simp only[h,Di]))
      |(refine Ew (λh=>?_) (λh=>?_)<;>simp only[h,if_true,if_false,Bool.false_eq_true])
def Px(j92:LB-> (List LB)->LB->Bool->LB->LB->Option (LB×LB×LB))(j82:LB-> (List LB)->LB->LB->LB->Option (LB×LB×LB))(j83:LB->LB-> (List LB)->LB->LB->Option (LB×LB×LB))(j151:LB-> (List LB)->LB->LB->LB->Option (LB×LB×LB))(j152:LB->LB-> (List LB)->LB->LB->Option (LB×LB×LB))(j153:Int->LB-> (List LB)-> (List (Int×LB×Unit))->LB->LB->Option (LB×LB×LB))(j91:LB-> (List LB)->LB->LB->Option (LB×LB×LB))(h:LB)(m:List LB)(f b:LB):Option (LB×LB×LB):=
if((h==([112,97,115,115,119,111,114,100]:LB))&&(geq (Ad m) 1))then
(Af m 0).bind λft=>
if(Eg (Ad ft) 64)then
(Ao 2).bind λba=>
j92 h m ba true f b
else
(Af m 0).bind λfu=>
j92 h m ([111,107]:LB) true f fu
else
if(((h==([102,105,108,101]:LB))||(h==([97,100,100]:LB)))&&(geq (Ad m) 1))then
(Af m 0).bind λfv=>
(UJ fv).bind λ(ao,fw)=>
if(!fw)then
j92 h m ([119,104,97,116]:LB) true f b
else
if(h==([97,100,100]:LB))then
(Dj ([f,ao]:List LB)).bind λar=>
if(Bg (0:Int) (0:Int))then
(Ao 0).bind λfx=>
j82 h m f b fx
else
if(Eg (Ad ar) 100000)then
(Ao 4).bind λfy=>
j82 h m f b fy
else
(strconv_Itoa (Ad ar)).bind λbz=>
j83 bz h m b ar
else
if(Bg (0:Int) (0:Int))then
(Ao 0).bind λfz=>
j151 h m f b fz
else
if(Eg (Ad ao) 100000)then
(Ao 4).bind λga=>
j151 h m f b ga
else
(strconv_Itoa (Ad ao)).bind λda=>
j152 da h m b ao
else
if((h==([115,99,114,105,112,116]:LB))||(h==([112,101,97,107]:LB)))then
(TN m).bind λ(dc,gb)=>
if(!gb)then
j92 h m ([119,104,97,116]:LB) true f b
else
if(h==([112,101,97,107]:LB))then
(iI b f dc).bind λ(ak,au,av)=>
(Fc ([ak,au]:LI) av).bind λgc=>
j92 h m gc true f b
else
(λhb:Option (LB×LB×LB)=>
(λhc:Option (LB×LB×LB)=>
(λhd:Option (LB×LB×LB)=>
both (
hd) [
hd,
hc]) (
both (
hc) [
hb])) (
bo (
hb))) (
(TS b f dc).bind λ(gd,kn,dd,de,df,ko,dg,kp,kq,kr,ks,dh,n,ap)=>
j153 ap h m n f b)
else
j91 h m f b
theorem Ayq: @Px= @Ku:=by
  unfold Px Ku
  try simp only[EC,Ti,Tg]
  all_goals
    repeat (refine funext λ_=>?_)
    repeat' first
      |with_reducible rfl
      |with_reducible refine Gu ?_ ?_
      |with_reducible refine Gm ?_ ?_ ?_
      |with_reducible refine Gs ?_ ?_ ?_ ?_
      |((with_reducible refine Jj ?_ ?_);focus (intro h;first|(subst h;rfl)|(simp only[h];rfl)|(simp[Bf,Ad,h];done)))
      |with_reducible refine Jm λx=>?_
      |with_reducible refine Nw (λ_=>?_) (λ_=>?_)
      |(refine Ea (λh=>by simp only[h,Ji,Di,De,ite_self]) (λx h=>?_);(try simp only[h,Di]))
      |(refine Ew (λh=>?_) (λh=>?_)<;>simp only[h,if_true,if_false,Bool.false_eq_true])
def Pg(j65:LB->Option (LB×LB×LB))(j66:LB->LB->LB->Option (LB×LB×LB))(j67:LB->LB->Option (LB×LB×LB))(j158:LB->LB->LB->Option (LB×LB×LB))(j159:Int->Int->Int->Int->Int->Int->Int->Int->UInt8->Int->Int->LB->LB->LI->Option (LB×LB×LB))(j161:Int->Int->UInt8->Int->Int->LB->LB->Option (LB×LB×LB))(j163:LB->LB->LB->Option (LB×LB×LB))(j164:LB->LB->LB->Option (LB×LB×LB))(j165:LB->LB->LB->Option (LB×LB×LB))(j166:LB->LB->LB->Option (LB×LB×LB))(j167:LB->LB->LB->Option (LB×LB×LB))(j80:LB->LB->Option (LB×LB×LB))(j81:LB-> (List LB)->LB->LB->Option (LB×LB×LB))(h:LB)(m:List LB)(f b:LB):Option (LB×LB×LB):=
if(geq (Ad m) 0)then
if(h==[112,97,115,115,119,111,114,100])then
j65 f
else
if(h==[102,105,108,101])then
if(Bg (0:Int) (0:Int))then
(Ao 0).bind λgf=>
j66 f b gf
else
if(Eg (0:Int) (100000:Int))then
(Ao 4).bind λba=>
j66 f b ba
else
(strconv_Itoa 0).bind λbb=>
j67 bb b
else
if(h==[104,101,120])then
(Gl f 0).bind λdi=>
j158 di f b
else
if(h==[114,101,112,111,114,116])then
(λhe:Option (LB×LB×LB)=>
(λhf:Option (LB×LB×LB)=>
(λhg:Option (LB×LB×LB)=>
both (
hg) [
hg,
hf]) (
both (
hf) [
he])) (
bo (
he))) (
(J3 f b).bind λ(bc,bd,be,bf,bg,bh,bm,bi,bj,bk,bl,ak)=>
j159 ak bc bd be bf bg bh bi bj bk bl f b bm)
else
if(h==[116,111,108,100])then
(λhh:Option (LB×LB×LB)=>
(λhi:Option (LB×LB×LB)=>
(λhj:Option (LB×LB×LB)=>
both (
hj) [
hj,
hi]) (
both (
hi) [
hh])) (
bo (
hh))) (
(Uo f b).bind λ(au,av,aw,dl,dk)=>
j161 dk au av aw dl f b)
else
if(h==[115,97,109,112,108,101,115])then
(Py f b).bind λ(dd,de,df,gg,dg)=>
(Fx dd de df gg dg).bind λdm=>
j163 dm f b
else
if(h==[98,97,100])then
(pN f b).bind λ(gh,gi)=>
(Fc gh gi).bind λaq=>
j164 aq f b
else
if(h==[115,107,105,112])then
(λhk:Option (LB×LB×LB)=>
(λhl:Option (LB×LB×LB)=>
(λhm:Option (LB×LB×LB)=>
both (
hm) [
hm,
hl]) (
both (
hl) [
hk])) (
bo (
hk))) (
(Xg f b 1).bind λ(dh,gj,ap,al,kx,ab)=>
(Fx dh gj ap al ab).bind λag=>
j165 ag f b)
else
if(h==[115,105,108,101,110,116])then
(λhn:Option (LB×LB×LB)=>
(λho:Option (LB×LB×LB)=>
(λhp:Option (LB×LB×LB)=>
both (
hp) [
hp,
ho]) (
both (
ho) [
hn])) (
bo (
hn))) (
(Xg f b 2).bind λ(aa,gk,gl,gm,ky,gn)=>
(Fx aa gk gl gm gn).bind λdn=>
j166 dn f b)
else
if(h==[119,97,118])then
(UF f b).bind λ(go,gp)=>
(Gl go gp).bind λdp=>
j167 dp f b
else
j80 f b
else
j81 h m f b
theorem Ayy: @Pg= @La:=by
  unfold Pg La
  try simp only[EC,Ti,Tg]
  all_goals
    repeat (refine funext λ_=>?_)
    repeat' first
      |with_reducible rfl
      |with_reducible refine Gu ?_ ?_
      |with_reducible refine Gm ?_ ?_ ?_
      |with_reducible refine Gs ?_ ?_ ?_ ?_
      |((with_reducible refine Jj ?_ ?_);focus (intro h;first|(subst h;rfl)|(simp only[h];rfl)|(simp[Bf,Ad,h];done)))
      |with_reducible refine Jm λx=>?_
      |with_reducible refine Nw (λ_=>?_) (λ_=>?_)
      |(refine Ea (λh=>by simp only[h,Ji,Di,De,ite_self]) (λx h=>?_);(try simp only[h,Di]))
      |(refine Ew (λh=>?_) (λh=>?_)<;>simp only[h,if_true,if_false,Bool.false_eq_true])
abbrev R_:=(LB×LB×LB)
noncomputable def Kb:K R_:={n:=XJ P_ 48 f24.results.toList,x:=λ_ _=>none,r:=XJ P_ 48 f24.results.toList}
noncomputable def tl:Code:=cB (cB (cB (cB (cB (fB f24)))))
noncomputable def tan:An:=(.cut [0,4,5,6,9,10] [] .d (.cut [0,4,6,9,10] [] (.q (.cond (.cut [4] [] (.q (.q (.cond (.cut [4] [] (.keep [4,61] true) .d) .d))) .d) .d)) (.cut [0,4,6,9,10] [] (.cut [0,4,6,9,10,13,14] [⟨0,[0],.ro (.int .u8)⟩] (.keep [0,4,6,9,10,13,14,62,66,67,68] true) .d) (.q (.cut [0,4,6,9,15] [] (.q (.blk (.loop [0,4,6,9,15,71,72,73] [⟨15,[],.own 3 (.int .i64)⟩] .d))) (.cut [4] [] (.q (.q (.cond (.cut [4] [] (.keep [4,114] true) .d) .d))) .d))))))
def H:Hp R_:=⟨kt [F25.k,⟨(58,Vs),Aae⟩,F71.k,F72.k,F73.k,F74.k,F75.k,F76.k,F77.k,F78.k,F79.k,⟨(80,bY),Bce⟩,⟨(82,HP),Bg5⟩,F83.k,⟨(84,LH),Bgy⟩,F85.k,F86.k,⟨(87,lD),Be0⟩,F88.k,⟨(89,OS),Ax8⟩,⟨(90,TK),Az9⟩,F91.k,⟨(93,IQ),Bg2⟩,F94.k,F95.k,⟨(99,Pa),Ye⟩,F112.k,F119.k,⟨(142,TJ),Axo⟩,F143.k] false,[(37,.d),(38,(.q (.cut [2] [] (.keep [2,4] true) .d))),(39,.d),(40,(.q (.cut [3,4] [] (.mode false) .d))),(41,(.q (.cut [3,4] [] (.mode false) .d))),(42,.d),(43,.d),(44,(.q (.seq (.keep [2,4] true) .d))),(45,(.q (.seq (.keep [2,4] true) .d))),(46,.d),(47,(.q (.cut [0,1] [] .d (.cut [4] [] (.keep [4,31] true) .d)))),(48,(.q (.cut [5,6] [] (.mode false) .d))),(49,.d),(50,.d),(51,.d),(52,(.q (.cut [0,1] [] .d (.cut [4] [] (.keep [4,31] true) .d)))),(53,(.q (.q (.cut [4] [] (.keep [4,25] true) .d)))),(54,(.q (.cut [5,6] [] .d .d))),(55,(.q (.cut [0,1,5] [] .d (.cut [0,5] [] (.q (.blk (.loop [0,5,19,20,21] [⟨5,[3],.own 21 (.int .i32)⟩] .d))) (.cut [4] [] (.keep [4,42] true) .d))))),(56,.d),(57,(.q (.cut [] [] (.blk (.q (.cond .d (.q (.cond (.q (.q (.q (.cut [6,7] [] (.keep [6,7,64] true) .d)))) (.q (.cond (.q (.q (.seq (.q (.cond (.seq (.keep [6,7,83] true) .d) .d)) (.cut [6,7] [] (.keep [6,7,86] true) .d)))) .d))))))) .d))),(70,.d),(81,(.q (.seq (.mode false) .d))),(92,.d),(96,.d),(97,(.q (.cut [6,7] [] (.mode false) (.q (.q (.cut [8] [] (.q (.blk (.loop [8,29,30,31] [⟨8,[],.own 9 .str⟩] .d))) .d))))))],⟨8,115,tl,tan,Kb⟩⟩
def t144(w:LI)(g a:LB)(p u v af:Int)(ac:LX):S:=⟨[(0,.ptr 0 []),(5,.ptr 1 []),(19,vl w),(20,vi (Ad w)),(21,vi af)],[.box 48 (.agg [vb g,vs a]),.box 42 (.agg [vi p,vi u,vi v,.own 3]),.box 9 (vs ([]:LB)),Aw 21 ac],[[(4,.ptr 2 [])],[(0,.ptr 0 [])]]⟩
def z144:ZT_ R_:=H.i P_ [r,r,r,r,r,l,r,r,l,l,(call 4 55),r,r,l,r,d]
def t94(h:LB)(m:List LB)(g a:LB)(y:Int)(k:LI):S:=⟨[(0,.ptr 0 []),(4,.ptr 1 []),(6,.mp true [[99,117,116],[112,108,97,99,101],[102,114,97,109,101],[102,114,111,109],[97,116],[102,108,105,112],[98,117,114,115,116],[119,97,121,115],[99,108,105,112]] [.agg [vi 1,vi 1,.fn 47 []],.agg [vi 1,vi 1,.fn 48 []],.agg [vi 1,vi 1,.fn 49 []],.agg [vi 1,vi 1,.fn 50 []],.agg [vi 1,vi 1,.fn 51 []],.agg [vi 2,vi 2,.fn 52 []],.agg [vi 2,vi 2,.fn 53 []],.agg [vi 2,vi 2,.fn 54 []],.agg [vi 3,vi 3000,.fn 55 []]]),(9,vs h),(15,.own 2),(71,.val (.list .str) m),(72,vi (Ad m)),(73,vi y)],[.box 48 (.agg [vb g,vs a]),.box 9 (vs ([]:LB)),Ai 3 k],[[(0,.ptr 0 [])]]⟩
def z94:ZT_ R_:=H.i P_ [r,r,r,r,l,r,d]
def t154(n:List (Int×LB×Unit))(h:LB)(m:List LB)(f b:LB)(ae:Int)(ad:List LB):S:=⟨[(8,.own 0),(29,.own 1),(30,vi (Ad n)),(31,vi ae)],[.arr 9 .str ad,.arr 199 (.cons (.int .i64) (.cons (.list (.int .u8)) .nil)) n,.box 48 (.agg [vb f,vs b]),.box 9 (vs ([]:LB))],[[(6,vs ([]:LB)),(7,vt false)],[(0,.ptr 2 []),(4,.ptr 3 []),(6,.mp true [[99,117,116],[112,108,97,99,101],[102,114,97,109,101],[102,114,111,109],[97,116],[102,108,105,112],[98,117,114,115,116],[119,97,121,115],[99,108,105,112]] [.agg [vi 1,vi 1,.fn 47 []],.agg [vi 1,vi 1,.fn 48 []],.agg [vi 1,vi 1,.fn 49 []],.agg [vi 1,vi 1,.fn 50 []],.agg [vi 1,vi 1,.fn 51 []],.agg [vi 2,vi 2,.fn 52 []],.agg [vi 2,vi 2,.fn 53 []],.agg [vi 2,vi 2,.fn 54 []],.agg [vi 3,vi 3000,.fn 55 []]]),(9,vs h),(10,.val (.list .str) m)],[(0,.ptr 2 [])]]⟩
def z154:ZT_ R_:=H.i P_ [r,r,l,l,(call 3 57),r,l,d,r,r,r,r,r,l,r,r,r,l,(call 2 97),r,r,r,r,l,r,d]
def x96(h g a:LB)(k:LI):Option R_:=H.e P_ [r,r,r,r,r] ⟨[(0,.ptr 0 []),(4,.ptr 1 []),(6,.mp true [[99,117,116],[112,108,97,99,101],[102,114,97,109,101],[102,114,111,109],[97,116],[102,108,105,112],[98,117,114,115,116],[119,97,121,115],[99,108,105,112]] [.agg [vi 1,vi 1,.fn 47 []],.agg [vi 1,vi 1,.fn 48 []],.agg [vi 1,vi 1,.fn 49 []],.agg [vi 1,vi 1,.fn 50 []],.agg [vi 1,vi 1,.fn 51 []],.agg [vi 2,vi 2,.fn 52 []],.agg [vi 2,vi 2,.fn 53 []],.agg [vi 2,vi 2,.fn 54 []],.agg [vi 3,vi 3000,.fn 55 []]]),(9,vs h),(15,.own 2)],[.box 48 (.agg [vb g,vs a]),.box 9 (vs ([]:LB)),Ai 3 k],[[(0,.ptr 0 [])]]⟩
def x94(h:LB)(m:List LB)(g a:LB)(y:Int)(k:LI):Option R_:=H.e P_ [r,r,r,r,l,r,d] (t94 h m g a y k)
def x81(h:LB)(m:List LB)(f b:LB):Option R_:=H.e P_ [r,r] ⟨[(0,.ptr 0 []),(4,.ptr 1 []),(6,.mp true [[99,117,116],[112,108,97,99,101],[102,114,97,109,101],[102,114,111,109],[97,116],[102,108,105,112],[98,117,114,115,116],[119,97,121,115],[99,108,105,112]] [.agg [vi 1,vi 1,.fn 47 []],.agg [vi 1,vi 1,.fn 48 []],.agg [vi 1,vi 1,.fn 49 []],.agg [vi 1,vi 1,.fn 50 []],.agg [vi 1,vi 1,.fn 51 []],.agg [vi 2,vi 2,.fn 52 []],.agg [vi 2,vi 2,.fn 53 []],.agg [vi 2,vi 2,.fn 54 []],.agg [vi 3,vi 3000,.fn 55 []]]),(9,vs h),(10,.val (.list .str) m)],[.box 48 (.agg [vb f,vs b]),.box 9 (vs ([]:LB))],[[(0,.ptr 0 [])]]⟩
def x159(ak bc bd be bf bg bh bi:Int)(bj:UInt8)(bk bl:Int)(f b:LB)(bm:LI):Option R_:=H.e P_ [r,l,r,l,l,r,r,l,l,(call 2 40),r,r] ⟨[(3,.ptr 0 []),(4,vi ak)],[.box 101 (.agg [.agg [.agg [vi bc,vi bd,vi be,vi bf,vi bg],vi bh,.own 3],.agg [vi bi,vc bj,vi bk,vi bl]]),.box 9 (vs ([]:LB)),.box 48 (.agg [vb f,vs b]),Ai 3 bm],[[(4,.ptr 1 [])],[(0,.ptr 2 [])]]⟩
def x64(h:LB)(m:List LB)(f b:LB):Option R_:=H.e P_ [r] ⟨[(0,.ptr 0 []),(4,.ptr 1 []),(5,.mp true [[112,97,115,115,119,111,114,100],[102,105,108,101],[104,101,120],[114,101,112,111,114,116],[116,111,108,100],[115,97,109,112,108,101,115],[98,97,100],[115,107,105,112],[115,105,108,101,110,116],[119,97,118]] [.fn 37 [],.fn 38 [],.fn 39 [],.fn 40 [],.fn 41 [],.fn 42 [],.fn 43 [],.fn 44 [],.fn 45 [],.fn 46 []]),(6,.mp true [[99,117,116],[112,108,97,99,101],[102,114,97,109,101],[102,114,111,109],[97,116],[102,108,105,112],[98,117,114,115,116],[119,97,121,115],[99,108,105,112]] [.agg [vi 1,vi 1,.fn 47 []],.agg [vi 1,vi 1,.fn 48 []],.agg [vi 1,vi 1,.fn 49 []],.agg [vi 1,vi 1,.fn 50 []],.agg [vi 1,vi 1,.fn 51 []],.agg [vi 2,vi 2,.fn 52 []],.agg [vi 2,vi 2,.fn 53 []],.agg [vi 2,vi 2,.fn 54 []],.agg [vi 3,vi 3000,.fn 55 []]]),(9,vs h),(10,.val (.list .str) m)],[.box 48 (.agg [vb f,vs b]),.box 9 (vs ([]:LB))],[[(0,.ptr 0 [])]]⟩
theorem i144(w:LI)(g a:LB)(p u v:Int):∀(q:Nat) (af:Int) (ac:LX),z144 q (t144 w g a p u v af ac)=Hg w g a p u v q af ac:=
 ind (λ_ _=>by kernel_rfl) λq ih af ac=>Eq.trans (b:=Qg Dk (λaf ac=>(z144 q) (t144 w g a p u v af ac)) w g a p u v af ac) F3 (by simp only[ih]<;>rfl)
theorem e96:x96=Ky:=Eq.trans (b:=Qd Qm BA Ae4 AB Ae3 Ae0 Ae6 Po Adz Qe AI AE Ae2 (Pu (λw g a p u v af ac=>z144 Bs (t144 w g a p u v af ac)))) F3 (by rw[Ayx];simp only[i144,Am]<;>rfl)
theorem i94(h:LB)(m:List LB)(g a:LB):∀(q:Nat) (y:Int) (k:LI),z94 q (t94 h m g a y k)=Ic h m g a q y k:=
 ind (λ_ _=>by kernel_rfl) λq ih y k=>Eq.trans (b:=Qz x96 (λy k=>(z94 q) (t94 h m g a y k)) h m g a y k) F3 (by simp only[e96,ih]<;>rfl)
theorem e94:x94=Qy:=by funext h m g a y k;exact Eq.trans F3 ((i94 h m g a Bs y k).trans (by rw[Am];rfl))
theorem i154(n:List (Int×LB×Unit))(h:LB)(m:List LB)(f b:LB):∀(q:Nat) (ae:Int) (ad:List LB),z154 q (t154 n h m f b ae ad)=Qb n h m f b q ae ad:=
 ind (λ_ _=>by kernel_rfl) λq ih ae ad=>Eq.trans (b:=Ae8 (Aea (Pd (Dd (Dc x94)))) (λae ad=>(z154 q) (t154 n h m f b ae ad)) n h m f b ae ad) F3 (by simp only[e94,ih]<;>rfl)
theorem e81:x81=Rh:=Eq.trans (b:=Px (Dd (Dc x94)) (DK (Dd (Dc x94))) (CB (Dd (Dc x94))) (Ae9 (Dd (Dc x94))) (AQ (Dd (Dc x94))) (Adw (Pd (Dd (Dc x94))) (λn h m f b ae ad=>z154 Bs (t154 n h m f b ae ad))) (Rw (Dd (Dc x94)))) F3 (by rw[Ayq];simp only[e94,i154,Am]<;>rfl)
theorem e159:x159=AD:=F3
theorem e64:x64=Re:=Eq.trans (b:=Pg BK BB CH AA x159 AJ AS Ae5 Ae7 AK AF BY x81) F3 (by rw[Ayy];simp only[e159,e81]<;>rfl)
def st0(f b:LB)(o:List LB):S:=⟨[(0,.ptr 0 []),(4,.ptr 1 []),(5,.mp true [[112,97,115,115,119,111,114,100],[102,105,108,101],[104,101,120],[114,101,112,111,114,116],[116,111,108,100],[115,97,109,112,108,101,115],[98,97,100],[115,107,105,112],[115,105,108,101,110,116],[119,97,118]] [.fn 37 [],.fn 38 [],.fn 39 [],.fn 40 [],.fn 41 [],.fn 42 [],.fn 43 [],.fn 44 [],.fn 45 [],.fn 46 []]),(6,.mp true [[99,117,116],[112,108,97,99,101],[102,114,97,109,101],[102,114,111,109],[97,116],[102,108,105,112],[98,117,114,115,116],[119,97,121,115],[99,108,105,112]] [.agg [vi 1,vi 1,.fn 47 []],.agg [vi 1,vi 1,.fn 48 []],.agg [vi 1,vi 1,.fn 49 []],.agg [vi 1,vi 1,.fn 50 []],.agg [vi 1,vi 1,.fn 51 []],.agg [vi 2,vi 2,.fn 52 []],.agg [vi 2,vi 2,.fn 53 []],.agg [vi 2,vi 2,.fn 54 []],.agg [vi 3,vi 3000,.fn 55 []]]),(7,.ptr 2 [])],[.box 48 (.agg [vb f,vs b]),.box 9 (vs ([]:LB)),.box 31 (.own 3),.arr 9 .str o],[[(0,.ptr 0 [])]]⟩
def st1(f b:LB)(o:List LB):S:=⟨[(0,.ptr 0 []),(4,.ptr 1 []),(5,.mp true [[112,97,115,115,119,111,114,100],[102,105,108,101],[104,101,120],[114,101,112,111,114,116],[116,111,108,100],[115,97,109,112,108,101,115],[98,97,100],[115,107,105,112],[115,105,108,101,110,116],[119,97,118]] [.fn 37 [],.fn 38 [],.fn 39 [],.fn 40 [],.fn 41 [],.fn 42 [],.fn 43 [],.fn 44 [],.fn 45 [],.fn 46 []]),(6,.mp true [[99,117,116],[112,108,97,99,101],[102,114,97,109,101],[102,114,111,109],[97,116],[102,108,105,112],[98,117,114,115,116],[119,97,121,115],[99,108,105,112]] [.agg [vi 1,vi 1,.fn 47 []],.agg [vi 1,vi 1,.fn 48 []],.agg [vi 1,vi 1,.fn 49 []],.agg [vi 1,vi 1,.fn 50 []],.agg [vi 1,vi 1,.fn 51 []],.agg [vi 2,vi 2,.fn 52 []],.agg [vi 2,vi 2,.fn 53 []],.agg [vi 2,vi 2,.fn 54 []],.agg [vi 3,vi 3000,.fn 55 []]]),(7,.ptr 2 [])],[.box 48 (.agg [vb f,vs b]),.box 9 (vs ([]:LB)),.box 31 (.val (.list .str) o)],[[(0,.ptr 0 [])]]⟩
theorem e0:∀x:LB×LB×List LB,H.e P_ [] (st1 x.1 x.2.1 x.2.2)=u3 Az x:=(λx=>Eq.trans (b:=u3 (Tn x64) x) F3 (by simp only[e64]<;>rfl))
noncomputable def lan:An:= .loop [0,4,5,6,7] [⟨7,[],.own 9 .str⟩] .d
noncomputable def an:An:= .q (.q (.q (.q (.cut [0,4,5,6,7] [⟨7,[],.ro .str⟩] (.q (.blk lan)) tan))))
noncomputable def rf:Code:=cA (cB (cA (cB (cB (cB (cB (fB f24)))))))
noncomputable def kc(s:S):Option R_:=match s.cn [0,4,5,6,7] [⟨7,[],.ro .str⟩]with|some s1=>H.e P_ [] s1|none=>none
noncomputable def k2:K R_:=⟨kc,λid s=>Cp (Nat.beq id 0) (kc s)<|Kb.x id s,Kb.r⟩
noncomputable def lp:List LB->S->Option R_:=rnd lan (aL P_ H.T (Xp P_ H.T 8 H.s) 115 37 (rE rf) (sK rf) lan k2 .str) k2.n
theorem l0(f b:LB)(o:List LB):lp [] (st0 f b o)=Az f b o:=Eq.trans (b:=H.e P_ [] (st1 f b o)) F3 (e0 (f,b,o))
theorem l1(f b:LB)(o:List LB)(x:LB)(xs:List LB):lp (x::xs) (st0 f b o)=if(x==[])=true then some ([119,104,97,116],f,b)else Option.bind (Bf o [x]) λgq=>lp xs (st0 f b gq):=F3
theorem lq(f b:LB):∀(xs:List LB) (o:List LB),lp xs (st0 f b o)=Fu f b xs o
  |[],o=>l0 f b o
  |x::xs,o=>by
    rw[l1,Fu];simp only[lq f b xs]
    try rfl
noncomputable def its:List (Nat×ItC):=[(138,⟨[9,9,3],true,.str,J4⟩)]
theorem run(f b dq:LB):exF P_ H.T (Xp P_ H.T 8 H.s) 115 its (fB f24) an Kb (d! 48 f b dq)=Bq f b dq:=by
  refine Eq.trans (b:=Option.bind (wG 32 dq) λxs=>lp xs (st0 f b [])) F3 ?_;simp only[lq];rfl
theorem je:∀p∈its,ItOk P_ gl p.1 p.2:=by
  intro p hp;rcases List.mem_cons.1 hp with rfl|hp
  · exact Aig Acq ent138
  · cases hp
theorem ok:jh P_ gl 24 48 Bq:=Bfo (T:=H.T) (VK:=H.s) (its:=its) (an:=an) (c:=fB f24) mixed func24 F3 (lN _ _ _) (Is.cons ent37 (Is.cons ent38 (Is.cons ent39 (Is.cons ent40 (Is.cons ent41 (Is.cons ent42 (Is.cons ent43 (Is.cons ent44 (Is.cons ent45 (Is.cons ent46 (Is.cons ent47 (Is.cons ent48 (Is.cons ent49 (Is.cons ent50 (Is.cons ent51 (Is.cons ent52 (Is.cons ent53 (Is.cons ent54 (Is.cons ent55 (Is.cons ent56 (Is.cons ent57 (Is.cons ent70 (Is.cons ent81 (Is.cons ent92 (Is.cons ent96 (Is.cons ent97 (Is.nil))))))))))))))))))))))))))) je F3 run
end F24
namespace F10
abbrev ps:List Sh:=[.lf .str none]
abbrev rs:List Sh:=[.lf .str none,.lf (.int .i64) none]
abbrev R_:=Zb (Qo rs)
noncomputable def T_:Tab:=kt [F21.k,F25.k] false
noncomputable def its:List (Nat×ItC):=[(34,⟨[9],true,.str,zn⟩)]
noncomputable def VK:List (Nat×An):=[(22,.d),(23,.d),(26,.pr 1 51 5),(36,.pr 0 51 5)]
noncomputable def lan:An:= .loop [5,6,14] [⟨6,[0],.wp⟩,⟨6,[1],.own 5 (.int .u8)⟩,⟨14,[0],.ro (.int .u8)⟩] .d
noncomputable def an:An:= .q (.q (.q (.q (.seq (.q (.blk lan)) .d))))
noncomputable def rf:Code:=cA (cB (cA (cB (cB (cB (cB (fB f10)))))))
noncomputable def tl:Code:=cB (cB (cB (cB (cB (fB f10)))))
noncomputable abbrev I_:fN R_:=lJ 24 48 Bq (Xp P_ T_ 8 VK)
noncomputable def k0:K R_:={n:=nI P_ rs f10.results.toList,x:=λ_ _=>none,r:=nI P_ rs f10.results.toList}
noncomputable def kn(s:S):Option R_:=ex P_ T_ I_ 25 tl .d k0 s
noncomputable def k2:K R_:=⟨kn,λid s=>Cp (Nat.beq id 0) (kn s)<|k0.x id s,k0.r⟩
noncomputable def lp:List LB->S->Option R_:=rnd lan (aL P_ T_ I_ 25 17 (rE rf) (sK rf) lan k2 .str) k2.n
def st(b f a:LB):S:=⟨[(5,.ptr 0 []),(6,.ptr 1 []),(14,.ptr 2 [])],[.box 46 (.ptr 2 []),.box 51 (.agg [.wp 1,.own 3]),.box 48 (.agg [vb b,vs f]),Ab 5 a],[]⟩
theorem l0(b f a:LB):lp [] (st b f a)=(Option.bind (Gi (decide (Ad a<=17179869184))) λ_=>some (a,(0:Int)):Option R_):=F3
theorem l1(b f a:LB)(g:LB)(xs:List LB):lp (g::xs) (st b f a)=(Option.bind (Iz g ([10]:LB)) λk=>
Option.bind (Bq b f k) λ(m,n,o)=>
Option.bind (Bf m ([10]:LB)) λp=>
Option.bind (Bf a p) λu=>
(λb f a=>lp xs (st b f a)) n o u:Option R_):=F3
theorem lq:∀(xs:List LB) (b f a:LB),lp xs (st b f a)=Nt xs b f a
  |[],b,f,a=>l0 b f a
  |g::xs,b,f,a=>by
    rw[l1,Nt];simp only[lq xs]
    try rfl
theorem run(x:Zb (Qo ps)):eC P_ T_ rs I_ its f10 an ps x=AR x:=by
  refine Eq.trans (b:=(Option.bind (Sy x) λh=>
if(Bg h (0:Int))=true then(
some (([]:LB),h))
else(
Option.bind (D_ x) λxs=>(λb f a=>lp xs (st b f a)) ([]:LB) ([]:LB) ([]:LB)):Option R_)) F3 ?_
  simp only[lq];rfl
theorem je:∀p∈its,ItOk P_ T_.gl p.1 p.2:=by
  intro p hp;rcases List.mem_cons.1 hp with rfl|hp
  · exact Ahf F35.k.2 ent34
  · cases hp
def k:Kc P_ gl:=⟨(10,⟨ps,rs,λx=>AR x⟩),Bdo (T:=T_) (inl:=I_) (its:=its) (an:=an) mixed func10 ent10 (lN _ _ _) (Aqt (RV mixed (lN _ _ _) (Is.cons ent22 (Is.cons ent23 (Is.cons ent26 (Is.cons ent36 (Is.nil) N3) M2))) 8) ent24 F24.ok) je F3 run⟩
end F10
namespace F9
def H:=hd_ [Ss,Ss] [Sz] .d [F10.k] f9
def k:KC_:=kk_ 9 H (u2 QZ) func9
end F9
namespace F12
def H:=hd_ [] [Sz] .d [F9.k,F11.k] f12
def k:KC_:=kk_ 12 H (λ_=>Rj) func12
end F12
theorem Bdc:ConOk Tryz.prog gl 19 Th:=Bdp ent19
namespace F14
abbrev R_:=((List LB))
def H:=hd_ [Ss] [.lf (.list .str) (some 9)] (.q (.q (.q (.cut [3] [] (.q (.blk (.loop [0,3,4,5] [⟨3,[],.own 9 .str⟩] .d))) .d)))) [] f14
def t4(a:LB)(g b:Int)(f:List LB):S:=⟨[(0,vs a),(3,.own 0),(4,vi g),(5,vi b)],[.arr 9 .str f],[]⟩
def z4:ZT_ R_:=H.i P_ [r,r,r,l,r,d]
theorem i4(a:LB):∀(q:Nat) (g b:Int) (f:List LB),z4 q (t4 a g b f)=Cz a q g b f:=
 ind (λ_ _ _=>by kernel_rfl) λq ih g b f=>Eq.trans (b:=Ir Tm (λg b f=>(z4 q) (t4 a g b f)) a g b f) F3 (by simp only[ih]<;>rfl)
def k:KC_:=kk_ 14 H Rt func14 (λx=>Eq.trans (b:=EF (λa g b f=>z4 Bs (t4 a g b f)) x) F3 (by simp only[i4,Am]<;>rfl))
end F14
namespace F15
def H:=hd_ [Ss] [.lf (.list .str) (some 9),Sz] .d [F10.k,F14.k] f15
def k:KC_:=kk_ 15 H Mb func15
end F15
namespace F31
def H:=hd_ [.agg [Si,Si,Si,Sw]] [.agg [Si,Si]] .d [] f31
def k:KC_:=kk_ 31 H (u4 Gy) func31
end F31
namespace F101
def H:=hd_ [Si] [Si] .d [] f101
def k:KC_:=kk_ 101 H Ka func101
end F101
namespace F63
def H:=hd_ [.agg [Si,Si]] [Si] .d [F101.k] f63
def k:KC_:=kk_ 63 H (u2 Eo) func63
end F63
namespace F64
abbrev R_:=Int
def H:=hd_ [Si,Sw] [Si] (.q (.q (.q (.q (.cut [] [] (.q (.blk (.loop [1,5,6] [] .d))) .d))))) [F101.k] f64
def t4(a:LX)(b f:Int):S:=⟨[(1,vw a),(5,vi b),(6,vi f)],[],[]⟩
def z4:ZT_ R_:=H.i P_ [r,r,r,r,l,r,d]
theorem i4(a:LX)(b:Int):∀(q:Nat) (f:Int),z4 q (t4 a b f)=Bl a b q f:=
 ind (λ_=>by kernel_rfl) λq ih f=>Eq.trans (b:=Dt EA (λf=>(z4 q) (t4 a b f)) a b f) F3 (by simp only[ih]<;>rfl)
def k:KC_:=kk_ 64 H (u2 Bo) func64 (λx=>Eq.trans (b:=u2 (Ee (λa b f=>z4 Bs (t4 a b f))) x) F3 (by simp only[i4,Am]<;>rfl))
end F64
namespace F30
def H:=hd_ [.agg [Si,Si],Sw] [Si] .d [F63.k,F64.k] f30
def k:KC_:=kk_ 30 H (u3 Cn) func30
end F30
namespace F65
def H:=hd_ [.agg [Si,Si],Si] [Si] .d [F63.k] f65
def k:KC_:=kk_ 65 H (u3 Rs) func65
end F65
namespace F150
def H:=hd_ [Si] [Si,Si] .d [] f150
def k:KC_:=kk_ 150 H Nk func150
end F150
namespace F102
abbrev R_:=(LI×Int)
def H:=hd_ [Si,Si] [Ol 3,Si] (.q (.q (.q (.q (.cut [8] [] (.blk (.loop [1,6,8] [⟨8,[],.own 3 (.int .i64)⟩] .d)) .d))))) [F150.k] f102
def t4(b f:Int)(a:LI):S:=⟨[(1,vi f),(6,vi b),(8,.own 0)],[Ai 3 a],[]⟩
def z4:ZT_ R_:=H.i P_ [r,r,r,r,l,d]
theorem i4(b:Int):∀(q:Nat) (f:Int) (a:LI),z4 q (t4 b f a)=Ie b q f a:=
 ind (λ_ _=>by kernel_rfl) λq ih f a=>Eq.trans (b:=Oo Wh (λf a=>(z4 q) (t4 b f a)) b f a) F3 (by simp only[ih]<;>rfl)
def k:KC_:=kk_ 102 H (u2 Vu) func102 (λx=>Eq.trans (b:=u2 (Ot (λb f a=>z4 Bs (t4 b f a))) x) F3 (by simp only[i4,Am]<;>rfl))
end F102
namespace F66
def H:=hd_ [Si,Si] [Si,Si] .d [F102.k] f66
def k:KC_:=kk_ 66 H (u2 Iy) func66
end F66
namespace F32
def H:=hd_ [.agg [Si,Si,Si,Sw],Si] [Sz] .d [F31.k,F65.k,F66.k] f32
def k:KC_:=kk_ 32 H (u5 CO) func32
end F32
namespace F20
def H:=hd_ [.agg [Si,Si,Si,Sw]] [Si] .d [F30.k,F31.k,F32.k] f20
def k:KC_:=kk_ 20 H (u4 Ct) func20
end F20
namespace F7
abbrev R_:=Bool
def H:=hd_ [.agg [Si,Si,Si,Sw],Sz] [Sz] (.q (.q (.q (.cut [1,2,5,6] [] .d (.q (.cut [1,2,5,6,7] [] (.q (.blk (.loop [1,2,5,6,7,8] [] .d))) (.q (.cut [2,5,6,7,10] [] .d (.q (.cut [2,5,7,11] [] .d (.cut [2,5,7,11] [] .d .d))))))))))) [F12.k,F15.k,⟨(19,Th),Bdc⟩,F20.k] f7
def t9(o g:Bool)(n:LB)(h a k:Int)(b:LX)(m:LB)(p:Int):S:=⟨[(1,vt o),(2,.ptr 0 []),(5,vt g),(6,vs n),(7,vs m),(8,vi p)],[.box 42 (.agg [vi h,vi a,vi k,vw b])],[]⟩
def z9:ZT_ R_:=H.i P_ [r,r,r,r,r,l,r,d]
theorem i9(o g:Bool)(n:LB)(h a k:Int)(b:LX):∀(q:Nat) (m:LB) (p:Int),z9 q (t9 o g n h a k b m p)=Dn o g n h a k b q m p:=
 ind (λ_ _=>by kernel_rfl) λq ih m p=>Eq.trans (b:=Kz Cv (λm p=>(z9 q) (t9 o g n h a k b m p)) o g n h a k b m p) F3 (by simp only[ih]<;>rfl)
def k:KC_:=kk_ 7 H (u5 Jl) func7 (λx=>Eq.trans (b:=u5 (Kw (Le (λo g n h a k b m p=>z9 Bs (t9 o g n h a k b m p)))) x) F3 (by simp only[i9,Am]<;>rfl))
end F7
end
end Go.Proofs.YtniihmolajmfcaaGreatDoor
