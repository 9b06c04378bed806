/- A part of a proof (see the text that ends in Proof). No conditions. -/
import Derived.Test.YtniihmolajmfcaaGreatDoorChHA
set_option linter.unusedVariables false
set_option linter.unusedSimpArgs false
set_option maxRecDepth 10000
namespace Go.Proofs.YtniihmolajmfcaaGreatDoor
open Go Go.Lv Go.Pl Go.Rx Go.Rx.PS
noncomputable section
set_option linter.unusedSectionVars false
variable [Ev]
def g1:List Value:=[.int .i64 2,.int .i64 2,.int .i64 2,.int .i64 4,.int .i64 4]
def g2:List Value:=[.bool true,.int .i64 0]
def g5:List Value:=[Ev.ev 5]
def g6:List Value:=[Ev.ev 6]
def g7:List Value:=[.bool false,.int .i64 0]
def g8:List Value:=[.int .i64 2,.int .i64 2,.int .i64 4,.int .i64 4,.int .i64 2,.int .i64 2,.int .i64 2,.int .i64 2,.int .i64 4]
def g9:List Value:=[.int .u8 1,.int .u8 0,.int .u8 0,.int .u8 0,.int .u8 0,.int .u8 0,.int .u8 16,.int .u8 0,.int .u8 128,.int .u8 0,.int .u8 0,.int .u8 170,.int .u8 0,.int .u8 56,.int .u8 155,.int .u8 113]
def g10:List Value:=[.int .u64 1,.int .u64 10,.int .u64 100,.int .u64 1000,.int .u64 10000,.int .u64 100000,.int .u64 1000000,.int .u64 10000000,.int .u64 100000000,.int .u64 1000000000,.int .u64 10000000000,.int .u64 100000000000,.int .u64 1000000000000,.int .u64 10000000000000,.int .u64 100000000000000,.int .u64 1000000000000000,.int .u64 10000000000000000,.int .u64 100000000000000000,.int .u64 1000000000000000000,.int .u64 10000000000000000000]
def g13:List Value:=[.int .u8 0,.int .u8 1,.int .u8 56,.int .u8 2,.int .u8 57,.int .u8 49,.int .u8 28,.int .u8 3,.int .u8 61,.int .u8 58,.int .u8 42,.int .u8 50,.int .u8 38,.int .u8 29,.int .u8 17,.int .u8 4,.int .u8 62,.int .u8 47,.int .u8 59,.int .u8 36,.int .u8 45,.int .u8 43,.int .u8 51,.int .u8 22,.int .u8 53,.int .u8 39,.int .u8 33,.int .u8 30,.int .u8 24,.int .u8 18,.int .u8 12,.int .u8 5,.int .u8 63,.int .u8 55,.int .u8 48,.int .u8 27,.int .u8 60,.int .u8 41,.int .u8 37,.int .u8 16,.int .u8 46,.int .u8 35,.int .u8 44,.int .u8 21,.int .u8 52,.int .u8 32,.int .u8 23,.int .u8 11,.int .u8 54,.int .u8 26,.int .u8 40,.int .u8 15,.int .u8 34,.int .u8 20,.int .u8 31,.int .u8 10,.int .u8 25,.int .u8 14,.int .u8 19,.int .u8 9,.int .u8 13,.int .u8 8,.int .u8 7,.int .u8 6]
def gl:List (Nat×List Value):=[(1,g1),(2,g2),(5,g5),(6,g6),(7,g7),(8,g8),(9,g9),(10,g10),(13,g13)]
theorem mixed:Tryz.prog.follows .mixedOrders=true:=F2
noncomputable abbrev P_:=Tryz.prog
noncomputable def kt(l:List (Kc P_ gl))(v:Bool)(c:Bool:=false):=wV l v c
theorem co(H:Hd){f:Nat}{F:Uw (Oe H.p)->Option (Uw (Oe H.r))}(hf:P_.funcs[f]? =some H.f)(h:∀x,H.u P_ x=F x:=by intro x;kernel_rfl)(hT:Mw P_ H.T:=by exact OV _ _ _)(hb:okA P_ H=true:=by kernel_rfl):ConOk P_ H.T.gl f ⟨H.p,H.r,F⟩:=Hd.cn mixed H hf hT hb h
def kk_(f:Nat)(H:Hd)(F:Uw (Oe H.p)->Option (Uw (Oe H.r)))(hf:P_.funcs[f]? =some H.f)(h:∀x,H.u P_ x=F x:=by intro x;kernel_rfl)(hT:Mw P_ H.T:=by exact OV _ _ _)(hb:okA P_ H=true:=by kernel_rfl):Kc P_ H.T.gl:=⟨(f,⟨H.p,H.r,F⟩),Hd.cn mixed H hf hT hb h⟩
abbrev KC_:=Kc P_ gl
abbrev hd_(p r:List Sh)(a:An)(l:List KC_)(f:Func)(v:Bool:=false)(s:List (Nat×An):=[]):Hd:=⟨p,r,a,kt l v,s,f⟩
abbrev ZT_(R:Type):=Nat->S->Option R
theorem cp(H:Hd){f:Nat}{F:Uw (Oe H.p)->Option (Uw (Oe H.r))}(hf:P_.funcs[f]? =some H.f)(hP:∀p∈H.s,YB P_ p.2 p.1)(h:∀x,H.u P_ x=F x:=by intro x;kernel_rfl)(hT:Mw P_ H.T:=by exact OV _ _ _)(hb:okP P_ H=true:=by kernel_rfl):ConOk P_ H.T.gl f ⟨H.p,H.r,F⟩:=Hd.cp mixed H hf hT hP hb h
theorem ent10:Ent Tryz.prog 10:=Ent.mk Tryz.func10 F2 rfl
theorem ent19:Ent Tryz.prog 19:=Ent.mk Tryz.func19 F2 rfl
theorem ent22:Ent Tryz.prog 22:=Ent.mk Tryz.func22 F2 rfl
theorem ent23:Ent Tryz.prog 23:=Ent.mk Tryz.func23 F2 rfl
theorem ent24:Ent Tryz.prog 24:=Ent.mk Tryz.func24 F2 rfl
theorem ent26:Ent Tryz.prog 26:=Ent.mk Tryz.func26 F2 rfl
theorem ent27:Ent Tryz.prog 27:=Ent.mk Tryz.func27 F2 rfl
theorem ent34:Ent Tryz.prog 34:=Ent.mk Tryz.func34 F2 rfl
theorem ent36:Ent Tryz.prog 36:=Ent.mk Tryz.func36 F2 rfl
theorem ent37:Ent Tryz.prog 37:=Ent.mk Tryz.func37 F2 rfl
theorem ent38:Ent Tryz.prog 38:=Ent.mk Tryz.func38 F2 rfl
theorem ent39:Ent Tryz.prog 39:=Ent.mk Tryz.func39 F2 rfl
theorem ent40:Ent Tryz.prog 40:=Ent.mk Tryz.func40 F2 rfl
theorem ent41:Ent Tryz.prog 41:=Ent.mk Tryz.func41 F2 rfl
theorem ent42:Ent Tryz.prog 42:=Ent.mk Tryz.func42 F2 rfl
theorem ent43:Ent Tryz.prog 43:=Ent.mk Tryz.func43 F2 rfl
theorem ent44:Ent Tryz.prog 44:=Ent.mk Tryz.func44 F2 rfl
theorem ent45:Ent Tryz.prog 45:=Ent.mk Tryz.func45 F2 rfl
theorem ent46:Ent Tryz.prog 46:=Ent.mk Tryz.func46 F2 rfl
theorem ent47:Ent Tryz.prog 47:=Ent.mk Tryz.func47 F2 rfl
theorem ent48:Ent Tryz.prog 48:=Ent.mk Tryz.func48 F2 rfl
theorem ent49:Ent Tryz.prog 49:=Ent.mk Tryz.func49 F2 rfl
theorem ent50:Ent Tryz.prog 50:=Ent.mk Tryz.func50 F2 rfl
theorem ent51:Ent Tryz.prog 51:=Ent.mk Tryz.func51 F2 rfl
theorem ent52:Ent Tryz.prog 52:=Ent.mk Tryz.func52 F2 rfl
theorem ent53:Ent Tryz.prog 53:=Ent.mk Tryz.func53 F2 rfl
theorem ent54:Ent Tryz.prog 54:=Ent.mk Tryz.func54 F2 rfl
theorem ent55:Ent Tryz.prog 55:=Ent.mk Tryz.func55 F2 rfl
theorem ent56:Ent Tryz.prog 56:=Ent.mk Tryz.func56 F2 rfl
theorem ent57:Ent Tryz.prog 57:=Ent.mk Tryz.func57 F2 rfl
theorem ent58:Ent Tryz.prog 58:=Ent.mk Tryz.func58 F2 rfl
theorem ent62:Ent Tryz.prog 62:=Ent.mk Tryz.func62 F2 rfl
theorem ent68:Ent Tryz.prog 68:=Ent.mk Tryz.func68 F2 rfl
theorem ent70:Ent Tryz.prog 70:=Ent.mk Tryz.func70 F2 rfl
theorem ent81:Ent Tryz.prog 81:=Ent.mk Tryz.func81 F2 rfl
theorem ent92:Ent Tryz.prog 92:=Ent.mk Tryz.func92 F2 rfl
theorem ent93:Ent Tryz.prog 93:=Ent.mk Tryz.func93 F2 rfl
theorem ent96:Ent Tryz.prog 96:=Ent.mk Tryz.func96 F2 rfl
theorem ent97:Ent Tryz.prog 97:=Ent.mk Tryz.func97 F2 rfl
theorem ent99:Ent Tryz.prog 99:=Ent.mk Tryz.func99 F2 rfl
theorem ent138:Ent Tryz.prog 138:=Ent.mk Tryz.func138 F2 rfl
theorem ent139:Ent Tryz.prog 139:=Ent.mk Tryz.func139 F2 rfl
theorem ent140:Ent Tryz.prog 140:=Ent.mk Tryz.func140 F2 rfl
theorem ent151:Ent Tryz.prog 151:=Ent.mk Tryz.func151 F2 rfl
theorem ent168:Ent Tryz.prog 168:=Ent.mk Tryz.func168 F2 rfl
theorem ent191:Ent Tryz.prog 191:=Ent.mk Tryz.func191 F2 rfl
theorem S7:YB Tryz.prog (.pr 1 51 5) 26:=Apf
theorem P4:YB Tryz.prog (.pr 0 51 5) 36:=Aj5
theorem qR:YB Tryz.prog (.pr 2 51 5) 157:=Ajy
abbrev u2{A B R:Type}(f:A->B->R)(x:A×B):=f x.1 x.2
abbrev u3{A B C R:Type}(f:A->B->C->R):=u2 λa=>u2 (f a)
abbrev u4{A B C D R:Type}(f:A->B->C->D->R):=u2 λa=>u3 (f a)
abbrev u5{A B C D E R:Type}(f:A->B->C->D->E->R):=u2 λa=>u4 (f a)
abbrev u6{A B C D E F R:Type}(f:A->B->C->D->E->F->R):=u2 λa=>u5 (f a)
abbrev u7{A B C D E F G R:Type}(f:A->B->C->D->E->F->G->R):=u2 λa=>u6 (f a)
abbrev u8{A B C D E F G H R:Type}(f:A->B->C->D->E->F->G->H->R):=u2 λa=>u7 (f a)
abbrev u9{A B C D E F G H I R:Type}(f:A->B->C->D->E->F->G->H->I->R):=u2 λa=>u8 (f a)
abbrev u10{A B C D E F G H I J R:Type}(f:A->B->C->D->E->F->G->H->I->J->R):=u2 λa=>u9 (f a)
abbrev u11{A B C D E F G H I J K R:Type}(f:A->B->C->D->E->F->G->H->I->J->K->R):=u2 λa=>u10 (f a)
abbrev u12{A B C D E F G H I J K L R:Type}(f:A->B->C->D->E->F->G->H->I->J->K->L->R):=u2 λa=>u11 (f a)
abbrev u13{A B C D E F G H I J K L M R:Type}(f:A->B->C->D->E->F->G->H->I->J->K->L->M->R):=u2 λa=>u12 (f a)
open Go.Proofs.Tryz
theorem CV:ConOk Tryz.prog gl 27 Pw:=Aze ent27
namespace F67
def H:=hd_ [Ss,Ss] [Sz] .d [] f67
def k:KC_:=kk_ 67 H (u2 Cy) func67
end F67
namespace F33
def H:=hd_ [Ss,Ss] [Sz] .d [F67.k] f33
def k:KC_:=kk_ 33 H (u2 Ra) func33
end F33
namespace F21
abbrev R_:=Int
def H:=hd_ [Ss] [Si] (.q (.cut [0] [] .d .d)) [⟨(27,Pw),CV⟩,F33.k] f21
def k:KC_:=kk_ 21 H Qa func21
end F21
namespace F11
def H:=hd_ [Ss] [Si,Si] .d [F21.k,⟨(27,Pw),CV⟩] f11
def k:KC_:=kk_ 11 H lU func11
end F11
theorem SI:ConOk Tryz.prog gl 62 FJ:=Ayp ent62
theorem Aeh:ConOk Tryz.prog gl 68 Nd:=Adz ent68
namespace F35
def H:=hd_ [Ss,Sc] [Si] .d [⟨(68,Nd),Aeh⟩] f35
def k:KC_:=kk_ 35 H (u2 Df) func35
end F35
theorem Vx:ConOk Tryz.prog gl 99 Nu:=Ab1 ent99 (by unfold gl;repeat first|exact List.Mem.head _|apply List.Mem.tail)
namespace F73
def H:=hd_ [Si] [Ss] .d [⟨(99,Nu),Vx⟩] f73
def k:KC_:=kk_ 73 H Ak func73
end F73
namespace F71
abbrev R_:=LB
def H:=hd_ [Sb,Si] [Ss] (.q (.q (.q (.cut [5] [] (.q (.blk (.loop [5,12,13,14] [⟨5,[0],.wp⟩,⟨5,[1],.own 5 (.int .u8)⟩] (.q (.q (.seq (.blk (.q (.seq (.keep [5,7,12,13,14] true) (.keep [5,12,13,14] true)))) .d)))))) .d)))) [F73.k] f71 false [(26,.pr 1 51 5),(36,.pr 0 51 5),(104,.d)]
def t4(a:LB)(f:Int)(b:LB):S:=⟨[(5,.ptr 0 []),(12,vb a),(13,vi (Aa a)),(14,vi f)],[.box 51 (.agg [.wp 0,.own 1]),Ab 5 b],[]⟩
def z4:ZT_ R_:=H.i P_ [r,r,r,l,r,d]
theorem i4(a:LB):∀(q:Nat) (f:Int) (b:LB),z4 q (t4 a f b)=Sk a q f b:=
 ind (λ_ _=>by kernel_rfl) λq ih f b=>Eq.trans (b:=KZ KS (λf b=>(z4 q) (t4 a f b)) a f b) F2 (by simp only[ih]<;>rfl)
def k:Kc P_ gl:=⟨(71,⟨H.p,H.r,u2 Ei⟩),cp H func71 (by intro p hp;rcases List.mem_cons.1 hp with rfl|hp;exact S7;rcases List.mem_cons.1 hp with rfl|hp;exact P4;rcases List.mem_cons.1 hp with rfl|hp;exact trivial;cases hp) (λx=>Eq.trans (b:=u2 (Za (λa f b=>z4 Bc (t4 a f b))) x) F2 (by simp only[i4,Ah]<;>rfl))⟩
end F71
namespace F130
def H:=hd_ [Sb,Sb] [Sz] .d [] f130
def k:KC_:=kk_ 130 H (u2 Mg) func130
end F130
namespace F239
def H:=hd_ [Sb,Sb] [Sz] .d [F130.k] f239
def k:KC_:=kk_ 239 H (u2 Ma) func239
end F239
namespace F341
abbrev R_:=(Int×Int)
def H:=hd_ [Sb] [Si,Si] (.q (.q (.q (.cut [4] [] (.q (.blk (.loop [4,10,11,12] [] .d))) .d)))) [] f341
def t4(a:LB)(b f:Int):S:=⟨[(4,vi b),(10,vb a),(11,vi (Aa a)),(12,vi f)],[],[]⟩
def z4:ZT_ R_:=H.i P_ [r,r,r,l,r,d]
theorem i4(a:LB):∀(q:Nat) (b f:Int),z4 q (t4 a b f)=Sy a q b f:=
 ind (λ_ _=>by kernel_rfl) λq ih b f=>Eq.trans (b:=SD VA (λb f=>(z4 q) (t4 a b f)) a b f) F2 (by simp only[ih]<;>rfl)
def k:KC_:=kk_ 341 H PX func341 (λx=>Eq.trans (b:=UO (λa b f=>z4 Bc (t4 a b f)) x) F2 (by simp only[i4,Ah]<;>rfl))
end F341
namespace F308
def CW(j5:LB->UInt8->UInt8->Option (Int×Int))(a:LB):Option (Int×Int):=
(Ma a ([(73:UInt8),(68:UInt8),(51:UInt8)]:LB)).bind λn=>
if(!n)then
some (0,6)
else
if(Bw (Aa a) 10)then
some (0,24)
else
(Ae a 3).bind λf=>
(Ae a 5).bind λb=>
(λo:Option (Int×Int)=>
(λp:Option (Int×Int)=>
both (
both (
bo (
j5 a f b)) [
o,
o]) [
bo2 (
bo (
j5 a f b)),
p,
p]) (
both (
o) [
bo (
j5 a f b),
both (
bo (
j5 a f b)) [
j5 a f b]])) (
both (
j5 a f b) [
bo (
j5 a f b)])
theorem Anp: @CW= @FL:=by
  unfold CW FL
  try simp only[CJ,Ql,Qs]
  all_goals
    repeat (refine funext λ_=>?_)
    repeat' first
      |with_reducible rfl
      |with_reducible refine Ft ?_ ?_
      |with_reducible refine Fm ?_ ?_ ?_
      |with_reducible refine Fx ?_ ?_ ?_ ?_
      |((with_reducible refine Iv ?_ ?_);focus (intro h;first|(subst h;rfl)|(simp only[h];rfl)|(simp[Ay,Aa,h];done)))
      |with_reducible refine Ii λx=>?_
      |with_reducible refine Mm (λ_=>?_) (λ_=>?_)
      |(refine Dh (λh=>by simp only[h,Ir,Cp,Cj,ite_self]) (λx h=>?_);(try simp only[h,Cp]))
      |(refine Ee (λh=>?_) (λh=>?_)<;>simp only[h,if_true,if_false,Bool.false_eq_true])
abbrev R_:=(Int×Int)
def H:=hd_ [Sb] [Si,Si] (.q (.q (.q (.cut [0,4,5] [] (.mode false) (.q (.q (.cut [0,5,6] [] (.cut [0,5,6,43] [] (.keep [0,5,6,7,8,31,32,33,34,35,36,37,38,39,40,41,42,43] true) .d) (.q (.cut [0,5,6] [] .d .d))))))))) [F130.k,F239.k,F341.k] f308 false [(342,.d)]
def x6(a:LB)(g:Int)(b:UInt8)(m:Bool):Option R_:=H.e P_ [r,r,r,r,r,r,l,r] ⟨[(0,vb a),(5,.ptr 0 []),(6,vi g),(43,vt m)],[.box 5 (vc b)],[]⟩
def x5(a:LB)(f b:UInt8):Option R_:=H.e P_ [r,r,r,r] ⟨[(0,vb a),(4,.ptr 0 []),(5,.ptr 1 [])],[.box 5 (vc f),.box 5 (vc b)],[]⟩
theorem e6:x6=FG:=F2
theorem e5:x5=aL:=Eq.trans (b:=bQ x6) F2 (by simp only[e6]<;>rfl)
def k:KC_:=kk_ 308 H WQ func308 (λx=>Eq.trans (b:=CW x5 x) F2 (by rw[Anp];simp only[e5]<;>rfl))
end F308
namespace F265
abbrev R_:=(UInt64×Int)
def H:=hd_ [Sb] [Sq,Si] (.q (.q (.q (.cut [4] [] (.q (.blk (.loop [4,15,16,17] [] .d))) .d)))) [] f265
def t4(a:LB)(f:UInt64)(b:Int):S:=⟨[(4,vq f),(15,vb a),(16,vi (Aa a)),(17,vi b)],[],[]⟩
def z4:ZT_ R_:=H.i P_ [r,r,r,l,r,d]
theorem i4(a:LB):∀(q:Nat) (f:UInt64) (b:Int),z4 q (t4 a f b)=MU a q f b:=
 ind (λ_ _=>by kernel_rfl) λq ih f b=>Eq.trans (b:=zU zO (λf b=>(z4 q) (t4 a f b)) a f b) F2 (by simp only[ih]<;>rfl)
def k:KC_:=kk_ 265 H qY func265 (λx=>Eq.trans (b:=B8 (λa f b=>z4 Bc (t4 a f b)) x) F2 (by simp only[i4,Ah]<;>rfl))
end F265
namespace F205
def H:=hd_ [Sb,Si,Si] [Sq,Si] .d [F265.k] f205
def k:KC_:=kk_ 205 H (u3 A9) func205
end F205
namespace F280
def H:=hd_ [Sq,Si] [Sz] .d [] f280
def k:KC_:=kk_ 280 H (u2 W?) func280
end F280
namespace F225
abbrev R_:=(LB×Int)
def H:=hd_ [Sq,Si] [Ob 5,Si] (.q (.q (.q (.q (.cut [6] [] (.q (.blk (.loop [0,6,21,22] [] .d))) .d))))) [F280.k] f225
def t4(f:UInt64)(g:LB)(a:Int)(b:LB):S:=⟨[(0,vq f),(6,.own 0),(21,vi (Aa g)),(22,vi a)],[Ab 5 b],[]⟩
def z4:ZT_ R_:=H.i P_ [r,r,r,r,l,r,d]
theorem i4(f:UInt64)(g:LB):∀(q:Nat) (a:Int) (b:LB),z4 q (t4 f g a b)=OA f g q a b:=
 ind (λ_ _=>by kernel_rfl) λq ih a b=>Eq.trans (b:=zQ zH (λa b=>(z4 q) (t4 f g a b)) f g a b) F2 (by simp only[ih]<;>rfl)
def k:KC_:=kk_ 225 H (u2 Mc) func225 (λx=>Eq.trans (b:=u2 (zV (λf g a b=>z4 Bc (t4 f g a b))) x) F2 (by simp only[i4,Ah]<;>rfl))
end F225
namespace F241
abbrev R_:=LB
def H:=hd_ [Si,Si,Sq] [Ob 5] (.q (.q (.cut [7] [] (.q (.blk (.loop [7,20,21,22] [] .d))) .d))) [F225.k] f241
def t4(a b:Int)(f:UInt64)(h:Int)(g:LB):S:=⟨[(7,.own 0),(20,.own 1),(21,vi (Aa ([(2000:UInt64),(Am (Af a (32:Int)):UInt64),(Am b:UInt64),f,(0:UInt64),(0:UInt64)]:LQ))),(22,vi h)],[Ab 5 g,.arr 272 (.int .u64) ([(2000:UInt64),(Am (Af a (32:Int)):UInt64),(Am b:UInt64),f,(0:UInt64),(0:UInt64)]:LQ)],[]⟩
def z4:ZT_ R_:=H.i P_ [r,r,l,r,d]
theorem i4(a b:Int)(f:UInt64):∀(q:Nat) (h:Int) (g:LB),z4 q (t4 a b f h g)=YT a b f q h g:=
 ind (λ_ _=>by kernel_rfl) λq ih h g=>Eq.trans (b:=Y8 X6 (λh g=>(z4 q) (t4 a b f h g)) a b f h g) F2 (by simp only[ih]<;>rfl)
def k:KC_:=kk_ 241 H (u3 jF) func241 (λx=>Eq.trans (b:=u3 (oK (λa b f h g=>z4 Bc (t4 a b f h g))) x) F2 (by simp only[i4,Ah]<;>rfl))
end F241
namespace F240
def H:=hd_ [Sb,Sq] [.agg [Si,Si],Sz] .d [F130.k,F205.k,F241.k] f240
def k:KC_:=kk_ 240 H (u2 SJ) func240
end F240
namespace F309
def H:=hd_ [Sb] [Si,Si] .d [F130.k,F239.k,F240.k,F241.k] f309
def k:KC_:=kk_ 309 H xD func309
end F309
namespace F263
def H:=hd_ [Sb] [Si,Si] .d [F308.k,F309.k] f263
def k:KC_:=kk_ 263 H Wp func263
end F263
theorem Nx:ConOk Tryz.prog gl 151 Kk:=Ams ent151 F263.k.2
namespace F264
def H:=hd_ [Ss,Ss] [Sz] .d [] f264
def k:KC_:=kk_ 264 H (u2 Hx) func264
end F264
namespace F204
def H:=hd_ [Ss,Ss] [Sz] .d [F264.k] f204
def k:KC_:=kk_ 204 H (u2 Qv) func204
end F204
namespace F266
abbrev R_:=(UInt32×Int)
abbrev K_:=S->Option R_
def H:=hd_ [Su,Sb] [Su,Si] (.q (.q (.cut [0,1,6] [] (.keep [0,1,6,12] true) (.cut [0] [] (.q (.blk (.loop [0,6,13,14,15] [] .d))) .d)))) [] f266 false [(310,(.q (.q (.cut [1] [] (.q (.blk (.loop [1,5] [] (.q (.q (.cut [1,5] [] (.blk (.q (.q (.cut [1,2,3,5] [] (.q (.blk (.loop [1,2,3,5,10] [] .d))) .d)))) .d)))))) .d))))]
def t28(a:LB)(b:LU)(h:UInt32)(m:Int):S:=⟨[(0,vu h),(6,.ptr 0 []),(13,vb a),(14,vi (Aa a)),(15,vi m)],[.box 436 (.val (.vec 256 (.int .u32)) b)],[]⟩
def z28:ZT_ R_:=H.i P_ [r,r,r,l,r,d]
def t21(f:UInt32)(a:LB)(g:Int)(b:LU)(k:UInt32)(n:Int):S:=⟨[(1,.ptr 0 []),(2,vi g),(3,vu k),(5,vi g),(10,vi n)],[.box 436 (.val (.vec 256 (.int .u32)) b)],[[(0,vu f),(1,vb a)]]⟩
def z21(Jm:K_):ZT_ R_:=H.i P_ [r,r,l,(call 0 310),r,r,l,r,d,(lp Jm),r,r,l,d,r,r,l,r,d]
def t16(f:UInt32)(a:LB)(g:Int)(b:LU):S:=⟨[(1,.ptr 0 []),(5,vi g)],[.box 436 (.val (.vec 256 (.int .u32)) b)],[[(0,vu f),(1,vb a)]]⟩
def z16:ZT_ R_:=H.i P_ [r,r,l,(call 0 310),r,r,l,r,d]
def x28(a:LB)(b:LU)(h:UInt32)(m:Int):Option R_:=H.e P_ [r,r,r,l,r,d] (t28 a b h m)
def x21(Jm:K_)(f:UInt32)(a:LB)(g:Int)(b:LU)(k:UInt32)(n:Int):Option R_:=H.e P_ [r,r,l,(call 0 310),r,r,l,r,d,(lp Jm),r,r,l,d,r,r,l,r,d] (t21 f a g b k n)
theorem i28(a:LB)(b:LU):∀(q:Nat) (h:UInt32) (m:Int),z28 q (t28 a b h m)=Zu a b q h m:=
 ind (λ_ _=>by kernel_rfl) λq ih h m=>Eq.trans (b:=gT dP (λh m=>(z28 q) (t28 a b h m)) a b h m) F2 (by simp only[ih]<;>rfl)
theorem e28:x28=eX:=by funext a b h m;exact Eq.trans F2 ((i28 a b Bc h m).trans (by rw[Ah];rfl))
theorem i21(Jm:K_)(f:UInt32)(a:LB)(g:Int)(b:LU):∀(q:Nat) (k:UInt32) (n:Int),z21 Jm q (t21 f a g b k n)=Zd (λg b=>Jm (t16 f a g b)) f a g b q k n:=
 ind (λ_ _=>by kernel_rfl) λq ih k n=>Eq.trans (b:=dJ (eC (λg b=>Jm (t16 f a g b)) f a) (λk n=>(z21 Jm q) (t21 f a g b k n)) f a g b k n) F2 (by simp only[ih]<;>rfl)
theorem e21(Jm:K_)(f:UInt32)(a:LB):x21 Jm f a=cQ (λg b=>Jm (t16 f a g b)) f a:=by funext g b k n;exact Eq.trans F2 ((i21 Jm f a g b Bc k n).trans (by rw[Ah];rfl))
theorem i16(f:UInt32)(a:LB):∀(q:Nat) (g:Int) (b:LU),z16 q (t16 f a g b)=Yy f a q g b:=
 ind (λ_ _=>by kernel_rfl) λq ih g b=>Eq.trans (b:=gU (x21 (z16 q) f a) (dS (eE x28)) f a g b) F2 (by simp only[e21,e28,ih]<;>rfl)
def k:KC_:=kk_ 266 H (u2 oV) func266 (λx=>Eq.trans (b:=u2 (lR (λf a g b=>z16 Bc (t16 f a g b))) x) F2 (by simp only[i16,Ah]<;>rfl))
end F266
namespace F206
def H:=hd_ [Sb] [Su,Si] .d [F266.k] f206
def k:KC_:=kk_ 206 H Xn func206
end F206
namespace F207
abbrev R_:=Bool
def H:=hd_ [.agg [Si,Si,Si,Si,Si]] [Sz] (.q (.cut [1] [] .d .d)) [] f207
def k:KC_:=kk_ 207 H (u5 DS) func207
end F207
namespace F178
def H:=hd_ [Si] [Si,Si] .d [] f178
def k:KC_:=kk_ 178 H Jp func178
end F178
namespace F177
def H:=hd_ [Si,Si] [Si,Si] .d [F178.k] f177
def k:KC_:=kk_ 177 H (u2 Kg) func177
end F177
namespace F208
def H:=hd_ [.agg [Si,Si,Si,Si,Si]] [Sz] .d [F177.k] f208
def k:KC_:=kk_ 208 H (u5 OK) func208
end F208
namespace F152
abbrev R_:=(Int×Int×Int×Int×Int×Int)
def H:=hd_ [Sb] [.agg [Si,Si,Si,Si,Si],Si] (.q (.q (.q (.q (.q (.q (.q (.cut [2,8] [] (.q (.blk (.loop [0,2,8,9,44,45] [] .d))) .d)))))))) [F204.k,F205.k,F206.k,F207.k,F208.k] f152
def t4(b:LB)(g f:Int)(a:LI):S:=⟨[(0,vb b),(2,.ptr 0 []),(8,.ptr 1 []),(9,vi g),(44,.val (.vec 5 (.int .i64)) ([(2:Int),(2:Int),(2:Int),(4:Int),(4:Int)]:LI)),(45,vi f)],[.box 95 (.agg [vi 0,vi 0,vi 0,vi 0,vi 0]),.box 277 (.val (.vec 5 (.int .i64)) a)],[]⟩
def z4:ZT_ R_:=H.i P_ [r,r,r,r,r,r,r,l,r,d]
theorem i4(b:LB):∀(q:Nat) (g f:Int) (a:LI),z4 q (t4 b g f a)=Yx b q g f a:=
 ind (λ_ _ _=>by kernel_rfl) λq ih g f a=>Eq.trans (b:=dC cZ (λg f a=>(z4 q) (t4 b g f a)) b g f a) F2 (by simp only[ih]<;>rfl)
def k:KC_:=kk_ 152 H Ke func152 (λx=>Eq.trans (b:=gK (λb g f a=>z4 Bc (t4 b g f a)) x) F2 (by simp only[i4,Ah]<;>rfl))
end F152
namespace F283
abbrev R_:=(UInt64×Int)
abbrev K_:=S->Option R_
def H:=hd_ [Sq,Sb] [Sq,Si] (.q (.q (.cut [4,5] [] (.keep [0,1,4,5,9,10,11,12] true) .d))) [] f283 false [(318,(.q (.cut [1] [] (.q (.blk (.loop [0,1,9,10,11] [] .d))) .d))),(319,(.q (.q (.cut [1] [] (.q (.blk (.loop [1,5] [] (.q (.q (.cut [1,5] [] (.blk (.q (.q (.cut [1,2,3,5] [] (.q (.blk (.loop [1,2,3,5,11] [] .d))) .d)))) .d)))))) .d))))]
def t27(a:LB)(b:UInt64)(f:LQ)(h:UInt64)(m:Int):S:=⟨[(0,.ptr 0 []),(1,vq h),(9,vb a),(10,vi (Aa a)),(11,vi m)],[.box 442 (.val (.vec 256 (.int .u64)) f)],[[(0,vq b),(1,vb a),(4,vq 0),(5,vi 0),(9,.ptr 0 []),(10,vq b),(11,vb a)]]⟩
def z27:ZT_ R_:=H.i P_ [r,r,l,(call 3 318),r,l,r,d]
def t21(b:UInt64)(a:LB)(g:Int)(f:LQ)(k:UInt64)(n:Int):S:=⟨[(1,.ptr 0 []),(2,vi g),(3,vq k),(5,vi g),(11,vi n)],[.box 442 (.val (.vec 256 (.int .u64)) f)],[[(0,vq b),(1,vb a),(4,vq 0),(5,vi 0)]]⟩
def z21(Jm:K_):ZT_ R_:=H.i P_ [r,r,l,(call 0 319),r,r,l,r,d,(lp Jm),r,r,l,d,r,r,l,r,d]
def t16(b:UInt64)(a:LB)(g:Int)(f:LQ):S:=⟨[(1,.ptr 0 []),(5,vi g)],[.box 442 (.val (.vec 256 (.int .u64)) f)],[[(0,vq b),(1,vb a),(4,vq 0),(5,vi 0)]]⟩
def z16:ZT_ R_:=H.i P_ [r,r,l,(call 0 319),r,r,l,r,d]
def x27(a:LB)(b:UInt64)(f:LQ)(h:UInt64)(m:Int):Option R_:=H.e P_ [r,r,l,(call 3 318),r,l,r,d] (t27 a b f h m)
def x21(Jm:K_)(b:UInt64)(a:LB)(g:Int)(f:LQ)(k:UInt64)(n:Int):Option R_:=H.e P_ [r,r,l,(call 0 319),r,r,l,r,d,(lp Jm),r,r,l,d,r,r,l,r,d] (t21 b a g f k n)
theorem i27(a:LB)(b:UInt64)(f:LQ):∀(q:Nat) (h:UInt64) (m:Int),z27 q (t27 a b f h m)=Zn a b f q h m:=
 ind (λ_ _=>by kernel_rfl) λq ih h m=>Eq.trans (b:=eG fX (λh m=>(z27 q) (t27 a b f h m)) a b f h m) F2 (by simp only[ih]<;>rfl)
theorem e27:x27=dO:=by funext a b f h m;exact Eq.trans F2 ((i27 a b f Bc h m).trans (by rw[Ah];rfl))
theorem i21(Jm:K_)(b:UInt64)(a:LB)(g:Int)(f:LQ):∀(q:Nat) (k:UInt64) (n:Int),z21 Jm q (t21 b a g f k n)=AQ (λg f=>Jm (t16 b a g f)) b a g f q k n:=
 ind (λ_ _=>by kernel_rfl) λq ih k n=>Eq.trans (b:=cL (dK (λg f=>Jm (t16 b a g f)) b a) (λk n=>(z21 Jm q) (t21 b a g f k n)) b a g f k n) F2 (by simp only[ih]<;>rfl)
theorem e21(Jm:K_)(b:UInt64)(a:LB):x21 Jm b a=iJ (λg f=>Jm (t16 b a g f)) b a:=by funext g f k n;exact Eq.trans F2 ((i21 Jm b a g f Bc k n).trans (by rw[Ah];rfl))
theorem i16(b:UInt64)(a:LB):∀(q:Nat) (g:Int) (f:LQ),z16 q (t16 b a g f)=BM b a q g f:=
 ind (λ_ _=>by kernel_rfl) λq ih g f=>Eq.trans (b:=eP (x21 (z16 q) b a) (cV x27) b a g f) F2 (by simp only[e21,e27,ih]<;>rfl)
def k:KC_:=kk_ 283 H (u2 oF) func283 (λx=>Eq.trans (b:=u2 (mG (λb a g f=>z16 Bc (t16 b a g f))) x) F2 (by simp only[i16,Ah]<;>rfl))
end F283
namespace F231
def H:=hd_ [Sb] [Sq,Si] .d [F283.k] f231
def k:KC_:=kk_ 231 H jG func231
end F231
namespace F267
def H:=hd_ [Ss] [Sq,Si] .d [F231.k] f267
def k:KC_:=kk_ 267 H xG func267
end F267
namespace F209
def H:=hd_ [Ss] [Ob 5,Si] .d [F225.k,F267.k] f209
def k:KC_:=kk_ 209 H HS func209
end F209
namespace F153
def H:=hd_ [Sb,Ss] [Sz,Si] .d [F130.k,F209.k] f153
def k:KC_:=kk_ 153 H (u2 Tn) func153
end F153
namespace F210
def H:=hd_ [.agg [Si,Si,Si,Si,Si]] [Si] .d [F207.k,F208.k] f210
def k:KC_:=kk_ 210 H (u5 HD) func210
end F210
namespace F344
def H:=hd_ [Sq,Sq] [Sq,Sq] .d [] f344
def k:KC_:=kk_ 344 H (u2 FW) func344
end F344
namespace F311
def H:=hd_ [Sq,Sq] [Sq,Sq] .d [F344.k] f311
def k:KC_:=kk_ 311 H (u2 EJ) func311
end F311
namespace F268
def Ly(j10:LI->Option (LI))(bk8:Int->LI->Option (LI))(b:Int)(a:LI):Option (LI):=
if(Bw b (Aa a))then
both (
(jI (Aa a) b (Aa a)).bind λ_=>
(jI (Aa a) 0 b).bind λ_=>
bk8 (Af b (Cq ((Aa a)-b) (Ej a 0 (b-(0:Int))).length)) (Om a b ((Aa a)-b) (Ej a 0 (b-(0:Int))))) [
(jI (Aa a) 0 b).bind λ_=>
(jI (Aa a) b (Aa a)).bind λ_=>
bk8 (Af b (Cq ((Aa a)-b) (Ej a 0 (b-(0:Int))).length)) (Om a b ((Aa a)-b) (Ej a 0 (b-(0:Int))))]
else
j10 a
theorem Ab5: @Ly= @Fv:=by
  unfold Ly Fv
  repeat (refine funext λ_=>?_)
  repeat' first
    |with_reducible rfl
    |with_reducible refine Ft ?_ ?_
    |with_reducible refine Fm ?_ ?_ ?_
    |with_reducible refine Fx ?_ ?_ ?_ ?_
    |((with_reducible refine Iv ?_ ?_);focus (intro h;first|(subst h;rfl)|(simp only[h];rfl)|(simp[Ay,Aa,h];done)))
    |with_reducible refine Ii λx=>?_
    |with_reducible refine Mm (λ_=>?_) (λ_=>?_)
    |(refine Dh (λh=>by simp only[h,Ir,Cp,Cj,ite_self]) (λx h=>?_);(try simp only[h,Cp]))
    |(refine Ee (λh=>?_) (λh=>?_)<;>simp only[h,if_true,if_false,Bool.false_eq_true])
abbrev R_:=LI
def H:=hd_ [Sl,Si] [Ol 3] (.q (.cut [0,1] [] .d (.q (.cut [0,6] [] .d (.q (.q (.cut [7] [] (.blk (.loop [7,8] [] (.q (.blk (.mode false))))) .d))))))) [F311.k] f268 true
def t8(b:Int)(a:LI):S:=⟨[(7,.own 0),(8,vi b)],[Ai 3 a],[]⟩
def z8:ZT_ R_:=H.i P_ [r,r,r,r,r,r,l,d]
theorem i8:∀(q:Nat) (b:Int) (a:LI),z8 q (t8 b a)=Ef q b a:=
 ind (λ_ _=>by kernel_rfl) λq ih b a=>Eq.trans (b:=Ly Hq (λb a=>(z8 q) (t8 b a)) b a) F2 (by rw[Ab5];simp only[ih]<;>rfl)
def k:KC_:=kk_ 268 H (u2 Li) func268 (λx=>Eq.trans (b:=u2 (Mr (Ml (Mt (λb a=>z8 Bc (t8 b a))))) x) F2 (by simp only[i8,Ah]<;>rfl))
end F268
namespace F312
abbrev R_:=LI
def H:=hd_ [.lf (.list (.list (.int .i64))) none] [Ol 3] (.q (.q (.cut [0,3] [] (.q (.blk (.loop [0,3,9,10,11] [] .d))) (.cut [0,6] [⟨6,[],.own 3 (.int .i64)⟩] (.keep [0,3,6,23,24] true) (.cut [6] [] (.q (.blk (.loop [6,25,26,27] [] .d))) .d))))) [] f312 true [(345,(.q (.cut [0,1] [] .d .d)))]
def t14(a:List LI)(g:Int)(f:LI):S:=⟨[(6,.own 0),(25,.val (.list (.list (.int .i64))) a),(26,vi (Aa a)),(27,vi g)],[Ai 3 f],[]⟩
def z14:ZT_ R_:=H.i P_ [r,r,r,r,l,r,d]
def t9(a:List LI)(b h:Int):S:=⟨[(0,.val (.list (.list (.int .i64))) a),(3,vi b),(9,.val (.list (.list (.int .i64))) a),(10,vi (Aa a)),(11,vi h)],[],[]⟩
def z9:ZT_ R_:=H.i P_ [r,r,l,r,d]
def x14(a:List LI)(g:Int)(f:LI):Option R_:=H.e P_ [r,r,r,r,l,r,d] (t14 a g f)
theorem i14(a:List LI):∀(q:Nat) (g:Int) (f:LI),z14 q (t14 a g f)=Dz a q g f:=
 ind (λ_ _=>by kernel_rfl) λq ih g f=>Eq.trans (b:=Ff Ua (λg f=>(z14 q) (t14 a g f)) a g f) F2 (by simp only[ih]<;>rfl)
theorem e14:x14=Lr:=by funext a g f;exact Eq.trans F2 ((i14 a Bc g f).trans (by rw[Ah];rfl))
theorem i9(a:List LI):∀(q:Nat) (b h:Int),z9 q (t9 a b h)=Ed a q b h:=
 ind (λ_ _=>by kernel_rfl) λq ih b h=>Eq.trans (b:=Fq (Lw (Lp (Lo x14))) (λb h=>(z9 q) (t9 a b h)) a b h) F2 (by simp only[e14,ih]<;>rfl)
def k:KC_:=kk_ 312 H Lf func312 (λx=>Eq.trans (b:=Mp (λa b h=>z9 Bc (t9 a b h)) x) F2 (by simp only[i9,Ah]<;>rfl))
end F312
namespace F269
def H:=hd_ [Sl,Sl] [Ol 3] .d [F312.k] f269
def k:KC_:=kk_ 269 H (u2 AI) func269
end F269
namespace F211
def H:=hd_ [Si,Si] [Ol 3,Si] .d [F177.k,F178.k,F268.k,F269.k] f211
def k:KC_:=kk_ 211 H (u2 Oh) func211
end F211
namespace F154
def H:=hd_ [.agg [Si,Si,Si,Si,Si]] [Ol 3,Si] .d [F210.k,F211.k] f154
def k:KC_:=kk_ 154 H (u5 Bn) func154
end F154
namespace F156
abbrev R_:=Int
def H:=hd_ [Sl] [Si] (.q (.q (.q (.cut [] [] (.q (.blk (.loop [3,14,15,16] [] .d))) .d)))) [] f156
def t4(a:LI)(f b:Int):S:=⟨[(3,vi f),(14,vl a),(15,vi (Aa a)),(16,vi b)],[],[]⟩
def z4:ZT_ R_:=H.i P_ [r,r,r,l,r,d]
theorem i4(a:LI):∀(q:Nat) (f b:Int),z4 q (t4 a f b)=Zw a q f b:=
 ind (λ_ _=>by kernel_rfl) λq ih f b=>Eq.trans (b:=iQ iX (λf b=>(z4 q) (t4 a f b)) a f b) F2 (by simp only[ih]<;>rfl)
def k:KC_:=kk_ 156 H Se func156 (λx=>Eq.trans (b:=gH (λa f b=>z4 Bc (t4 a f b)) x) F2 (by simp only[i4,Ah]<;>rfl))
end F156
namespace F155
abbrev R_:=(LI×Int)
def H:=hd_ [Sb,Si] [Ol 3,Si] (.q (.q (.q (.q (.q (.q (.cut [10] [] (.q (.blk (.loop [0,10,48,49] [] .d))) .d))))))) [F156.k,F205.k,F206.k] f155
def t4(a:LB)(f:LI)(g:Int)(b:LI):S:=⟨[(0,vb a),(10,.own 0),(48,vi (Aa f)),(49,vi g)],[Ai 3 b],[]⟩
def z4:ZT_ R_:=H.i P_ [r,r,r,r,r,r,l,r,d]
theorem i4(a:LB)(f:LI):∀(q:Nat) (g:Int) (b:LI),z4 q (t4 a f g b)=EA a f q g b:=
 ind (λ_ _=>by kernel_rfl) λq ih g b=>Eq.trans (b:=lT lD (λg b=>(z4 q) (t4 a f g b)) a f g b) F2 (by simp only[ih]<;>rfl)
def k:KC_:=kk_ 155 H (u2 Ws) func155 (λx=>Eq.trans (b:=u2 (mO (λa f g b=>z4 Bc (t4 a f g b))) x) F2 (by simp only[i4,Ah]<;>rfl))
end F155
namespace F105
abbrev R_:=(Int×Int×Int×Int×Int×Int×LI×Int)
def H:=hd_ [Sb,Ss] [.agg [.agg [Si,Si,Si,Si,Si],Si,Ol 3],Si] (.q (.q (.q (.q (.q (.q (.q (.q (.q (.cut [0,4,6,8] [] .d .d)))))))))) [⟨(151,Kk),Nx⟩,F152.k,F153.k,F154.k,F155.k] f105
def k:KC_:=kk_ 105 H (u2 Gp) func105
end F105
namespace F169
def H:=hd_ [Sb] [.agg [.agg [Si,Si,Si,Si,Si],.agg [Si,Si,Si,Si,Si],Ol 3],Si] .d [⟨(151,Kk),Nx⟩,F152.k,F154.k] f169
def k:KC_:=kk_ 169 H MT func169
end F169
namespace F232
abbrev R_:=LX
def H:=hd_ [Sq] [.lf (.vec 16 (.int .i32)) none] (.q (.q (.cut [2,3] [] (.q (.blk (.loop [0,2,3,5] [] .d))) .d))) [] f232
def t4(f:UInt64)(a:Int)(b:LX):S:=⟨[(0,vq f),(2,.ptr 0 []),(3,.ptr 1 []),(5,vi a)],[.box 232 (.val (.vec 16 (.int .i32)) (List.replicate 16 (0:Int32))),.box 232 (.val (.vec 16 (.int .i32)) b)],[]⟩
def z4:ZT_ R_:=H.i P_ [r,r,l,r,d]
theorem i4(f:UInt64):∀(q:Nat) (a:Int) (b:LX),z4 q (t4 f a b)=XT f q a b:=
 ind (λ_ _=>by kernel_rfl) λq ih a b=>Eq.trans (b:=uq R4 (λa b=>(z4 q) (t4 f a b)) f a b) F2 (by simp only[ih]<;>rfl)
def k:KC_:=kk_ 232 H M1 func232 (λx=>Eq.trans (b:=oG (λf a b=>z4 Bc (t4 f a b)) x) F2 (by simp only[i4,Ah]<;>rfl))
end F232
namespace F172
def H:=hd_ [Ss] [.lf (.vec 16 (.int .i32)) none,Si] .d [F231.k,F232.k] f172
def k:KC_:=kk_ 172 H Nz func172
end F172
namespace F164
abbrev R_:=(Int32×Int32×Int)
def H:=hd_ [Si] [Sx,Sx,Si] (.q (.seq (.q (.blk (.cut [0,7] [] .d .d))) .d)) [] f164
def k:KC_:=kk_ 164 H FD func164
end F164
namespace F233
def H:=hd_ [.agg [Si,Si]] [Si] .d [F164.k] f233
def k:KC_:=kk_ 233 H (u2 Mq) func233
end F233
namespace F234
def H:=hd_ [Sb] [Sb,Si] .d [F206.k,F265.k] f234
def k:KC_:=kk_ 234 H KC func234
end F234
namespace F83
def Kv(a:LB):Option (LB):=
N1 a (
some ([]:LB)) (
(Ay ([]:LB) a).bind λb=>
some b)
theorem Ab4: @Kv= @Bk:=by
  unfold Kv Bk
  repeat (refine funext λ_=>?_)
  repeat' first
    |with_reducible rfl
    |with_reducible refine Ft ?_ ?_
    |with_reducible refine Fm ?_ ?_ ?_
    |with_reducible refine Fx ?_ ?_ ?_ ?_
    |((with_reducible refine Iv ?_ ?_);focus (intro h;first|(subst h;rfl)|(simp only[h];rfl)|(simp[Ay,Aa,h];done)))
    |with_reducible refine Ii λx=>?_
    |with_reducible refine Mm (λ_=>?_) (λ_=>?_)
    |(refine Dh (λh=>by simp only[h,Ir,Cp,Cj,ite_self]) (λx h=>?_);(try simp only[h,Cp]))
    |(refine Ee (λh=>?_) (λh=>?_)<;>simp only[h,if_true,if_false,Bool.false_eq_true])
def H:=hd_ [Sb] [Ob 5] .d [] f83
def k:KC_:=kk_ 83 H Bk func83 (λx=>Eq.trans (b:=Kv x) F2 (by simp only[Ab4]<;>rfl))
end F83
namespace F235
def H:=hd_ [Sb] [.agg [Ob 5,Si],Si] .d [F83.k] f235
def k:KC_:=kk_ 235 H X? func235
end F235
namespace F284
def H:=hd_ [] [.agg [Si,Si,Sq,Sq]] .d [] f284
def k:KC_:=kk_ 284 H (λ_=>YV) func284
end F284
namespace F287
def H:=hd_ [.agg [Sb,Si]] [Si] .d [] f287
def k:KC_:=kk_ 287 H (u2 Jl) func287
end F287
namespace F288
abbrev R_:=UInt64
def H:=hd_ [.agg [Sb,Si],Si,Si] [Sq] (.q (.q (.cut [7] [] (.blk (.loop [1,2,3,7,8] [] .d)) .d))) [] f288
def t4(b f:Int)(h:LB)(k:Int)(g:UInt64)(a:Int):S:=⟨[(1,vi b),(2,vi f),(3,.ptr 0 []),(7,vq g),(8,vi a)],[.box 303 (.agg [vb h,vi k])],[]⟩
def z4:ZT_ R_:=H.i P_ [r,r,l,d]
theorem i4(b f:Int)(h:LB)(k:Int):∀(q:Nat) (g:UInt64) (a:Int),z4 q (t4 b f h k g a)=NU b f h k q g a:=
 ind (λ_ _=>by kernel_rfl) λq ih g a=>Eq.trans (b:=zX A7 (λg a=>(z4 q) (t4 b f h k g a)) b f h k g a) F2 (by simp only[ih]<;>rfl)
def k:KC_:=kk_ 288 H (u4 gV) func288 (λx=>Eq.trans (b:=u4 (cU (λb f h k g a=>z4 Bc (t4 b f h k g a))) x) F2 (by simp only[i4,Ah]<;>rfl))
end F288
namespace F285
abbrev R_:=(LB×Int×Int)
abbrev K_:=S->Option R_
def H:=hd_ [.agg [Sb,Si],Si,Si] [.agg [Ob 5,Si],Si] (.q (.q (.q (.q (.cut [6,8] [] (.q (.blk (.loop [2,3,6,8,9] [⟨8,[0],.own 5 (.int .u8)⟩] (.q (.cut [2,3,6,8,9] [] (.blk (.q (.keep [2,3,6,8,9,10,39,40,41,42,43] true))) .d))))) .d))))) [F287.k,F288.k] f285 false [(320,(.blk (.loop [0,1,2] [] (.q (.blk (.cut [0,1,2] [] .d (.q (.cut [0,1,2,7] [] .d .d))))))))]
def t44(a:Int)(g:LB)(b f:Int)(m n:UInt64)(k h:Int)(u:LB):S:=⟨[(0,.ptr 0 []),(1,vq n),(2,vi k)],[.box 303 (.agg [.own 3,vi h]),.box 303 (.agg [vb g,vi b]),.box 303 (.agg [.nils,vi 0]),Ab 5 u],[[(2,vi a),(3,.ptr 1 []),(6,.ptr 2 []),(8,.ptr 0 []),(9,vi f),(10,vi (Gk (64:Int) (Ag a f))),(39,.agg [vb g,vi b]),(40,vi f),(41,vi (Gk (64:Int) (Ag a f))),(42,vq m),(43,vi (Gk (64:Int) (Ag a f)))]]⟩
def z44(GH:K_):ZT_ R_:=H.i P_ [r,r,r,r,l,r,d,(lp GH),r,l,d,r,(call 5 320),d]
def t27(a:Int)(g:LB)(b f o:Int)(p:LB):S:=⟨[(2,vi a),(3,.ptr 0 []),(6,.ptr 1 []),(8,.ptr 2 []),(9,vi f)],[.box 303 (.agg [vb g,vi b]),.box 303 (.agg [.nils,vi 0]),.box 303 (.agg [.own 3,vi o]),Ab 5 p],[]⟩
def z27:ZT_ R_:=H.i P_ [r,r,r,r,l,r,d]
def x44(GH:K_)(a:Int)(g:LB)(b f:Int)(m n:UInt64)(k h:Int)(u:LB):Option R_:=H.e P_ [r,r,r,r,l,r,d,(lp GH),r,l,d,r,(call 5 320),d] (t44 a g b f m n k h u)
theorem i44(GH:K_)(a:Int)(g:LB)(b f:Int)(m:UInt64):∀(q:Nat) (n:UInt64) (k h:Int) (u:LB),z44 GH q (t44 a g b f m n k h u)=HJ (λf o p=>GH (t27 a g b f o p)) a g b f m q n k h u:=
 ind (λ_ _ _ _=>by kernel_rfl) λq ih n k h u=>Eq.trans (b:=rE (rV (λn k h u=>(z44 GH q) (t44 a g b f m n k h u)) a f g b m) (pJ (λf o p=>GH (t27 a g b f o p)) a g b) a g b f m n k h u) F2 (by simp only[ih]<;>rfl)
theorem e44(GH:K_)(a:Int)(g:LB)(b:Int):x44 GH a g b=sY (λf o p=>GH (t27 a g b f o p)) a g b:=by funext f m n k h u;exact Eq.trans F2 ((i44 GH a g b f m Bc n k h u).trans (by rw[Ah];rfl))
theorem i27(a:Int)(g:LB)(b:Int):∀(q:Nat) (f o:Int) (p:LB),z27 q (t27 a g b f o p)=HF a g b q f o p:=
 ind (λ_ _ _=>by kernel_rfl) λq ih f o p=>Eq.trans (b:=sW (x44 (z27 q) a g b) qV a g b f o p) F2 (by simp only[e44,ih]<;>rfl)
def k:KC_:=kk_ 285 H (u4 sC) func285 (λx=>Eq.trans (b:=u4 (zY (λa g b f o p=>z27 Bc (t27 a g b f o p))) x) F2 (by simp only[i27,Ah]<;>rfl))
end F285
namespace F321
def JJ(j4:Int->Int->UInt64->UInt64->Option Int)(a b:Int)(f g:UInt64):Option Int:=
both (
bo (
j4 a b f g)) [
j4 a b f g]
theorem Atu: @JJ= @PL:=by
  unfold JJ PL
  repeat (refine funext λ_=>?_)
  repeat' first
    |with_reducible rfl
    |with_reducible refine Ft ?_ ?_
    |with_reducible refine Fm ?_ ?_ ?_
    |with_reducible refine Fx ?_ ?_ ?_ ?_
    |((with_reducible refine Iv ?_ ?_);focus (intro h;first|(subst h;rfl)|(simp only[h];rfl)|(simp[Ay,Aa,h];done)))
    |with_reducible refine Ii λx=>?_
    |with_reducible refine Mm (λ_=>?_) (λ_=>?_)
    |(refine Dh (λh=>by simp only[h,Ir,Cp,Cj,ite_self]) (λx h=>?_);(try simp only[h,Cp]))
    |(refine Ee (λh=>?_) (λh=>?_)<;>simp only[h,if_true,if_false,Bool.false_eq_true])
def IH(j3:Int->Int->UInt64->UInt64->Option Int)(a b:Int)(f g:UInt64):Option Int:=
both (
bo (
j3 a b f g)) [
j3 a b f g]
theorem Aus: @IH= @QA:=by
  unfold IH QA
  repeat (refine funext λ_=>?_)
  repeat' first
    |with_reducible rfl
    |with_reducible refine Ft ?_ ?_
    |with_reducible refine Fm ?_ ?_ ?_
    |with_reducible refine Fx ?_ ?_ ?_ ?_
    |((with_reducible refine Iv ?_ ?_);focus (intro h;first|(subst h;rfl)|(simp only[h];rfl)|(simp[Ay,Aa,h];done)))
    |with_reducible refine Ii λx=>?_
    |with_reducible refine Mm (λ_=>?_) (λ_=>?_)
    |(refine Dh (λh=>by simp only[h,Ir,Cp,Cj,ite_self]) (λx h=>?_);(try simp only[h,Cp]))
    |(refine Ee (λh=>?_) (λh=>?_)<;>simp only[h,if_true,if_false,Bool.false_eq_true])
abbrev R_:=Int
def H:=hd_ [.agg [Si,Si,Sq,Sq]] [Si] (.q (.q (.cut [1,3] [] (.mode false) (.cut [1,3] [] (.mode false) .d)))) [] f321
def x3(a b:Int)(f g:UInt64):Option R_:=H.e P_ [r,r,r] ⟨[(1,.ptr 0 []),(3,.ptr 1 [])],[.box 361 (.agg [vi a,vi b,vq f,vq g]),.box 361 (.agg [vi (Gk (G4 a (0:Int)) (24:Int)),vi (Gk (G4 b (0:Int)) (24:Int)),vq f,vq g])],[]⟩
theorem e3:x3=mL:=Eq.trans (b:=JJ lB) F2 (by rw[Atu];rfl)
def k:KC_:=kk_ 321 H (u4 YD) func321 (λx=>Eq.trans (b:=u4 (IH x3) x) F2 (by rw[Aus];simp only[e3]<;>rfl))
end F321
namespace F237
def H:=hd_ [.agg [Sb,Si],Si,Si] [Sq,Si] .d [F287.k,F288.k] f237
def k:KC_:=kk_ 237 H (u4 EY) func237
end F237
namespace F340
def H:=hd_ [Sq] [Si] .d [] f340
def k:KC_:=kk_ 340 H Lk func340
end F340
namespace F348
def MK(j6:Int->UInt64->Int->LB->Int->Option (Int×Int×Int))(g:LB)(b a:Int):Option (Int×Int×Int):=
(Jl g b).bind λm=>
if(Bb m 0)then
some (0,0,m)
else
if(Bw a 0)then
some (0,0,2)
else
if(Fu a b)then
some (0,0,24)
else
(λn:Option (Int×Int×Int)=>
(λo:Option (Int×Int×Int)=>
bo2 (
o)) (
bo (
n))) (
(EY g b a (Gk 48 (Ag b a))).bind λ(k,h)=>
j6 h k a g b)
theorem Asy: @MK= @QF:=by
  unfold MK QF;simp only[CJ,Ql,Qs]
abbrev R_:=(Int×Int×Int)
def H:=hd_ [.agg [Sb,Si],Si] [Si,Si,Si] (.q (.q (.q (.q (.q (.cut [3,5,6,8,9] [] (.keep [2,3,5,6,8,9,22,23,24,25,26,27,28,29] false) (.q (.q (.cut [] [] (.blk (.seq (.blk (.seq (.blk (.cut [] [] (.cut [3,4,5] [] (.cut [3,4,5,36] [] (.keep [3,4,5,8,36,37,38,39,40] true) .d) .d) .d)) .d)) .d)) .d))))))))) [F237.k,F287.k,F340.k] f348 false [(360,.d)]
def k:KC_:=kk_ 348 H (u3 nQ) func348 (λx=>Eq.trans (b:=u3 (MK lO) x) F2 (by simp only[Asy]<;>rfl))
end F348
namespace F349
def H:=hd_ [Su,Si] [Sz] .d [] f349
def k:KC_:=kk_ 349 H (u2 HW) func349
end F349
namespace F322
abbrev R_:=(UInt32×Int×Int)
def H:=hd_ [.agg [Sb,Si],Si,Si] [Su,Si,Si] (.q (.q (.q (.q (.q (.q (.cut [2,3,7,10,11] [] .d .d))))))) [F237.k,F287.k,F348.k,F349.k] f322
def k:KC_:=kk_ 322 H (u4 xN) func322
end F322
namespace F336
def H:=hd_ [.agg [Si,Si,Sq,Sq],Su] [Si,Su] .d [] f336
def k:KC_:=kk_ 336 H (u5 KF) func336
end F336
namespace F286
abbrev R_:=(UInt32×Int×Int×Int×UInt64×UInt64×Int)
def H:=hd_ [.agg [Sb,Si],Si,.agg [Si,Si,Sq,Sq]] [Su,Si,.agg [Si,Si,Sq,Sq],Si] (.q (.cut [1,3,5,8] [] .d (.q (.q (.cut [5,6,7,8] [] .d (.cut [5,6,7,8] [] (.keep [5,6,7,8,81] true) .d)))))) [F237.k,F287.k,F321.k,F322.k,F336.k] f286 false [(323,(.q (.q (.q (.blk (.cut [0,1,4] [] (.blk (.q (.keep [0,1,4,6,18,19,20,21,22,23,24,25] true))) (.cut [] [] (.keep [0,1,4,27,28,29,30,31,32,33,34] true) .d))))))),(350,.d)]
def x8(f:UInt32)(k a:Int)(b:UInt64)(m:Int)(n:UInt64):Option R_:=H.e P_ [r,r,r,r,r,l,(call 1 323),r,r,r,d,r] ⟨[(0,.ptr 0 []),(1,vu f),(4,.fn 350 [])],[.box 361 (.agg [vi a,vi m,vq b,vq n]),.box 361 (.agg [vi 0,vi 0,vq 0,vq 0])],[[(5,.ptr 0 []),(6,vu f),(7,vi k),(8,.ptr 1 []),(81,vu f)]]⟩
theorem e8:x8=YJ:=F2
def k:KC_:=kk_ 286 H (u7 IB) func286 (λx=>Eq.trans (b:=u7 (uH (rN (qW x8))) x) F2 (by simp only[e8]<;>rfl))
end F286
namespace F236
def Ue(j21:Int->Int->Int->UInt32->Int-> (List (Int×Int×UInt64×UInt64×Unit))->LU->Int->Int->UInt64->UInt64->Option (LU×Int×Int))(j24:Int->LU->Option (LU×Int×Int))(a f:Int)(g:LB)(b k h:Int)(m:List (Int×Int×UInt64×UInt64×Unit))(n:LU):Option (LU×Int×Int):=
if(Bw h (Ch f a))then
(sC g b k (Gk (Af k 81) b)).bind λ(ag,ae,af)=>
if(Bb af 0)then
some (([]:LU),0,af)
else
(Es (Bb a 0)).bind λ_=>
(Ae m (Jb h a)).bind λ_=>
(λai:Option (LU×Int×Int)=>
both (
both (
(Ae m (Jb h a)).bind λo=>
(λao:Option (LU×Int×Int)=>
bo (
ao)) (
(IB ag ae 0 o.1 o.2.1 o.2.2.1 o.2.2.2.1).bind λ(w,v,aa,ab,ac,ad,y)=>
j21 k h y w v m n aa ab ac ad)) [
ai]) [
(Ae m (Jb h a)).bind λo=>
(λaj:Option (LU×Int×Int)=>
both (
bo (
aj)) [
aj]) (
(IB ag ae 0 o.1 o.2.1 o.2.2.1 o.2.2.2.1).bind λ(w,v,aa,ab,ac,ad,y)=>
j21 k h y w v m n aa ab ac ad),
bo (
ai)]) (
(Ae m (Jb h a)).bind λo=>
(IB ag ae 0 o.1 o.2.1 o.2.2.1 o.2.2.2.1).bind λ(w,v,aa,ab,ac,ad,y)=>
j21 k h y w v m n aa ab ac ad)
else
j24 k n
theorem Akb: @Ue= @Wx:=by
  unfold Ue Wx
  try simp only[CJ,Ql,Qs]
  all_goals
    repeat (refine funext λ_=>?_)
    repeat' first
      |with_reducible rfl
      |with_reducible refine Ft ?_ ?_
      |with_reducible refine Fm ?_ ?_ ?_
      |with_reducible refine Fx ?_ ?_ ?_ ?_
      |((with_reducible refine Iv ?_ ?_);focus (intro h;first|(subst h;rfl)|(simp only[h];rfl)|(simp[Ay,Aa,h];done)))
      |with_reducible refine Ii λx=>?_
      |with_reducible refine Mm (λ_=>?_) (λ_=>?_)
      |(refine Dh (λh=>by simp only[h,Ir,Cp,Cj,ite_self]) (λx h=>?_);(try simp only[h,Cp]))
      |(refine Ee (λh=>?_) (λh=>?_)<;>simp only[h,if_true,if_false,Bool.false_eq_true])
abbrev R_:=(LU×Int×Int)
abbrev K_:=S->Option R_
def H:=hd_ [Si,Si,.agg [Sb,Si]] [Ov 122,Si,Si] (.q (.q (.cut [0,1,5,9] [] (.q (.blk (.loop [0,1,5,9,19] [] .d))) (.q (.q (.cut [11,12] [] (.q (.blk (.loop [0,5,9,11,12,28,29] [⟨11,[],.own 122 (.int .u32)⟩] (.q (.q (.seq (.blk (.q (.q (.q (.cut [0,5,9,11,12,13,15,16,17,18,28,29] [] (.mode false) (.q (.cut [0,5,9,11,12,16,28,29] [] .d .d))))))) .d)))))) .d)))))) [F284.k,F285.k,F286.k] f236
def t16(a f:Int)(g:LB)(b k h:Int)(m:List (Int×Int×UInt64×UInt64×Unit))(n:LU):S:=⟨[(0,vi a),(5,.ptr 0 []),(9,.ptr 1 []),(11,.own 2),(12,vi k),(28,vi (Ch f a)),(29,vi h)],[.box 303 (.agg [vb g,vi b]),.box 362 (.val (.vec 6 (.cons (.int .i64) (.cons (.int .i64) (.cons (.int .u64) (.cons (.int .u64) .nil))))) m),Av 122 n],[]⟩
def z16:ZT_ R_:=H.i P_ [r,r,r,r,r,l,r,d]
def t13(a f:Int)(g:LB)(b u:Int)(p:List (Int×Int×UInt64×UInt64×Unit)):S:=⟨[(0,vi a),(1,vi f),(5,.ptr 0 []),(9,.ptr 1 []),(19,vi u)],[.box 303 (.agg [vb g,vi b]),.box 362 (.val (.vec 6 (.cons (.int .i64) (.cons (.int .i64) (.cons (.int .u64) (.cons (.int .u64) .nil))))) p)],[]⟩
def z13:ZT_ R_:=H.i P_ [r,r,l,r,d]
def x16(a f:Int)(g:LB)(b k h:Int)(m:List (Int×Int×UInt64×UInt64×Unit))(n:LU):Option R_:=H.e P_ [r,r,r,r,r,l,r,d] (t16 a f g b k h m n)
theorem i16(a f:Int)(g:LB)(b:Int):∀(q:Nat) (k h:Int) (m:List (Int×Int×UInt64×UInt64×Unit)) (n:LU),z16 q (t16 a f g b k h m n)=Oj a f g b q k h m n:=
 ind (λ_ _ _ _=>by kernel_rfl) λq ih k h m n=>Eq.trans (b:=Ue (JT (λk h m n=>(z16 q) (t16 a f g b k h m n)) a f g b) KQ a f g b k h m n) F2 (by rw[Akb];simp only[ih]<;>rfl)
theorem e16:x16=LZ:=by funext a f g b k h m n;exact Eq.trans F2 ((i16 a f g b Bc k h m n).trans (by rw[Ah];rfl))
theorem i13(a f:Int)(g:LB)(b:Int):∀(q:Nat) (u:Int) (p:List (Int×Int×UInt64×UInt64×Unit)),z13 q (t13 a f g b u p)=Ox a f g b q u p:=
 ind (λ_ _=>by kernel_rfl) λq ih u p=>Eq.trans (b:=IW (IK x16) (λu p=>(z13 q) (t13 a f g b u p)) a f g b u p) F2 (by simp only[e16,ih]<;>rfl)
def k:KC_:=kk_ 236 H (u4 AF) func236 (λx=>Eq.trans (b:=u4 (AD (λa f g b u p=>z13 Bc (t13 a f g b u p))) x) F2 (by simp only[i13,Ah]<;>rfl))
end F236
namespace F324
abbrev R_:=(Int×LX×LX×Int)
def H:=hd_ [Si,.lf (.vec 16 (.int .i32)) none] [.agg [Si,.lf (.vec 16 (.int .i32)) none,.lf (.vec 16 (.int .i32)) none],Si] (.q (.q (.seq (.q (.blk (.cut [4,6,9,11] [] .d .d))) .d))) [] f324
def k:KC_:=kk_ 324 H (u2 sQ) func324
end F324
namespace F289
def H:=hd_ [Si,.lf (.vec 16 (.int .i32)) none] [.agg [Si,Sx,.agg [Si,.lf (.vec 16 (.int .i32)) none,.lf (.vec 16 (.int .i32)) none]],Si] .d [F324.k] f289
def k:KC_:=kk_ 289 H (u2 jX) func289
end F289
namespace F291
def H:=hd_ [Su] [Sx] .d [] f291
def k:KC_:=kk_ 291 H Ye func291
end F291
namespace F325
def H:=hd_ [.agg [Si,Sx,.agg [Si,.lf (.vec 16 (.int .i32)) none,.lf (.vec 16 (.int .i32)) none]]] [Si] .d [F324.k] f325
def k:KC_:=kk_ 325 H (u5 Xt) func325
end F325
namespace F351
def H:=hd_ [Si] [Si,Si] .d [] f351
def k:KC_:=kk_ 351 H eT func351
end F351
namespace F352
def H:=hd_ [Si,Sx] [Sx] .d [] f352
def k:KC_:=kk_ 352 H (u2 cN) func352
end F352
namespace F326
def H:=hd_ [Si,Sx] [Sx,Si] .d [F351.k,F352.k] f326
def k:KC_:=kk_ 326 H (u2 Xv) func326
end F326
namespace F361
def H:=hd_ [.agg [Si,.lf (.vec 16 (.int .i32)) none,.lf (.vec 16 (.int .i32)) none]] [Si] .d [] f361
def k:KC_:=kk_ 361 H (u3 CZ) func361
end F361
namespace F353
abbrev R_:=(Int32×Int)
def H:=hd_ [.agg [Si,.lf (.vec 16 (.int .i32)) none,.lf (.vec 16 (.int .i32)) none]] [Sx,Si] (.q (.q (.q (.cut [1,5] [] (.q (.blk (.loop [1,5,18,19] [] .d))) .d)))) [F361.k] f353
def t4(b:LX)(a:Int)(f:LX)(h:Int32)(g:Int):S:=⟨[(1,.ptr 0 []),(5,vx h),(18,.val (.vec 16 (.int .i32)) b),(19,vi g)],[.box 370 (.agg [vi a,.val (.vec 16 (.int .i32)) b,.val (.vec 16 (.int .i32)) f])],[]⟩
def z4:ZT_ R_:=H.i P_ [r,r,r,l,r,d]
theorem i4(b:LX)(a:Int)(f:LX):∀(q:Nat) (h:Int32) (g:Int),z4 q (t4 b a f h g)=EH b a f q h g:=
 ind (λ_ _=>by kernel_rfl) λq ih h g=>Eq.trans (b:=lV lP (λh g=>(z4 q) (t4 b a f h g)) b a f h g) F2 (by simp only[ih]<;>rfl)
def k:KC_:=kk_ 353 H (u3 XP) func353 (λx=>Eq.trans (b:=u3 (lI (λb a f h g=>z4 Bc (t4 b a f h g))) x) F2 (by simp only[i4,Ah]<;>rfl))
end F353
namespace F365
def H:=hd_ [Si] [Sx] .d [] f365
def k:KC_:=kk_ 365 H jD func365
end F365
namespace F362
abbrev R_:=(Int×LX×LX×Int)
def H:=hd_ [.agg [Si,.lf (.vec 16 (.int .i32)) none,.lf (.vec 16 (.int .i32)) none],Sx] [.agg [Si,.lf (.vec 16 (.int .i32)) none,.lf (.vec 16 (.int .i32)) none],Si] (.q (.q (.q (.cut [2,4] [] (.q (.blk (.loop [1,2,4,19,20] [] .d))) .d)))) [F361.k,F365.k] f362
def t4(h:Int32)(f:LX)(g a:Int)(b:LX):S:=⟨[(1,vx h),(2,.ptr 0 []),(4,.ptr 1 []),(19,.val (.vec 16 (.int .i32)) f),(20,vi a)],[.box 370 (.agg [vi g,.val (.vec 16 (.int .i32)) b,.val (.vec 16 (.int .i32)) f]),.box 370 (.agg [vi 0,.val (.vec 16 (.int .i32)) (List.replicate 16 (0:Int32)),.val (.vec 16 (.int .i32)) (List.replicate 16 (0:Int32))])],[]⟩
def z4:ZT_ R_:=H.i P_ [r,r,r,l,r,d]
theorem i4(h:Int32)(f:LX)(g:Int):∀(q:Nat) (a:Int) (b:LX),z4 q (t4 h f g a b)=DY h f g q a b:=
 ind (λ_ _=>by kernel_rfl) λq ih a b=>Eq.trans (b:=lW lZ (λa b=>(z4 q) (t4 h f g a b)) h f g a b) F2 (by simp only[ih]<;>rfl)
def k:KC_:=kk_ 362 H (u4 pE) func362 (λx=>Eq.trans (b:=u4 (mE (λh f g a b=>z4 Bc (t4 h f g a b))) x) F2 (by simp only[i4,Ah]<;>rfl))
end F362
namespace F363
def PB(j2:Int32->Int->LX->LX->Option (Int×LX×LX×Int))(b:Int)(f a:LX)(g:Int32):Option (Int×LX×LX×Int):=
(CZ b f a).bind λh=>
if(Bb h 0)then
some (0,(List.replicate 16 (0:Int32)),(List.replicate 16 (0:Int32)),h)
else
both (
(jI 16 1 16).bind λ_=>
(jI 16 0 16).bind λ_=>
j2 g b f a) [
(jI 16 0 16).bind λ_=>
(jI 16 1 16).bind λ_=>
j2 g b f a]
theorem Azc: @PB= @XM:=by
  unfold PB XM
  repeat (refine funext λ_=>?_)
  repeat' first
    |with_reducible rfl
    |with_reducible refine Ft ?_ ?_
    |with_reducible refine Fm ?_ ?_ ?_
    |with_reducible refine Fx ?_ ?_ ?_ ?_
    |((with_reducible refine Iv ?_ ?_);focus (intro h;first|(subst h;rfl)|(simp only[h];rfl)|(simp[Ay,Aa,h];done)))
    |with_reducible refine Ii λx=>?_
    |with_reducible refine Mm (λ_=>?_) (λ_=>?_)
    |(refine Dh (λh=>by simp only[h,Ir,Cp,Cj,ite_self]) (λx h=>?_);(try simp only[h,Cp]))
    |(refine Ee (λh=>?_) (λh=>?_)<;>simp only[h,if_true,if_false,Bool.false_eq_true])
abbrev R_:=(Int×LX×LX×Int)
def H:=hd_ [.agg [Si,.lf (.vec 16 (.int .i32)) none,.lf (.vec 16 (.int .i32)) none],Sx] [.agg [Si,.lf (.vec 16 (.int .i32)) none,.lf (.vec 16 (.int .i32)) none],Si] (.q (.q (.cut [1,2,4] [] .d .d))) [F361.k] f363
def k:KC_:=kk_ 363 H (u4 yN) func363 (λx=>Eq.trans (b:=u4 (PB sL) x) F2 (by simp only[Azc]<;>rfl))
end F363
namespace F354
def H:=hd_ [.agg [Si,.lf (.vec 16 (.int .i32)) none,.lf (.vec 16 (.int .i32)) none],Sx,Sx] [.agg [Si,.lf (.vec 16 (.int .i32)) none,.lf (.vec 16 (.int .i32)) none]] .d [F362.k,F363.k] f354
def k:KC_:=kk_ 354 H (u5 WY) func354
end F354
namespace F327
def H:=hd_ [.agg [Si,.lf (.vec 16 (.int .i32)) none,.lf (.vec 16 (.int .i32)) none],Sx] [Sx,.agg [Si,.lf (.vec 16 (.int .i32)) none,.lf (.vec 16 (.int .i32)) none],Si] .d [F353.k,F354.k] f327
def k:KC_:=kk_ 327 H (u4 tY) func327
end F327
namespace F290
def JQ(a:Int)(b:Int32)(f:Int)(g h:LX)(o:Int32):Option (Int32×Int×Int32×Int×LX×LX×Int):=
(Xt a b f g h).bind λk=>
if(Bb k 0)then
some (0,0,0,0,(List.replicate 16 (0:Int32)),(List.replicate 16 (0:Int32)),k)
else
(Xv a b).bind λ(m,y)=>
(tY f g h o).bind λ(n,p,u,v,w)=>
(λaa:Option (Int32×Int×Int32×Int×LX×LX×Int)=>
bo (
aa)) (
some ((Af n m),a,(Af n m),p,u,v,w))
theorem Au2: @JQ= @Lb:=by
  unfold JQ Lb;simp only[CJ,Ql,Qs]
def H:=hd_ [.agg [Si,Sx,.agg [Si,.lf (.vec 16 (.int .i32)) none,.lf (.vec 16 (.int .i32)) none]],Sx] [Sx,.agg [Si,Sx,.agg [Si,.lf (.vec 16 (.int .i32)) none,.lf (.vec 16 (.int .i32)) none]],Si] (.q (.q (.q (.q (.seq (.mode false) .d))))) [F325.k,F326.k,F327.k] f290
def k:KC_:=kk_ 290 H (u6 Lb) func290 (λx=>Eq.trans (b:=u6 JQ x) F2 (by simp only[Au2]<;>rfl))
end F290
namespace F328
def H:=hd_ [Si,Sw] [Si] .d [] f328
def k:KC_:=kk_ 328 H (u2 jN) func328
end F328
namespace F294
def Ji(a:LX):Option (LX):=
N1 a (
some ([]:LX)) (
(Ay ([]:LX) a).bind λb=>
some b)
theorem Aae: @Ji= @Ci:=by
  unfold Ji Ci
  repeat (refine funext λ_=>?_)
  repeat' first
    |with_reducible rfl
    |with_reducible refine Ft ?_ ?_
    |with_reducible refine Fm ?_ ?_ ?_
    |with_reducible refine Fx ?_ ?_ ?_ ?_
    |((with_reducible refine Iv ?_ ?_);focus (intro h;first|(subst h;rfl)|(simp only[h];rfl)|(simp[Ay,Aa,h];done)))
    |with_reducible refine Ii λx=>?_
    |with_reducible refine Mm (λ_=>?_) (λ_=>?_)
    |(refine Dh (λh=>by simp only[h,Ir,Cp,Cj,ite_self]) (λx h=>?_);(try simp only[h,Cp]))
    |(refine Ee (λh=>?_) (λh=>?_)<;>simp only[h,if_true,if_false,Bool.false_eq_true])
def H:=hd_ [Sw] [Ow 21] .d [] f294
def k:KC_:=kk_ 294 H Ci func294 (λx=>Eq.trans (b:=Ji x) F2 (by simp only[Aae]<;>rfl))
end F294
namespace F292
abbrev R_:=(LX×Int)
abbrev K_:=S->Option R_
def H:=hd_ [Si,Sw] [Ow 21,Si] (.q (.q (.q (.cut [7] [] (.q (.blk (.loop [0,7,8] [] (.q (.cut [0,7,8] [] (.blk (.keep [0,7,8,24,25,26,27,28,29] true)) .d))))) .d)))) [F294.k,F328.k] f292 true [(329,(.q (.cut [0,2] [] .d (.q (.blk (.loop [0,3] [] .d))))))]
def t18(b a g:Int)(h:LX):S:=⟨[(0,.view true 0 [] (.int .i32) a ((Af a b)-a)),(3,vi g)],[Aw 21 h],[[(0,vi b),(7,.own 0),(8,vi a),(24,.own 0),(25,vi a),(26,vi a),(27,vi b),(28,vi (Af a b)),(29,.view true 0 [] (.int .i32) a ((Af a b)-a))]]⟩
def z18(Pz:K_):ZT_ R_:=H.i P_ [r,r,r,l,r,d,(lp Pz),r,l,d,(call 6 329),r,r,r,d]
def t12(b a:Int)(f:LX):S:=⟨[(0,vi b),(7,.own 0),(8,vi a)],[Aw 21 f],[]⟩
def z12:ZT_ R_:=H.i P_ [r,r,r,l,r,d]
def x18(Pz:K_)(b a g:Int)(h:LX):Option R_:=H.e P_ [r,r,r,l,r,d,(lp Pz),r,l,d,(call 6 329),r,r,r,d] (t18 b a g h)
theorem i18(Pz:K_)(b a:Int):∀(q:Nat) (g:Int) (h:LX),z18 Pz q (t18 b a g h)=HV (λa f=>Pz (t12 b a f)) b a q g h:=
 ind (λ_ _=>by kernel_rfl) λq ih g h=>Eq.trans (b:=qF (sF (λa f=>Pz (t12 b a f)) b) (λg h=>(z18 Pz q) (t18 b a g h)) b a g h) F2 (by simp only[ih]<;>rfl)
theorem e18(Pz:K_)(b:Int):x18 Pz b=qU (λa f=>Pz (t12 b a f)) b:=by funext a g h;exact Eq.trans F2 ((i18 Pz b a Bc g h).trans (by rw[Ah];rfl))
theorem i12(b:Int):∀(q:Nat) (a:Int) (f:LX),z12 q (t12 b a f)=HR b q a f:=
 ind (λ_ _=>by kernel_rfl) λq ih a f=>Eq.trans (b:=qL (pI (x18 (z12 q) b) b) qX b a f) F2 (by simp only[e18,ih]<;>rfl)
def k:KC_:=kk_ 292 H (u2 W7) func292 (λx=>Eq.trans (b:=u2 (B7 (λb a f=>z12 Bc (t12 b a f))) x) F2 (by simp only[i12,Ah]<;>rfl))
end F292
namespace F180
abbrev R_:=Int
def H:=hd_ [Si,Sw] [Si] (.q (.q (.q (.q (.cut [] [] (.q (.blk (.loop [5,6,22,23,24] [] .d))) .d))))) [F164.k] f180
def t4(b f:Int32)(a:LX)(g:Int):S:=⟨[(5,vx b),(6,vx f),(22,vw a),(23,vi (Aa a)),(24,vi g)],[],[]⟩
def z4:ZT_ R_:=H.i P_ [r,r,r,r,l,r,d]
theorem i4(b f:Int32)(a:LX):∀(q:Nat) (g:Int),z4 q (t4 b f a g)=Zh b f a q g:=
 ind (λ_=>by kernel_rfl) λq ih g=>Eq.trans (b:=cW gF (λg=>(z4 q) (t4 b f a g)) b f a g) F2 (by simp only[ih]<;>rfl)
def k:KC_:=kk_ 180 H (u2 Rn) func180 (λx=>Eq.trans (b:=u2 (gA (λb f a g=>z4 Bc (t4 b f a g))) x) F2 (by simp only[i4,Ah]<;>rfl))
end F180
namespace F238
def Rq(j16:Int->Int32->Int-> (List (Int×Int32×(Int×LX×LX×Unit)×Unit))->LX->Int->Int32->Int->LX->LX->Option (LX×Int))(j18:Int->Int->LX->Option (LX×Int))(f:LU)(a b g:Int)(h:List (Int×Int32×(Int×LX×LX×Unit)×Unit))(k:LX):Option (LX×Int):=
if(Bw g (Aa f))then
(Ae f g).bind λag=>
(Es (Bb a 0)).bind λ_=>
(Ae h (Jb g a)).bind λ_=>
both (
(Ae h (Jb g a)).bind λm=>
both (
(Ye ag).bind λae=>
(λao:Option (LX×Int)=>
bo (
ao)) (
(Lb m.1 m.2.1 m.2.2.1.1 m.2.2.1.2.1 m.2.2.1.2.2.1 ae).bind λ(y,aa,w,ab,ac,ad,v)=>
j16 g y v h k aa w ab ac ad)) [
(Ye ag).bind λae=>
(Lb m.1 m.2.1 m.2.2.1.1 m.2.2.1.2.1 m.2.2.1.2.2.1 ae).bind λ(y,aa,w,ab,ac,ad,v)=>
j16 g y v h k aa w ab ac ad]) [
(Ye ag).bind λaf=>
both (
(Ae h (Jb g a)).bind λu=>
(λap:Option (LX×Int)=>
bo (
ap)) (
(Lb u.1 u.2.1 u.2.2.1.1 u.2.2.1.2.1 u.2.2.1.2.2.1 af).bind λ(y,aa,w,ab,ac,ad,v)=>
j16 g y v h k aa w ab ac ad)) [
(Ae h (Jb g a)).bind λu=>
(Lb u.1 u.2.1 u.2.2.1.1 u.2.2.1.2.1 u.2.2.1.2.2.1 af).bind λ(y,aa,w,ab,ac,ad,v)=>
j16 g y v h k aa w ab ac ad],
both (
(Ae h (Jb g a)).bind λm=>
(Ye ag).bind λae=>
(Lb m.1 m.2.1 m.2.2.1.1 m.2.2.1.2.1 m.2.2.1.2.2.1 ae).bind λ(y,aa,w,ab,ac,ad,v)=>
j16 g y v h k aa w ab ac ad) [
(Ye ag).bind λaf=>
(Ae h (Jb g a)).bind λu=>
(Lb u.1 u.2.1 u.2.2.1.1 u.2.2.1.2.1 u.2.2.1.2.2.1 af).bind λ(y,aa,w,ab,ac,ad,v)=>
j16 g y v h k aa w ab ac ad]]
else
j18 a b k
theorem Aer: @Rq= @Ub:=by
  unfold Rq Ub
  try simp only[CJ,Ql,Qs]
  all_goals
    repeat (refine funext λ_=>?_)
    repeat' first
      |with_reducible rfl
      |with_reducible refine Ft ?_ ?_
      |with_reducible refine Fm ?_ ?_ ?_
      |with_reducible refine Fx ?_ ?_ ?_ ?_
      |((with_reducible refine Iv ?_ ?_);focus (intro h;first|(subst h;rfl)|(simp only[h];rfl)|(simp[Ay,Aa,h];done)))
      |with_reducible refine Ii λx=>?_
      |with_reducible refine Mm (λ_=>?_) (λ_=>?_)
      |(refine Dh (λh=>by simp only[h,Ir,Cp,Cj,ite_self]) (λx h=>?_);(try simp only[h,Cp]))
      |(refine Ee (λh=>?_) (λh=>?_)<;>simp only[h,if_true,if_false,Bool.false_eq_true])
abbrev R_:=(LX×Int)
abbrev K_:=S->Option R_
def H:=hd_ [.agg [Si,Si],.lf (.vec 16 (.int .i32)) none,Sv] [Ow 21,Si] (.q (.q (.cut [2,3,8] [] (.q (.blk (.loop [2,3,4,8,20] [] .d))) (.q (.cut [3,10] [] (.q (.blk (.loop [3,8,10,33,34,35] [⟨10,[],.own 21 (.int .i32)⟩] (.q (.q (.seq (.blk (.q (.q (.cut [3,8,10,13,14,15,16,33,34,35] [] (.mode false) .d)))) .d)))))) .d))))) [F180.k,F289.k,F290.k,F291.k,F292.k] f238
def t13(f:LU)(a b g:Int)(h:List (Int×Int32×(Int×LX×LX×Unit)×Unit))(k:LX):S:=⟨[(3,.ptr 0 []),(8,.ptr 1 []),(10,.own 2),(33,vv f),(34,vi (Aa f)),(35,vi g)],[.box 66 (.agg [vi a,vi b]),.box 373 (.val (.vec 6 (.cons (.int .i64) (.cons (.int .i32) (.cons (.cons (.int .i64) (.cons (.vec 16 (.int .i32)) (.cons (.vec 16 (.int .i32)) .nil))) .nil)))) h),Aw 21 k],[]⟩
def z13:ZT_ R_:=H.i P_ [r,r,r,r,l,r,d]
def t10(f:LU)(a b:Int)(o:LX)(p:Int)(n:List (Int×Int32×(Int×LX×LX×Unit)×Unit)):S:=⟨[(2,vv f),(3,.ptr 0 []),(4,.ptr 1 []),(8,.ptr 2 []),(20,vi p)],[.box 66 (.agg [vi a,vi b]),.box 232 (.val (.vec 16 (.int .i32)) o),.box 373 (.val (.vec 6 (.cons (.int .i64) (.cons (.int .i32) (.cons (.cons (.int .i64) (.cons (.vec 16 (.int .i32)) (.cons (.vec 16 (.int .i32)) .nil))) .nil)))) n)],[]⟩
def z10:ZT_ R_:=H.i P_ [r,r,l,r,d]
def x13(f:LU)(a b g:Int)(h:List (Int×Int32×(Int×LX×LX×Unit)×Unit))(k:LX):Option R_:=H.e P_ [r,r,r,r,l,r,d] (t13 f a b g h k)
theorem i13(f:LU)(a b:Int):∀(q:Nat) (g:Int) (h:List (Int×Int32×(Int×LX×LX×Unit)×Unit)) (k:LX),z13 q (t13 f a b g h k)=Mx f a b q g h k:=
 ind (λ_ _ _=>by kernel_rfl) λq ih g h k=>Eq.trans (b:=Rq (GR (λg h k=>(z13 q) (t13 f a b g h k)) a f b) GL f a b g h k) F2 (by rw[Aer];simp only[ih]<;>rfl)
theorem e13:x13=HC:=by funext f a b g h k;exact Eq.trans F2 ((i13 f a b Bc g h k).trans (by rw[Ah];rfl))
theorem i10(f:LU)(a b:Int)(o:LX):∀(q:Nat) (p:Int) (n:List (Int×Int32×(Int×LX×LX×Unit)×Unit)),z10 q (t10 f a b o p n)=Mz f a b o q p n:=
 ind (λ_ _=>by kernel_rfl) λq ih p n=>Eq.trans (b:=GZ (GV x13) (λp n=>(z10 q) (t10 f a b o p n)) f a b o p n) F2 (by simp only[e13,ih]<;>rfl)
def k:KC_:=kk_ 238 H (u4 Vz) func238 (λx=>Eq.trans (b:=u4 (Wv (λf a b o p n=>z10 Bc (t10 f a b o p n))) x) F2 (by simp only[i10,Ah]<;>rfl))
end F238
namespace F174
def H:=hd_ [.agg [Si,Si],.lf (.vec 16 (.int .i32)) none,Si,Sb] [Ow 21,Si] .d [F233.k,F234.k,F235.k,F236.k,F237.k,F238.k] f174
def k:KC_:=kk_ 174 H (u5 Kq) func174
end F174
namespace F176
abbrev R_:=(Int×Int)
def H:=hd_ [Sb] [Si,Si] (.q (.q (.cut [0,4] [] .d .d))) [F130.k,F239.k,F240.k,F241.k] f176
def k:KC_:=kk_ 176 H T8 func176
end F176
namespace F125
abbrev R_:=(Int×Int)
abbrev K_:=S->Option R_
def H:=hd_ [Sb] [Si,Si] (.q (.q (.q (.q (.cut [5] [] (.blk (.loop [1,4,5] [] (.q (.cut [1,4,5] [] (.blk (.cut [1,4,5,6] [] (.keep [1,4,5,6,16,17] true) .d)) .d)))) .d))))) [F176.k] f125 false [(175,.d)]
def t8(a:Int)(b:LB):S:=⟨[(1,.ptr 0 []),(4,.fn 175 [.ptr 0 []]),(5,vi a)],[.box 29 (vb b)],[]⟩
def z8:ZT_ R_:=H.i P_ [r,r,r,r,l,d]
theorem i8:∀(q:Nat) (a:Int) (b:LB),z8 q (t8 a b)=Vu q a b:=
 ind (λ_ _=>by kernel_rfl) λq ih a b=>Eq.trans (b:=bO (SR (λa b=>(z8 q) (t8 a b))) VH a b) F2 (by simp only[ih]<;>rfl)
def k:KC_:=kk_ 125 H Te func125 (λx=>Eq.trans (b:=bF (λa b=>z8 Bc (t8 a b)) x) F2 (by simp only[i8,Ah]<;>rfl))
end F125
namespace F158
abbrev R_:=(Int×Int×Int×LX×Int)
abbrev K_:=S->Option R_
def H:=hd_ [Sb,Ss] [.agg [Si,Si,Si,Ow 21],Si] (.q (.q (.q (.q (.cut [0,1,4,6] [] (.cut [0,1,4,6,8] [] (.keep [0,1,4,6,8,34,35,36] true) .d) (.cut [0,1,4,6,7,9] [⟨9,[],.own 3 (.int .i64)⟩] (.keep [0,1,4,6,7,9,41,42,43,44,45] true) (.q (.q (.q (.q (.q (.cut [0,4,10,14] [] (.q (.blk (.loop [0,4,6,10,11,12,14,75,76,77] [⟨10,[3],.own 21 (.int .i32)⟩] (.q (.q (.seq (.blk (.q (.q (.cut [0,4,6,10,11,12,14,16,17,18,75,76,77] [] .d .d)))) .d)))))) .d)))))))))))) [F125.k,F153.k,F155.k,F169.k,F172.k,F174.k] f158 false [(170,(.q (.q (.cut [0,6,7] [] .d (.q (.q (.q (.cut [6] [] (.q (.blk (.loop [0,6,60,61,62] [] .d))) .d)))))))),(213,.d)]
def t21(a:LB)(w:LI)(m f g h o p n b ab ae:Int)(ac:LX)(k:LI)(y aa:Int)(ad:LX):S:=⟨[(0,vb a),(4,.ptr 0 []),(6,.ptr 1 []),(10,.ptr 2 []),(11,.ptr 3 []),(12,.ptr 4 []),(14,vi y),(75,.own 5),(76,vi (Aa w)),(77,vi aa)],[.box 42 (.agg [vi 0,vi 0,vi 0,.nils]),.box 227 (.agg [.agg [vi m,vi f,vi g,vi h,vi o],.agg [vi p,vi n,vi b,vi ab,vi ae],.own 6]),.box 42 (.agg [vi f,vi g,vi h,.own 7]),.box 66 (.agg [vi f,vi g]),.box 232 (.val (.vec 16 (.int .i32)) ac),Ai 3 w,Ai 3 k,Aw 21 ad],[]⟩
def z21:ZT_ R_:=H.i P_ [r,r,r,r,r,r,r,r,r,r,r,l,r,d]
def t17(v:LI)(a u:LB)(m f g h o p n b:Int)(k:LI)(ag af:Int):S:=⟨[(0,.ptr 0 []),(6,.own 1),(60,.own 1),(61,vi (Aa v)),(62,vi ag)],[.box 227 (.agg [.agg [vi m,vi f,vi g,vi h,vi o],.agg [vi p,vi n,vi b,vi (Af (Af b (Ch (4:Int) (Aa v))) (4:Int)),vi af],.own 3]),Ai 3 v,.box 42 (.agg [vi 0,vi 0,vi 0,.nils]),Ai 3 k],[[(0,vb a),(1,vs u),(4,.ptr 2 []),(6,.ptr 0 []),(42,vb a)]]⟩
def z17:ZT_ R_:=H.i P_ [r,r,r,r,r,l,(call 1 170),r,r,r,r,r,r,l,r,d]
def x21(a:LB)(w:LI)(m f g h o p n b ab ae:Int)(ac:LX)(k:LI)(y aa:Int)(ad:LX):Option R_:=H.e P_ [r,r,r,r,r,r,r,r,r,r,r,l,r,d] (t21 a w m f g h o p n b ab ae ac k y aa ad)
def x14(a u:LB)(m f g h o p n b ah ai:Int)(k:LI)(am:Int):Option R_:=H.e P_ [r,r,r,r,l,r] ⟨[(0,vb a),(1,vs u),(4,.ptr 0 []),(6,.ptr 1 []),(8,vi am)],[.box 42 (.agg [vi 0,vi 0,vi 0,.nils]),.box 227 (.agg [.agg [vi m,vi f,vi g,vi h,vi o],.agg [vi p,vi n,vi b,vi ah,vi ai],.own 2]),Ai 3 k],[]⟩
theorem i21(a:LB)(w:LI)(m f g h o p n b ab ae:Int)(ac:LX)(k:LI):∀(q:Nat) (y aa:Int) (ad:LX),z21 q (t21 a w m f g h o p n b ab ae ac k y aa ad)=Zr a w m f g h o p n b ab ae ac k q y aa ad:=
 ind (λ_ _ _=>by kernel_rfl) λq ih y aa ad=>Eq.trans (b:=gC (eF (λy aa ad=>(z21 q) (t21 a w m f g h o p n b ab ae ac k y aa ad)) a w m f g h o p n b ab ae ac k) eM a w m f g h o p n b ab ae ac k y aa ad) F2 (by simp only[ih]<;>rfl)
theorem e21:x21=eJ:=by funext a w m f g h o p n b ab ae ac k y aa ad;exact Eq.trans F2 ((i21 a w m f g h o p n b ab ae ac k Bc y aa ad).trans (by rw[Ah];rfl))
theorem i17(v:LI)(a u:LB)(m f g h o p n b:Int)(k:LI):∀(q:Nat) (ag af:Int),z17 q (t17 v a u m f g h o p n b k ag af)=Yz v a u m f g h o p n b k q ag af:=
 ind (λ_ _=>by kernel_rfl) λq ih ag af=>Eq.trans (b:=eL (IX (AL x21)) (λag af=>(z17 q) (t17 v a u m f g h o p n b k ag af)) v a u m f g h o p n b k ag af) F2 (by simp only[e21,ih]<;>rfl)
theorem e14:x14=JC:=Eq.trans (b:=fN (fJ (AL x21) (dB (AL x21) (λv a u m f g h o p n b k ag af=>z17 Bc (t17 v a u m f g h o p n b k ag af))))) F2 (by simp only[e21,i17,Ah]<;>rfl)
def k:KC_:=kk_ 158 H (u2 XY) func158 (λx=>Eq.trans (b:=u2 (lF x14) x) F2 (by simp only[e14]<;>rfl))
end F158
namespace F109
def H:=hd_ [Sb,Ss] [Si] .d [F158.k] f109
def k:KC_:=kk_ 109 H (u2 OM) func109
end F109
namespace F110
def H:=hd_ [Sb,Ss,Si] [Sc] .d [⟨(151,Kk),Nx⟩,F152.k] f110
def k:KC_:=kk_ 110 H (u3 YX) func110
end F110
namespace F171
abbrev R_:=(LI×Int)
abbrev K_:=S->Option R_
def H:=hd_ [Sl] [Ol 3,Si] (.q (.q (.q (.q (.q (.cut [7] [] (.q (.blk (.loop [6,7,17,18,19] [] (.q (.q (.cut [6,7,17,18,19] [] (.blk (.q (.keep [6,7,9,17,18,19,23,24,25,26,27,28] true))) .d)))))) .d)))))) [F156.k] f171 false [(230,.d)]
def t6(a:LI)(b g:Int)(f:LI):S:=⟨[(6,.fn 230 [.ptr 0 []]),(7,.own 1),(17,vl a),(18,vi (Aa a)),(19,vi b)],[.box 3 (vi g),Ai 3 f],[]⟩
def z6:ZT_ R_:=H.i P_ [r,r,r,r,r,l,r,d]
theorem i6(a:LI):∀(q:Nat) (b g:Int) (f:LI),z6 q (t6 a b g f)=Tt a q b g f:=
 ind (λ_ _ _=>by kernel_rfl) λq ih b g f=>Eq.trans (b:=SM (DB (λb g f=>(z6 q) (t6 a b g f)) a) NB a b g f) F2 (by simp only[ih]<;>rfl)
def k:KC_:=kk_ 171 H EM func171 (λx=>Eq.trans (b:=TL (λa b g f=>z6 Bc (t6 a b g f)) x) F2 (by simp only[i6,Ah]<;>rfl))
end F171
namespace F132
abbrev R_:=(LB×Int)
abbrev K_:=S->Option R_
def H:=hd_ [Si,Sw] [Ob 5,Si] (.q (.q (.q (.cut [7] [] (.q (.blk (.loop [0,7,17,18,19] [⟨7,[],.own 5 (.int .u8)⟩] (.q (.q (.cut [0,7,17,18,19] [] (.blk (.q (.cut [0,7,9,17,18,19] [] .d (.q (.blk (.loop [0,7,9,17,18,19,28,29] [] .d)))))) .d)))))) .d)))) [F180.k] f132
def t26(b:Int)(a:LX)(k:Int32)(f m:Int)(h:LB):S:=⟨[(0,vi b),(7,.own 0),(9,vx k),(17,vw a),(18,vi (Aa a)),(19,vi f),(28,vi (Ep b (8:Int))),(29,vi m)],[Ab 5 h],[]⟩
def z26(Jm:K_):ZT_ R_:=H.i P_ [r,r,r,l,r,d,(lp Jm),r,r,l,d,r,r,r,d]
def t16(b:Int)(a:LX)(f:Int)(g:LB):S:=⟨[(0,vi b),(7,.own 0),(17,vw a),(18,vi (Aa a)),(19,vi f)],[Ab 5 g],[]⟩
def z16:ZT_ R_:=H.i P_ [r,r,r,l,r,d]
def x26(Jm:K_)(b:Int)(a:LX)(k:Int32)(f m:Int)(h:LB):Option R_:=H.e P_ [r,r,r,l,r,d,(lp Jm),r,r,l,d,r,r,r,d] (t26 b a k f m h)
theorem i26(Jm:K_)(b:Int)(a:LX)(k:Int32)(f:Int):∀(q:Nat) (m:Int) (h:LB),z26 Jm q (t26 b a k f m h)=Wf (λf g=>Jm (t16 b a f g)) b a k f q m h:=
 ind (λ_ _=>by kernel_rfl) λq ih m h=>Eq.trans (b:=aD (aV (λf g=>Jm (t16 b a f g)) b a) (λm h=>(z26 Jm q) (t26 b a k f m h)) b a k f m h) F2 (by simp only[ih]<;>rfl)
theorem e26(Jm:K_)(b:Int)(a:LX):x26 Jm b a=bW (λf g=>Jm (t16 b a f g)) b a:=by funext k f m h;exact Eq.trans F2 ((i26 Jm b a k f Bc m h).trans (by rw[Ah];rfl))
theorem i16(b:Int)(a:LX):∀(q:Nat) (f:Int) (g:LB),z16 q (t16 b a f g)=Wg b a q f g:=
 ind (λ_ _=>by kernel_rfl) λq ih f g=>Eq.trans (b:=bI (ZA (x26 (z16 q) b a) b a) bS b a f g) F2 (by simp only[e26,ih]<;>rfl)
def k:KC_:=kk_ 132 H (u2 Ki) func132 (λx=>Eq.trans (b:=u2 (gD (λb a f g=>z16 Bc (t16 b a f g))) x) F2 (by simp only[i16,Ah]<;>rfl))
end F132
namespace F85
abbrev R_:=(LB×Int)
def H:=hd_ [Sb,Ss,Si] [Ob 5,Si] (.q (.cut [2,8,9,11] [] (.keep [0,1,2,8,9,11,12,13,14,15,16,17,18,19] true) (.q (.q (.cut [6,7] [⟨6,[],.own 5 (.int .u8)⟩] (.keep [2,6,7,8,30,31,32,33,34] true) .d))))) [F105.k,F132.k,F154.k,F171.k,F172.k,F174.k] f85 false [(124,.d),(173,(.q (.cut [0,3,4,5,6,10,11] [] .d (.q (.cut [4,12,13] [] .d .d)))))]
def k:KC_:=kk_ 85 H (u3 Pa) func85
end F85
namespace F111
abbrev R_:=(Int×Int)
def H:=hd_ [.agg [Si,Si,Si,Si,Si],Si] [Si,Si] (.q (.q (.q (.q (.cut [2,8] [] (.q (.blk (.loop [2,6,8,23,24] [] .d))) .d))))) [F154.k] f111
def t4(m f a b g h:Int)(k:LI)(n o:Int):S:=⟨[(2,.ptr 0 []),(6,.own 1),(8,vi n),(23,vi m),(24,vi o)],[.box 95 (.agg [vi f,vi a,vi b,vi g,vi h]),Ai 3 k],[]⟩
def z4:ZT_ R_:=H.i P_ [r,r,r,r,l,r,d]
theorem i4(m f a b g h:Int)(k:LI):∀(q:Nat) (n o:Int),z4 q (t4 m f a b g h k n o)=AK m f a b g h k q n o:=
 ind (λ_ _=>by kernel_rfl) λq ih n o=>Eq.trans (b:=fQ fT (λn o=>(z4 q) (t4 m f a b g h k n o)) m f a b g h k n o) F2 (by simp only[ih]<;>rfl)
def k:KC_:=kk_ 111 H (u6 OO) func111 (λx=>Eq.trans (b:=u6 (fR (λm f a b g h k n o=>z4 Bc (t4 m f a b g h k n o))) x) F2 (by simp only[i4,Ah]<;>rfl))
end F111
namespace F76
abbrev R_:=(Int×UInt8×Int×Int×Int)
def H:=hd_ [Sb,Ss] [.agg [Si,Sc,Si,Si],Si] (.q (.q (.q (.q (.q (.cut [0,1,4,6,7] [] .d (.q (.cut [4,6,7,9] [] (.q (.blk (.loop [0,1,4,6,7,9,42,43] [] .d))) .d)))))))) [F85.k,F105.k,F109.k,F110.k,F111.k] f76
def t6(p n:LB)(a:LI)(b:Int)(u:UInt8)(f g h k m o v:Int):S:=⟨[(0,vb p),(1,vs n),(4,.ptr 0 []),(6,.ptr 1 []),(7,.ptr 2 []),(9,vi (Aa a)),(42,vi (Aa a)),(43,vi v)],[.box 99 (.agg [vi 0,vc 0,vi 0,vi 0]),.box 99 (.agg [vi b,vc u,vi 0,vi 0]),.box 97 (.agg [.agg [vi f,vi g,vi h,vi k,vi m],vi o,.own 3]),Ai 3 a],[]⟩
def z6:ZT_ R_:=H.i P_ [r,r,r,r,r,r,r,l,r,d]
theorem i6(p n:LB)(a:LI)(b:Int)(u:UInt8)(f g h k m o:Int):∀(q:Nat) (v:Int),z6 q (t6 p n a b u f g h k m o v)=BT p n a b u f g h k m o q v:=
 ind (λ_=>by kernel_rfl) λq ih v=>Eq.trans (b:=dT KJ (λv=>(z6 q) (t6 p n a b u f g h k m o v)) p n a b u f g h k m o v) F2 (by simp only[ih]<;>rfl)
def k:KC_:=kk_ 76 H (u2 EP) func76 (λx=>Eq.trans (b:=u2 (gX (AJ (λp n a b u f g h k m o v=>z6 Bc (t6 p n a b u f g h k m o v)))) x) F2 (by simp only[i6,Ah]<;>rfl))
end F76
namespace F72
def H:=hd_ [Sb,Ss] [.agg [.agg [.agg [Si,Si,Si,Si,Si],Si,Ol 3],.agg [Si,Sc,Si,Si]],Si] .d [F76.k,F105.k] f72
def k:KC_:=kk_ 72 H (u2 rK) func72
end F72
namespace F106
abbrev R_:=Int
def H:=hd_ [.agg [.agg [.agg [Si,Si,Si,Si,Si],Si,Sl],.agg [Si,Sc,Si,Si]]] [Si] (.q (.q (.q (.seq (.blk (.cut [1,3,5,15] [] .d (.cond .d (.cut [3,5,30] [] .d .d)))) .d)))) [F154.k,F156.k] f106
def k:KC_:=kk_ 106 H (u11 PA) func106
end F106
namespace F74
def KY(j26:Int->Int->Int->Int->Int->Int->LI->Int->UInt8->Int->Int->Option (LB×Int))(k m n o p u:Int)(h:LI)(a:Int)(b:UInt8)(f g:Int):Option (LB×Int):=
(PA k m n o p u h a b f g).bind λan=>
if(Bb an 0)then
some (([]:LB),an)
else
(λao:Option (LB×Int)=>
(λbd:Option (LB×Int)=>
(λbe:Option (LB×Int)=>
both (
both (
ao) [
bd,
bd]) [
bo2 (
ao),
be,
be]) (
both (
bd) [
ao,
both (
ao) [
j26 k m n o p u h a b f g]])) (
both (
j26 k m n o p u h a b f g) [
ao])) (
bo (
j26 k m n o p u h a b f g))
theorem Asz: @KY= @QQ:=by
  unfold KY QQ
  try simp only[CJ,Ql,Qs]
  all_goals
    repeat (refine funext λ_=>?_)
    repeat' first
      |with_reducible rfl
      |with_reducible refine Ft ?_ ?_
      |with_reducible refine Fm ?_ ?_ ?_
      |with_reducible refine Fx ?_ ?_ ?_ ?_
      |((with_reducible refine Iv ?_ ?_);focus (intro h;first|(subst h;rfl)|(simp only[h];rfl)|(simp[Ay,Aa,h];done)))
      |with_reducible refine Ii λx=>?_
      |with_reducible refine Mm (λ_=>?_) (λ_=>?_)
      |(refine Dh (λh=>by simp only[h,Ir,Cp,Cj,ite_self]) (λx h=>?_);(try simp only[h,Cp]))
      |(refine Ee (λh=>?_) (λh=>?_)<;>simp only[h,if_true,if_false,Bool.false_eq_true])
abbrev R_:=(LB×Int)
def H:=hd_ [.agg [.agg [.agg [Si,Si,Si,Si,Si],Si,Sl],.agg [Si,Sc,Si,Si]]] [Ss,Si] (.q (.q (.cut [1,5,6] [] (.mode false) (.q (.q (.cut [1,5,6,7,8] [] (.keep [1,5,6,7,8] true) (.cut [1,5,6,7,8] [] (.keep [1,5,6,7,8] true) (.cut [1,5,6,7,8] [] (.keep [1,5,6,7,8] true) (.cut [1,5,6,7,8] [] (.keep [1,5,6,7,8] true) (.cut [1,6,7,8] [] (.keep [1,6,7,8] true) (.cut [1,6,7,8] [] (.keep [1,6,7,8] true) (.cut [6,7,8] [] (.keep [6,7,8] true) (.cut [7] [] (.keep [7] true) (.seq (.keep [7] true) .d)))))))))))))) [⟨(99,Nu),Vx⟩,F106.k] f74 false [(23,.d),(26,.pr 1 51 5),(36,.pr 0 51 5),(107,(.seq (.keep [1,2] true) (.q (.blk (.loop [2,9,10,11] [] (.q (.q (.seq (.blk (.q (.keep [2,9,10,11] true))) .d))))))))]
def t48(a:Int)(b:UInt8)(f g w:Int)(v:LB):S:=⟨[(2,.ptr 0 []),(9,.own 1),(10,vi (Aa ([a,(Am b:Int),f,g]:LI))),(11,vi w)],[.box 51 (.agg [.wp 0,.own 2]),Ai 3 ([a,(Am b:Int),f,g]:LI),Ab 5 v],[[(7,.ptr 0 [])]]⟩
def z48:ZT_ R_:=H.i P_ [r,r,r,r,r,r,r,r,r,r,r,r,l,(call 11 107),r,r,d]
def t45(h:LI)(a:Int)(b:UInt8)(f g ak:Int)(y:LB):S:=⟨[(2,.ptr 0 []),(9,vl h),(10,vi (Aa h)),(11,vi ak)],[.box 51 (.agg [.wp 0,.own 2]),.box 99 (.agg [vi a,vc b,vi f,vi g]),Ab 5 y],[[(6,.ptr 1 []),(7,.ptr 0 []),(8,.fn 107 [.ptr 0 []])]]⟩
def z45:ZT_ R_:=H.i P_ [r,r,r,r,r,r,r,r,r,r,r,l,(call 4 107),r,r,d]
def t42(u k m n o p:Int)(h:LI)(a:Int)(b:UInt8)(f g ab:Int)(aa:LB):S:=⟨[(2,.ptr 0 []),(9,.own 1),(10,vi (Aa ([u]:LI))),(11,vi ab)],[.box 51 (.agg [.wp 0,.own 4]),Ai 3 ([u]:LI),.box 101 (.agg [.agg [.agg [vi k,vi m,vi n,vi o,vi p],vi u,vl h],.agg [vi a,vc b,vi f,vi g]]),.box 99 (.agg [vi a,vc b,vi f,vi g]),Ab 5 aa],[[(1,.ptr 2 []),(6,.ptr 3 []),(7,.ptr 0 []),(8,.fn 107 [.ptr 0 []])]]⟩
def z42:ZT_ R_:=H.i P_ [r,r,r,r,r,r,r,r,r,r,l,(call 5 107),r,r,d]
def t39(p k m n o u:Int)(h:LI)(a:Int)(b:UInt8)(f g ad:Int)(ac:LB):S:=⟨[(2,.ptr 0 []),(9,.own 1),(10,vi (Aa ([p]:LI))),(11,vi ad)],[.box 51 (.agg [.wp 0,.own 4]),Ai 3 ([p]:LI),.box 101 (.agg [.agg [.agg [vi k,vi m,vi n,vi o,vi p],vi u,vl h],.agg [vi a,vc b,vi f,vi g]]),.box 99 (.agg [vi a,vc b,vi f,vi g]),Ab 5 ac],[[(1,.ptr 2 []),(6,.ptr 3 []),(7,.ptr 0 []),(8,.fn 107 [.ptr 0 []])]]⟩
def z39:ZT_ R_:=H.i P_ [r,r,r,r,r,r,r,r,r,l,(call 4 107),r,r,d]
def t36(o k m n p u:Int)(h:LI)(a:Int)(b:UInt8)(f g af:Int)(ae:LB):S:=⟨[(2,.ptr 0 []),(9,.own 1),(10,vi (Aa ([o]:LI))),(11,vi af)],[.box 51 (.agg [.wp 0,.own 5]),Ai 3 ([o]:LI),.box 101 (.agg [.agg [.agg [vi k,vi m,vi n,vi o,vi p],vi u,vl h],.agg [vi a,vc b,vi f,vi g]]),.box 95 (.agg [vi k,vi m,vi n,vi o,vi p]),.box 99 (.agg [vi a,vc b,vi f,vi g]),Ab 5 ae],[[(1,.ptr 2 []),(5,.ptr 3 []),(6,.ptr 4 []),(7,.ptr 0 []),(8,.fn 107 [.ptr 0 []])]]⟩
def z36:ZT_ R_:=H.i P_ [r,r,r,r,r,r,r,r,l,(call 4 107),r,r,d]
def t33(n k m o p u:Int)(h:LI)(a:Int)(b:UInt8)(f g ah:Int)(ag:LB):S:=⟨[(2,.ptr 0 []),(9,.own 1),(10,vi (Aa ([n]:LI))),(11,vi ah)],[.box 51 (.agg [.wp 0,.own 5]),Ai 3 ([n]:LI),.box 101 (.agg [.agg [.agg [vi k,vi m,vi n,vi o,vi p],vi u,vl h],.agg [vi a,vc b,vi f,vi g]]),.box 95 (.agg [vi k,vi m,vi n,vi o,vi p]),.box 99 (.agg [vi a,vc b,vi f,vi g]),Ab 5 ag],[[(1,.ptr 2 []),(5,.ptr 3 []),(6,.ptr 4 []),(7,.ptr 0 []),(8,.fn 107 [.ptr 0 []])]]⟩
def z33:ZT_ R_:=H.i P_ [r,r,r,r,r,r,r,l,(call 4 107),r,r,d]
def t30(m k n o p u:Int)(h:LI)(a:Int)(b:UInt8)(f g aj:Int)(ai:LB):S:=⟨[(2,.ptr 0 []),(9,.own 1),(10,vi (Aa ([m]:LI))),(11,vi aj)],[.box 51 (.agg [.wp 0,.own 5]),Ai 3 ([m]:LI),.box 101 (.agg [.agg [.agg [vi k,vi m,vi n,vi o,vi p],vi u,vl h],.agg [vi a,vc b,vi f,vi g]]),.box 95 (.agg [vi k,vi m,vi n,vi o,vi p]),.box 99 (.agg [vi a,vc b,vi f,vi g]),Ab 5 ai],[[(1,.ptr 2 []),(5,.ptr 3 []),(6,.ptr 4 []),(7,.ptr 0 []),(8,.fn 107 [.ptr 0 []])]]⟩
def z30:ZT_ R_:=H.i P_ [r,r,r,r,r,r,l,(call 4 107),r,r,d]
def t27(k m n o p u:Int)(h:LI)(a:Int)(b:UInt8)(f g am:Int)(al:LB):S:=⟨[(2,.ptr 0 []),(9,.own 1),(10,vi (Aa ([k]:LI))),(11,vi am)],[.box 51 (.agg [.wp 0,.own 5]),Ai 3 ([k]:LI),.box 101 (.agg [.agg [.agg [vi k,vi m,vi n,vi o,vi p],vi u,vl h],.agg [vi a,vc b,vi f,vi g]]),.box 95 (.agg [vi k,vi m,vi n,vi o,vi p]),.box 99 (.agg [vi a,vc b,vi f,vi g]),Ab 5 al],[[(1,.ptr 2 []),(5,.ptr 3 []),(6,.ptr 4 []),(7,.ptr 0 []),(8,.fn 107 [.ptr 0 []])]]⟩
def z27:ZT_ R_:=H.i P_ [r,r,r,r,r,l,(call 4 107),r,r,d]
def x48(a:Int)(b:UInt8)(f g w:Int)(v:LB):Option R_:=H.e P_ [r,r,r,r,r,r,r,r,r,r,r,r,l,(call 11 107),r,r,d] (t48 a b f g w v)
def x45(h:LI)(a:Int)(b:UInt8)(f g ak:Int)(y:LB):Option R_:=H.e P_ [r,r,r,r,r,r,r,r,r,r,r,l,(call 4 107),r,r,d] (t45 h a b f g ak y)
def x42(u k m n o p:Int)(h:LI)(a:Int)(b:UInt8)(f g ab:Int)(aa:LB):Option R_:=H.e P_ [r,r,r,r,r,r,r,r,r,r,l,(call 5 107),r,r,d] (t42 u k m n o p h a b f g ab aa)
def x39(p k m n o u:Int)(h:LI)(a:Int)(b:UInt8)(f g ad:Int)(ac:LB):Option R_:=H.e P_ [r,r,r,r,r,r,r,r,r,l,(call 4 107),r,r,d] (t39 p k m n o u h a b f g ad ac)
def x36(o k m n p u:Int)(h:LI)(a:Int)(b:UInt8)(f g af:Int)(ae:LB):Option R_:=H.e P_ [r,r,r,r,r,r,r,r,l,(call 4 107),r,r,d] (t36 o k m n p u h a b f g af ae)
def x33(n k m o p u:Int)(h:LI)(a:Int)(b:UInt8)(f g ah:Int)(ag:LB):Option R_:=H.e P_ [r,r,r,r,r,r,r,l,(call 4 107),r,r,d] (t33 n k m o p u h a b f g ah ag)
def x30(m k n o p u:Int)(h:LI)(a:Int)(b:UInt8)(f g aj:Int)(ai:LB):Option R_:=H.e P_ [r,r,r,r,r,r,l,(call 4 107),r,r,d] (t30 m k n o p u h a b f g aj ai)
def x26(k m n o p u:Int)(h:LI)(a:Int)(b:UInt8)(f g:Int):Option R_:=H.e P_ [r,r,r] ⟨[(1,.ptr 0 []),(5,.ptr 1 []),(6,.ptr 2 [])],[.box 101 (.agg [.agg [.agg [vi k,vi m,vi n,vi o,vi p],vi u,vl h],.agg [vi a,vc b,vi f,vi g]]),.box 95 (.agg [vi k,vi m,vi n,vi o,vi p]),.box 99 (.agg [vi a,vc b,vi f,vi g])],[]⟩
theorem i48(a:Int)(b:UInt8)(f g:Int):∀(q:Nat) (w:Int) (v:LB),z48 q (t48 a b f g w v)=BO a b f g q w v:=
 ind (λ_ _=>by kernel_rfl) λq ih w v=>Eq.trans (b:=dI MJ (λw v=>(z48 q) (t48 a b f g w v)) a b f g w v) F2 (by simp only[ih]<;>rfl)
theorem e48:x48=cX:=by funext a b f g w v;exact Eq.trans F2 ((i48 a b f g Bc w v).trans (by rw[Ah];rfl))
theorem i45(h:LI)(a:Int)(b:UInt8)(f g:Int):∀(q:Nat) (ak:Int) (y:LB),z45 q (t45 h a b f g ak y)=Zo h a b f g q ak y:=
 ind (λ_ _=>by kernel_rfl) λq ih ak y=>Eq.trans (b:=gB (KM x48) (λak y=>(z45 q) (t45 h a b f g ak y)) h a b f g ak y) F2 (by simp only[e48,ih]<;>rfl)
theorem e45:x45=fH:=by funext h a b f g ak y;exact Eq.trans F2 ((i45 h a b f g Bc ak y).trans (by rw[Ah];rfl))
theorem i42(u k m n o p:Int)(h:LI)(a:Int)(b:UInt8)(f g:Int):∀(q:Nat) (ab:Int) (aa:LB),z42 q (t42 u k m n o p h a b f g ab aa)=Zi u k m n o p h a b f g q ab aa:=
 ind (λ_ _=>by kernel_rfl) λq ih ab aa=>Eq.trans (b:=fY (KA x45) (λab aa=>(z42 q) (t42 u k m n o p h a b f g ab aa)) u k m n o p h a b f g ab aa) F2 (by simp only[e45,ih]<;>rfl)
theorem e42:x42=iI:=by funext u k m n o p h a b f g ab aa;exact Eq.trans F2 ((i42 u k m n o p h a b f g Bc ab aa).trans (by rw[Ah];rfl))
theorem i39(p k m n o u:Int)(h:LI)(a:Int)(b:UInt8)(f g:Int):∀(q:Nat) (ad:Int) (ac:LB),z39 q (t39 p k m n o u h a b f g ad ac)=BE p k m n o u h a b f g q ad ac:=
 ind (λ_ _=>by kernel_rfl) λq ih ad ac=>Eq.trans (b:=fD (KO x42) (λad ac=>(z39 q) (t39 p k m n o u h a b f g ad ac)) p k m n o u h a b f g ad ac) F2 (by simp only[e42,ih]<;>rfl)
theorem e39:x39=gL:=by funext p k m n o u h a b f g ad ac;exact Eq.trans F2 ((i39 p k m n o u h a b f g Bc ad ac).trans (by rw[Ah];rfl))
theorem i36(o k m n p u:Int)(h:LI)(a:Int)(b:UInt8)(f g:Int):∀(q:Nat) (af:Int) (ae:LB),z36 q (t36 o k m n p u h a b f g af ae)=BB o k m n p u h a b f g q af ae:=
 ind (λ_ _=>by kernel_rfl) λq ih af ae=>Eq.trans (b:=eO (KP x39) (λaf ae=>(z36 q) (t36 o k m n p u h a b f g af ae)) o k m n p u h a b f g af ae) F2 (by simp only[e39,ih]<;>rfl)
theorem e36:x36=iC:=by funext o k m n p u h a b f g af ae;exact Eq.trans F2 ((i36 o k m n p u h a b f g Bc af ae).trans (by rw[Ah];rfl))
theorem i33(n k m o p u:Int)(h:LI)(a:Int)(b:UInt8)(f g:Int):∀(q:Nat) (ah:Int) (ag:LB),z33 q (t33 n k m o p u h a b f g ah ag)=Yu n k m o p u h a b f g q ah ag:=
 ind (λ_ _=>by kernel_rfl) λq ih ah ag=>Eq.trans (b:=gR (JY x36) (λah ag=>(z33 q) (t33 n k m o p u h a b f g ah ag)) n k m o p u h a b f g ah ag) F2 (by simp only[e36,ih]<;>rfl)
theorem e33:x33=fM:=by funext n k m o p u h a b f g ah ag;exact Eq.trans F2 ((i33 n k m o p u h a b f g Bc ah ag).trans (by rw[Ah];rfl))
theorem i30(m k n o p u:Int)(h:LI)(a:Int)(b:UInt8)(f g:Int):∀(q:Nat) (aj:Int) (ai:LB),z30 q (t30 m k n o p u h a b f g aj ai)=Zg m k n o p u h a b f g q aj ai:=
 ind (λ_ _=>by kernel_rfl) λq ih aj ai=>Eq.trans (b:=eZ (LR x33) (λaj ai=>(z30 q) (t30 m k n o p u h a b f g aj ai)) m k n o p u h a b f g aj ai) F2 (by simp only[e33,ih]<;>rfl)
theorem e30:x30=iW:=by funext m k n o p u h a b f g aj ai;exact Eq.trans F2 ((i30 m k n o p u h a b f g Bc aj ai).trans (by rw[Ah];rfl))
theorem i27(k m n o p u:Int)(h:LI)(a:Int)(b:UInt8)(f g:Int):∀(q:Nat) (am:Int) (al:LB),z27 q (t27 k m n o p u h a b f g am al)=AX k m n o p u h a b f g q am al:=
 ind (λ_ _=>by kernel_rfl) λq ih am al=>Eq.trans (b:=cK (KU x30) (λam al=>(z27 q) (t27 k m n o p u h a b f g am al)) k m n o p u h a b f g am al) F2 (by simp only[e30,ih]<;>rfl)
theorem e26:x26=IS:=Eq.trans (b:=KL (λk m n o p u h a b f g am al=>z27 Bc (t27 k m n o p u h a b f g am al))) F2 (by simp only[i27,Ah]<;>rfl)
def k:Kc P_ gl:=⟨(74,⟨H.p,H.r,u11 oX⟩),cp H func74 (by intro p hp;rcases List.mem_cons.1 hp with rfl|hp;exact trivial;rcases List.mem_cons.1 hp with rfl|hp;exact S7;rcases List.mem_cons.1 hp with rfl|hp;exact P4;rcases List.mem_cons.1 hp with rfl|hp;exact trivial;cases hp) (λx=>Eq.trans (b:=u11 (KY x26) x) F2 (by rw[Asz];simp only[e26]<;>rfl))⟩
end F74
namespace F59
def H:=hd_ [Ss,Ss] [Ss] .d [F67.k] f59
def k:KC_:=kk_ 59 H (u2 Et) func59
end F59
namespace F25
def H:=hd_ [Ss,Ss] [Ss] .d [F59.k] f25
def k:KC_:=kk_ 25 H (u2 Ge) func25
end F25
theorem Afy:ConOk Tryz.prog gl 139 PW:=Ajl ent139
namespace F108
abbrev R_:=LB
def H:=hd_ [Ss,Ss,Ss,Si] [Ss] (.q (.q (.cut [0,1,2,3] [] .d (.q (.q (.q (.cut [0,10,11] [] (.q (.cond (.q (.blk (.loop [0,1,2,10,11,52,53] [] (.q (.q (.seq (.blk (.q (.seq (.keep [0,1,2,10,11,12,52,53,62,63,64,65] true) (.seq (.keep [0,1,2,10,12,52,53,67] true) .d)))) .d)))))) (.seq (.keep [0,2,3,10,11,74] true) (.q (.blk (.loop [0,2,10,11,77,78] [] (.q (.q (.seq (.blk (.q (.q (.seq (.keep [0,2,10,11,15,77,78,90,91,92,93] true) (.seq (.keep [0,2,10,15,77,78,95] true) .d))))) .d))))))))) (.seq (.keep [0,10,11,99,100,101] true) .d)))))))) [⟨(27,Pw),CV⟩,⟨(62,FJ),SI⟩,⟨(139,PW),Afy⟩] f108 false [(23,.d),(26,.pr 1 51 5),(36,.pr 0 51 5),(157,.pr 2 51 5)]
def t8(a g b:LB)(f h m:Int)(n:LB):S:=⟨[(0,vs a),(1,vs g),(2,vs b),(10,.ptr 0 []),(11,vi h),(52,vi f),(53,vi m)],[.box 51 (.agg [.wp 0,.own 1]),Ab 5 n],[]⟩
def z8:ZT_ R_:=H.i P_ [r,r,r,r,r,r,l,r,l,r,d]
def t10(a b:LB)(f k o:Int)(p:LB):S:=⟨[(0,vs a),(2,vs b),(10,.ptr 0 []),(11,vi k),(77,vi (Ag f (1:Int))),(78,vi o)],[.box 51 (.agg [.wp 0,.own 1]),Ab 5 p],[]⟩
def z10:ZT_ R_:=H.i P_ [r,r,r,r,r,r,l,r,r,r,r,d]
theorem i8(a g b:LB)(f:Int):∀(q:Nat) (h m:Int) (n:LB),z8 q (t8 a g b f h m n)=Oo a g b f q h m n:=
 ind (λ_ _ _=>by kernel_rfl) λq ih h m n=>Eq.trans (b:=JP Jn (λh m n=>(z8 q) (t8 a g b f h m n)) a g b f h m n) F2 (by simp only[ih]<;>rfl)
theorem i10(a b:LB)(f:Int):∀(q:Nat) (k o:Int) (p:LB),z10 q (t10 a b f k o p)=Uf a b f q k o p:=
 ind (λ_ _ _=>by kernel_rfl) λq ih k o p=>Eq.trans (b:=GX Jn (λk o p=>(z10 q) (t10 a b f k o p)) a b f k o p) F2 (by simp only[ih]<;>rfl)
def k:Kc P_ gl:=⟨(108,⟨H.p,H.r,u4 FM⟩),cp H func108 (by intro p hp;rcases List.mem_cons.1 hp with rfl|hp;exact trivial;rcases List.mem_cons.1 hp with rfl|hp;exact S7;rcases List.mem_cons.1 hp with rfl|hp;exact P4;rcases List.mem_cons.1 hp with rfl|hp;exact qR;cases hp) (λx=>Eq.trans (b:=u4 (IG (Wz (λa g b f h m n=>z8 Bc (t8 a g b f h m n)) (λa b f k o p=>z10 Bc (t10 a b f k o p)))) x) F2 (by simp only[i8,i10,Ah]<;>rfl))⟩
end F108
namespace F75
def H:=hd_ [Ss,Ss,Ss] [Ss] .d [F108.k] f75
def k:KC_:=kk_ 75 H (u3 Wq) func75
end F75
namespace F112
abbrev R_:=LB
def H:=hd_ [.lf (.list .str) none,Ss] [Ss] (.q (.q (.q (.cut [0,1,5] [] (.q (.cond (.cut [0,1,5] [] .d .d) .d)) (.cut [0,1,5] [] (.q (.blk (.loop [0,1,5,39,40,41] [] .d))) (.q (.q (.seq (.keep [0,1,8,58,59,60] true) (.cut [8] [] (.q (.blk (.loop [1,8,63,64,65] [] (.q (.q (.seq (.blk (.q (.seq (.keep [1,8,10,63,64,65,69] true) (.keep [1,8,10,63,64,65,71] true)))) .d)))))) .d))))))))) [] f112 false [(23,.d),(26,.pr 1 51 5),(36,.pr 0 51 5),(157,.pr 2 51 5)]
def t14(a:LB)(f:List LB)(k:Int)(h:LB):S:=⟨[(1,vs a),(8,.ptr 0 []),(63,.val (.list .str) f),(64,vi (Aa f)),(65,vi k)],[.box 51 (.agg [.wp 0,.own 1]),Ab 5 h],[]⟩
def z14:ZT_ R_:=H.i P_ [r,r,r,r,r,r,r,r,l,r,d]
def t11(b:List LB)(a:LB)(g m:Int):S:=⟨[(0,.val (.list .str) b),(1,vs a),(5,vi g),(39,.val (.list .str) b),(40,vi (Aa b)),(41,vi m)],[],[]⟩
def z11:ZT_ R_:=H.i P_ [r,r,r,r,l,r,d]
def x14(a:LB)(f:List LB)(k:Int)(h:LB):Option R_:=H.e P_ [r,r,r,r,r,r,r,r,l,r,d] (t14 a f k h)
theorem i14(a:LB)(f:List LB):∀(q:Nat) (k:Int) (h:LB),z14 q (t14 a f k h)=Sn a f q k h:=
 ind (λ_ _=>by kernel_rfl) λq ih k h=>Eq.trans (b:=UI SW (λk h=>(z14 q) (t14 a f k h)) a f k h) F2 (by simp only[ih]<;>rfl)
theorem e14:x14=UF:=by funext a f k h;exact Eq.trans F2 ((i14 a f Bc k h).trans (by rw[Ah];rfl))
theorem i11(b:List LB)(a:LB):∀(q:Nat) (g m:Int),z11 q (t11 b a g m)=Tm b a q g m:=
 ind (λ_ _=>by kernel_rfl) λq ih g m=>Eq.trans (b:=RD (QS x14) (λg m=>(z11 q) (t11 b a g m)) b a g m) F2 (by simp only[e14,ih]<;>rfl)
def k:Kc P_ gl:=⟨(112,⟨H.p,H.r,u2 HK⟩),cp H func112 (by intro p hp;rcases List.mem_cons.1 hp with rfl|hp;exact trivial;rcases List.mem_cons.1 hp with rfl|hp;exact S7;rcases List.mem_cons.1 hp with rfl|hp;exact P4;rcases List.mem_cons.1 hp with rfl|hp;exact qR;cases hp) (λx=>Eq.trans (b:=u2 (aO (bG (DR (λb a g m=>z11 Bc (t11 b a g m)))) (DR (λb a g m=>z11 Bc (t11 b a g m)))) x) F2 (by simp only[i11,Ah]<;>rfl))⟩
end F112
namespace F77
abbrev R_:=LB
def H:=hd_ [Sl,Si] [Ss] (.q (.q (.q (.cut [5] [] (.q (.blk (.loop [5,12,13,14] [⟨5,[],.own 9 .str⟩] .d))) .d)))) [F73.k,⟨(99,Nu),Vx⟩,F112.k] f77
def t4(a:LI)(f:Int)(b:List LB):S:=⟨[(5,.own 0),(12,vl a),(13,vi (Aa a)),(14,vi f)],[.arr 9 .str b],[]⟩
def z4:ZT_ R_:=H.i P_ [r,r,r,l,r,d]
theorem i4(a:LI):∀(q:Nat) (f:Int) (b:List LB),z4 q (t4 a f b)=Vt a q f b:=
 ind (λ_ _=>by kernel_rfl) λq ih f b=>Eq.trans (b:=aG ZM (λf b=>(z4 q) (t4 a f b)) a f b) F2 (by simp only[ih]<;>rfl)
def k:KC_:=kk_ 77 H (u2 Ek) func77 (λx=>Eq.trans (b:=u2 (ZI (λa f b=>z4 Bc (t4 a f b))) x) F2 (by simp only[i4,Ah]<;>rfl))
end F77
namespace F113
def H:=hd_ [Ss] [.agg [Ss,Ob 5,.agg [Si,Si,Si,Si,Si],Ol 3,Si,Ob 5,Sz,Si],Si] .d [] f113
def k:KC_:=kk_ 113 H Rt func113
end F113
namespace F127
def FK(a:LB):Option (LB):=
N1 a (
some ([]:LB)) (
(Ay ([]:LB) a).bind λb=>
some b)
theorem Arr: @FK= @Kf:=by
  unfold FK Kf
  repeat (refine funext λ_=>?_)
  repeat' first
    |with_reducible rfl
    |with_reducible refine Ft ?_ ?_
    |with_reducible refine Fm ?_ ?_ ?_
    |with_reducible refine Fx ?_ ?_ ?_ ?_
    |((with_reducible refine Iv ?_ ?_);focus (intro h;first|(subst h;rfl)|(simp only[h];rfl)|(simp[Ay,Aa,h];done)))
    |with_reducible refine Ii λx=>?_
    |with_reducible refine Mm (λ_=>?_) (λ_=>?_)
    |(refine Dh (λh=>by simp only[h,Ir,Cp,Cj,ite_self]) (λx h=>?_);(try simp only[h,Cp]))
    |(refine Ee (λh=>?_) (λh=>?_)<;>simp only[h,if_true,if_false,Bool.false_eq_true])
def H:=hd_ [Sb] [Ob 5] .d [] f127
def k:KC_:=kk_ 127 H Kf func127 (λx=>Eq.trans (b:=FK x) F2 (by simp only[Arr]<;>rfl))
end F127
namespace F219
def Ms(a:LI):Option (LI):=
N1 a (
some ([]:LI)) (
(Ay ([]:LI) a).bind λb=>
some b)
theorem Abt: @Ms= @Gn:=by
  unfold Ms Gn
  repeat (refine funext λ_=>?_)
  repeat' first
    |with_reducible rfl
    |with_reducible refine Ft ?_ ?_
    |with_reducible refine Fm ?_ ?_ ?_
    |with_reducible refine Fx ?_ ?_ ?_ ?_
    |((with_reducible refine Iv ?_ ?_);focus (intro h;first|(subst h;rfl)|(simp only[h];rfl)|(simp[Ay,Aa,h];done)))
    |with_reducible refine Ii λx=>?_
    |with_reducible refine Mm (λ_=>?_) (λ_=>?_)
    |(refine Dh (λh=>by simp only[h,Ir,Cp,Cj,ite_self]) (λx h=>?_);(try simp only[h,Cp]))
    |(refine Ee (λh=>?_) (λh=>?_)<;>simp only[h,if_true,if_false,Bool.false_eq_true])
def H:=hd_ [Sl] [Ol 3] .d [] f219
def k:KC_:=kk_ 219 H Gn func219 (λx=>Eq.trans (b:=Ms x) F2 (by simp only[Abt]<;>rfl))
end F219
namespace F161
def H:=hd_ [.agg [Ss,Sb,.agg [Si,Si,Si,Si,Si],Sl,Si,Sb,Sz,Si]] [.agg [Ss,Ob 5,.agg [Si,Si,Si,Si,Si],Ol 3,Si,Ob 5,Sz,Si]] .d [F127.k,F219.k] f161
def k:KC_:=kk_ 161 H (u12 Em) func161
end F161
namespace F274
def H:=hd_ [.agg [Si,Si,Si,Si,Si],Ss] [Si] .d [] f274
def k:KC_:=kk_ 274 H (u6 Rm) func274
end F274
namespace F271
abbrev R_:=Bool
def H:=hd_ [.agg [Ss,Sb,.agg [Si,Si,Si,Si,Si],Sl,Si,Sb,Sz,Si]] [Sz] (.q (.q (.q (.cut [1,3] [] .d (.q (.q (.q (.cut [1,5] [] (.q (.blk (.loop [1,5,83,84,85] [] .d))) .d)))))))) [F154.k,F156.k,F274.k] f271
def t6(w:LI)(o p:LB)(h b f k m:Int)(g:LI)(a:Int)(n:LB)(u:Bool)(v y aa:Int):S:=⟨[(1,.ptr 0 []),(5,vi y),(83,vl w),(84,vi (Aa w)),(85,vi aa)],[.box 148 (.agg [vs o,vb p,.agg [vi h,vi b,vi f,vi k,vi m],vl g,vi a,vb n,vt u,vi v])],[]⟩
def z6:ZT_ R_:=H.i P_ [r,r,r,r,r,r,r,l,r,d]
theorem i6(w:LI)(o p:LB)(h b f k m:Int)(g:LI)(a:Int)(n:LB)(u:Bool)(v:Int):∀(q:Nat) (y aa:Int),z6 q (t6 w o p h b f k m g a n u v y aa)=Vs w o p h b f k m g a n u v q y aa:=
 ind (λ_ _=>by kernel_rfl) λq ih y aa=>Eq.trans (b:=ZR bE (λy aa=>(z6 q) (t6 w o p h b f k m g a n u v y aa)) w o p h b f k m g a n u v y aa) F2 (by simp only[ih]<;>rfl)
def k:KC_:=kk_ 271 H (u12 HG) func271 (λx=>Eq.trans (b:=u12 (bK (bD (λw o p h b f k m g a n u v y aa=>z6 Bc (t6 w o p h b f k m g a n u v y aa)))) x) F2 (by simp only[i6,Ah]<;>rfl))
end F271
namespace F218
def H:=hd_ [Si] [.agg [Sz,Si]] .d [] f218
def k:KC_:=kk_ 218 H Ap func218
end F218
namespace F273
abbrev R_:=Bool
def H:=hd_ [Sb] [Sz] (.q (.cut [] [] (.q (.blk (.loop [0,5,6] [] .d))) .d)) [F204.k] f273
def t4(a:LB)(b:Int):S:=⟨[(0,vb a),(5,.val (.vec 2 .str) ([([73,68,51]:LB),([65,80,69,84,65,71,69,88]:LB)]:List LB)),(6,vi b)],[],[]⟩
def z4:ZT_ R_:=H.i P_ [r,l,r,d]
theorem i4(a:LB):∀(q:Nat) (b:Int),z4 q (t4 a b)=Vy a q b:=
 ind (λ_=>by kernel_rfl) λq ih b=>Eq.trans (b:=ZY aJ (λb=>(z4 q) (t4 a b)) a b) F2 (by simp only[ih]<;>rfl)
def k:KC_:=kk_ 273 H Pq func273 (λx=>Eq.trans (b:=FX (λa b=>z4 Bc (t4 a b)) x) F2 (by simp only[i4,Ah]<;>rfl))
end F273
namespace F275
def H:=hd_ [.agg [Si,Si,Si,Si,Si]] [.agg [Si,Si]] .d [] f275
def k:KC_:=kk_ 275 H (u5 DW) func275
end F275
namespace F346
abbrev R_:=Int
def H:=hd_ [Sl,Si] [Si] (.q (.cut [] [] (.q (.blk (.loop [0,1,7,8] [] .d))) .d)) [] f346
def t4(a:LI)(b f:Int):S:=⟨[(0,vl a),(1,vi b),(7,vi (Aa a)),(8,vi f)],[],[]⟩
def z4:ZT_ R_:=H.i P_ [r,l,r,d]
theorem i4(a:LI)(b:Int):∀(q:Nat) (f:Int),z4 q (t4 a b f)=Dw a b q f:=
 ind (λ_=>by kernel_rfl) λq ih f=>Eq.trans (b:=Kh Ka (λf=>(z4 q) (t4 a b f)) a b f) F2 (by simp only[ih]<;>rfl)
def k:KC_:=kk_ 346 H (u2 Eo) func346 (λx=>Eq.trans (b:=u2 (Fw (λa b f=>z4 Bc (t4 a b f))) x) F2 (by simp only[i4,Ah]<;>rfl))
end F346
namespace F313
def H:=hd_ [Sl,Si] [Sz] .d [F346.k] f313
def k:KC_:=kk_ 313 H (u2 Fo) func313
end F313
namespace F272
def H:=hd_ [Si] [Sz] .d [F313.k] f272
def k:KC_:=kk_ 272 H Qh func272
end F272
namespace F214
def Wk(j28:Bool->Int->Option Int)(y ac:Int)(g a:LB)(h p m u v b:Int)(n:Bool)(o:Int)(ak:LX)(f:LI)(k:LB):Option Int:=
if(Bb ac 0)then
(Ap ac).bind λ(bi,bj)=>
j28 bi bj
else
(Ki m ak).bind λ(bk,bb)=>
if(Bb bb 0)then
(Ap bb).bind λ(bl,bm)=>
j28 bl bm
else
(Ay k bk).bind λdv=>
(λfa:Option Int=>
bo (
fa)) (
(Bi a y (Aa a)).bind λdw=>
j28 false 0)
theorem Ald: @Wk= @BI:=by
  unfold Wk BI;simp only[CJ,Ql,Qs]
def Ys(j13:Bool->Int->Option Int)(j12:LB->LB->Int->Int->Int->Int->Int->Int->Bool->Int->LI->LB->Option Int)(j25:Bool->Int->Option Int)(j23:LB->LB->Int->Int->Int->Int->Int->Int->Bool->Int->LI->LB->Option Int)(j24:LB->LB->Int->Int->Int->Int->Int->Int->Bool->Int->LI->LB->Int->Option Int)(j28:Bool->Int->Option Int)(j26:Int->LB->LB->Int->Int->Int->Int->Int->Int->Bool->Int->LX->LI->LI->LB->Option Int)(j22:Bool->Option Int)(j21:Option Int)(al am:LB)(an ao ap aq ar:Int)(au:LI)(ad:Int)(ae:LB)(aa:Bool)(w:Int):Option Int:=
if(Dr (Aa al) 64)then
some 8
else
if((geq w 0)&&(!aa))then
(Em al am an ao ap aq ar au ad ae aa w).bind λ(g,a,h,p,m,u,v,f,b,k,n,o)=>
(HG al am an ao ap aq ar au ad ae aa w).bind λbn=>
if bn then
if(geq h 0)then
(Gj a).bind λ(ah,av)=>
if(geq av 24)then
j13 true 0
else
if(Bb av 0)then
(Ap av).bind λ(bp,bq)=>
j13 bp bq
else
(Bi a ah (Aa a)).bind λbr=>
(Pq br).bind λaj=>
if aj then
j13 true 0
else
(Bi a ah (Aa a)).bind λbs=>
(Ke bs).bind λ(ay,az,ab,ba,af,aw)=>
if(geq aw 24)then
j13 true 0
else
if(Bb aw 0)then
(Ap aw).bind λ(bt,bu)=>
j13 bt bu
else
both (
(Bi a (Af ah 22) (Aa a)).bind λax=>
(λfb:Option Int=>
bo (
fb)) (
j12 g ax ay az ab ba af b n o f k)) [
(Bi a (Af ah 22) (Aa a)).bind λax=>
j12 g ax ay az ab ba af b n o f k]
else
if(geq (Aa f) 0)then
if(geq h 2)then
if(Bw (Aa a) 8)then
j25 true 0
else
j23 g a h p m u v b n o f k
else
j24 g a h p m u v b n o f k 0
else
if(Bw b (Aa f))then
(Ae f b).bind λ_=>
(Ae f b).bind λy=>
if(Bw (Aa a) y)then
j28 true 0
else
(Nz g).bind λ(bc,ai)=>
if(Bb ai 0)then
(Ap ai).bind λ(bv,bw)=>
j28 bv bw
else
(Bn h p m u v).bind λ(ag,bx)=>
if((Bb bx 0)||(Fu b (Aa ag)))then
(Ap 8).bind λ(bz,da)=>
j28 bz da
else
j26 y g a h p m u v b n o bc ag f k
else
if(Dr (Aa a) 4000)then
(Ap 38).bind λ(db,bd)=>
j22 ((db==true)&&((geq bd 0)&&true))
else
j21
else
j22 false
else
if((geq (Aa am) 0)&&(geq (Aa au) 0))then
if((((geq an 0)&&((geq ao 0)&&((geq ap 0)&&((geq aq 0)&&((geq ar 0)&&true)))))&&(geq ad 0))&&(TH (Aa ae) 12000))then
if(geq w 0)then
j22 true
else
if(!aa)then
(Qh w).bind λdc=>
j22 dc
else
j22 false
else
j22 false
else
if((false&&(geq ad 0))&&(TH (Aa ae) 12000))then
if(geq w 0)then
j22 true
else
if(!aa)then
(Qh w).bind λdd=>
j22 dd
else
j22 false
else
j22 false
theorem Aml: @Ys= @DC:=by
  unfold Ys DC
  try simp only[CJ,Ql,Qs]
  all_goals
    repeat (refine funext λ_=>?_)
    repeat' first
      |with_reducible rfl
      |with_reducible refine Ft ?_ ?_
      |with_reducible refine Fm ?_ ?_ ?_
      |with_reducible refine Fx ?_ ?_ ?_ ?_
      |((with_reducible refine Iv ?_ ?_);focus (intro h;first|(subst h;rfl)|(simp only[h];rfl)|(simp[Ay,Aa,h];done)))
      |with_reducible refine Ii λx=>?_
      |with_reducible refine Mm (λ_=>?_) (λ_=>?_)
      |(refine Dh (λh=>by simp only[h,Ir,Cp,Cj,ite_self]) (λx h=>?_);(try simp only[h,Cp]))
      |(refine Ee (λh=>?_) (λh=>?_)<;>simp only[h,if_true,if_false,Bool.false_eq_true])
abbrev R_:=Int
def H:=hd_ [.agg [Ss,Sb,.agg [Si,Si,Si,Si,Si],Sl,Si,Sb,Sz,Si]] [Si] (.q (.q (.q (.cut [3] [] (.q (.cond (.q (.keep [3,21,22,23,24,25] false)) .d)) .d)))) [F132.k,⟨(151,Kk),Nx⟩,F152.k,F153.k,F154.k,F155.k,F161.k,F172.k,F174.k,F218.k,F271.k,F272.k,F273.k,F274.k,F275.k] f214 false [(160,(.q (.cut [2] [] (.blk (.q (.cond (.cut [2] [] (.keep [2,11] true) .d) (.q (.cond (.cut [2] [] (.keep [2,20] true) .d) (.q (.cond (.cut [2] [] (.keep [2,33] true) .d) .d))))))) .d))),(215,(.q (.q (.q (.q (.q (.cut [0,2,5] [] (.mode false) .d))))))),(216,(.q (.q (.cut [0,2,3] [⟨0,[1],.ro (.int .u8)⟩] (.q (.cond (.q (.cut [0,2,3] [⟨0,[1],.ro (.int .u8)⟩,⟨9,[1],.ro (.int .u8)⟩,⟨10,[1],.ro (.int .u8)⟩,⟨15,[1],.ro (.int .u8)⟩,⟨16,[1],.ro (.int .u8)⟩,⟨18,[],.ro (.int .u8)⟩] .d (.cut [0,2,3,4,5] [] .d .d))) .d)) .d)))),(217,(.q (.q (.q (.q (.q (.q (.cut [0,2,3,4,6] [⟨0,[1],.ro (.int .u8)⟩,⟨9,[1],.ro (.int .u8)⟩,⟨10,[1],.ro (.int .u8)⟩,⟨13,[1],.ro (.int .u8)⟩,⟨14,[1],.ro (.int .u8)⟩,⟨19,[1],.ro (.int .u8)⟩,⟨20,[1],.ro (.int .u8)⟩,⟨22,[],.ro (.int .u8)⟩,⟨28,[1],.ro (.int .u8)⟩,⟨29,[1],.ro (.int .u8)⟩,⟨40,[1],.ro (.int .u8)⟩,⟨41,[1],.ro (.int .u8)⟩] .d (.cut [0,2,3,5,7] [] .d (.q (.q (.q (.q (.seq (.mode false) .d))))))))))))))]
def x27(y ac:Int)(g a:LB)(h p m u v b:Int)(n:Bool)(o:Int)(ak:LX)(f:LI)(k:LB):Option R_:=H.e P_ [r,r,r,l,r,l,r,(dcall 3 160 3 #[true,true,true,true,true,true,true,true] #[true,true,true,true,true,false,false,false]),r,l,d,r,r,r,r,r,l,l,(call 1 217),r,r,r,r,r,r,r,r] ⟨[(0,.ptr 0 []),(2,.ptr 1 []),(3,vi y),(5,vi ac),(7,.own 2)],[.box 148 (.agg [vs g,vb a,.agg [vi h,vi p,vi m,vi u,vi v],.own 4,vi b,.own 5,vt n,vi o]),.box 210 (.agg [vt false,vi 0]),Aw 21 ak,.box 210 (.agg [vt false,vi 0]),Ai 3 f,Ab 5 k],[[(2,.ptr 3 [])],[(3,vt false),(21,.cst (.bool true)),(23,.agg [vt true,vi 0])]]⟩
theorem e27:x27=OY:=Eq.trans (b:=Wk Me) F2 (by rw[Ald];rfl)
def k:KC_:=kk_ 214 H (u12 Qi) func214 (λx=>Eq.trans (b:=u12 (Ys Qw Ze Mf MZ Rj Me (NW x27) Ha AT) x) F2 (by rw[Aml];simp only[e27]<;>rfl))
end F214
namespace F159
def AU(f g:LB)(h k m n o:Int)(p:LI)(u:Int)(v:LB)(b:Bool)(a:Int):Option (LB×LB×Int×Int×Int×Int×Int×LI×Int×LB×Bool×Int×Int):=
(Qi f g h k m n o p u v b a).bind λw=>
if(Bb w 0)then
some (([]:LB),([]:LB),0,0,0,0,0,([]:LI),0,([]:LB),false,0,w)
else
if(Bb a 0)then
(λbl:Option (LB×LB×Int×Int×Int×Int×Int×LI×Int×LB×Bool×Int×Int)=>
both (
both (
(Em f g h k m n o p u v b a).bind λ(y,aa,ab,ac,ad,ae,af,ag,ah,ai,aj,ak)=>
(λbm:Option (LB×LB×Int×Int×Int×Int×Int×LI×Int×LB×Bool×Int×Int)=>
bo (
bm)) (
some (y,aa,ab,ac,ad,ae,af,ag,ah,ai,aj,ak,a))) [
bl]) [
bl]) (
(Em f g h k m n o p u v b a).bind λ(y,aa,ab,ac,ad,ae,af,ag,ah,ai,aj,ak)=>
some (y,aa,ab,ac,ad,ae,af,ag,ah,ai,aj,ak,a))
else
if b then
(Em f g h k m n o p u v b a).bind λ(al,am,an,ao,ap,aq,ar,au,av,aw,ax,ay)=>
some (al,am,an,ao,ap,aq,ar,au,av,aw,ax,ay,36)
else
(Em f g h k m n o p u v b a).bind λ(az,ba,bb,bc,bd,be,bf,bg,bh,bi,bj,bk)=>
some (az,ba,bb,bc,bd,be,bf,bg,bh,bi,bj,bk,0)
theorem Amf: @AU= @Qj:=by
  unfold AU Qj
  try simp only[CJ,Ql,Qs]
  all_goals
    repeat (refine funext λ_=>?_)
    repeat' first
      |with_reducible rfl
      |with_reducible refine Ft ?_ ?_
      |with_reducible refine Fm ?_ ?_ ?_
      |with_reducible refine Fx ?_ ?_ ?_ ?_
      |((with_reducible refine Iv ?_ ?_);focus (intro h;first|(subst h;rfl)|(simp only[h];rfl)|(simp[Ay,Aa,h];done)))
      |with_reducible refine Ii λx=>?_
      |with_reducible refine Mm (λ_=>?_) (λ_=>?_)
      |(refine Dh (λh=>by simp only[h,Ir,Cp,Cj,ite_self]) (λx h=>?_);(try simp only[h,Cp]))
      |(refine Ee (λh=>?_) (λh=>?_)<;>simp only[h,if_true,if_false,Bool.false_eq_true])
def H:=hd_ [.agg [Ss,Sb,.agg [Si,Si,Si,Si,Si],Sl,Si,Sb,Sz,Si]] [.agg [Ss,Ob 5,.agg [Si,Si,Si,Si,Si],Ol 3,Si,Ob 5,Sz,Si],Si] (.q (.q (.seq (.blk (.q (.cond (.seq (.mode false) .d) .d))) .d))) [F161.k,F214.k] f159
def k:KC_:=kk_ 159 H (u12 Qj) func159 (λx=>Eq.trans (b:=u12 AU x) F2 (by simp only[Amf]<;>rfl))
end F159
namespace F162
def H:=hd_ [.agg [Ss,Sb,.agg [Si,Si,Si,Si,Si],Sl,Si,Sb,Sz,Si],Si] [.agg [Ss,Ob 5,.agg [Si,Si,Si,Si,Si],Ol 3,Si,Sb,Sz,Si],Si] .d [] f162
def k:KC_:=kk_ 162 H (u13 HY) func162
end F162
namespace F114
def CA(j78:Int->Int->Int->Int->Int->LI->Bool->Int->LB->Int->LB->Option (LB×LB×Int×Int×Int×Int×Int×LI×Int×LB×Bool×Int×Int))(a:LB)(b:Bool)(f w ab:Int)(g:LB)(m o n p u h:Int)(am:LX)(k:LI)(v:LB):Option (LB×LB×Int×Int×Int×Int×Int×LI×Int×LB×Bool×Int×Int):=
if(Bb ab 0)then
(Ap ab).bind λ(br,bs)=>
j78 m o n p u k br bs g h v
else
(Ki n am).bind λ(bt,af)=>
if(Bb af 0)then
(Ap af).bind λ(bu,bv)=>
j78 m o n p u k bu bv g h v
else
(Ay v bt).bind λbw=>
(λhb:Option (LB×LB×Int×Int×Int×Int×Int×LI×Int×LB×Bool×Int×Int)=>
bo (
hb)) (
(Bi g w (Aa g)).bind λbx=>
j78 m o n p u k false 0 bx (Af h 1) bw)
theorem Alq: @CA= @CX:=by
  unfold CA CX;simp only[CJ,Ql,Qs]
def Yr(j62:Int->LI->LB->Bool->Int->LB->Int->Int->Int->Int->Int->Option (LB×LB×Int×Int×Int×Int×Int×LI×Int×LB×Bool×Int×Int))(j61:LB->Int->Int->Int->Int->Int->Int->LI->LB->Option (LB×LB×Int×Int×Int×Int×Int×LI×Int×LB×Bool×Int×Int))(j75:Int->Int->Int->Int->Int->Int->LB->Bool->Int->LB->LI->Option (LB×LB×Int×Int×Int×Int×Int×LI×Int×LB×Bool×Int×Int))(j73:LB->Int->Int->Int->Int->Int->Int->LI->LB->Option (LB×LB×Int×Int×Int×Int×Int×LI×Int×LB×Bool×Int×Int))(j74:LB->Int->Int->Int->Int->Int->Int->LI->LB->Int->Option (LB×LB×Int×Int×Int×Int×Int×LI×Int×LB×Bool×Int×Int))(j78:Int->Int->Int->Int->Int->LI->Bool->Int->LB->Int->LB->Option (LB×LB×Int×Int×Int×Int×Int×LI×Int×LB×Bool×Int×Int))(j76:Int->LB->Int->Int->Int->Int->Int->Int->LX->LI->LI->LB->Option (LB×LB×Int×Int×Int×Int×Int×LI×Int×LB×Bool×Int×Int))(j71:LB->Int->Int->Int->Int->Int->Int->Bool->Int->LI->LB->Option (LB×LB×Int×Int×Int×Int×Int×LI×Int×LB×Bool×Int×Int))(j70:LB->Int->Int->Int->Int->Int->Int->LI->LB->Option (LB×LB×Int×Int×Int×Int×Int×LI×Int×LB×Bool×Int×Int))(a:LB)(b:Bool)(f:Int)(g:LB)(m o n p u h:Int)(k:LI)(v:LB):Option (LB×LB×Int×Int×Int×Int×Int×LI×Int×LB×Bool×Int×Int):=
if(geq m 0)then
(Gj g).bind λ(ad,an)=>
if(geq an 24)then
j62 h k v true 0 g m o n p u
else
if(Bb an 0)then
(Ap an).bind λ(bz,da)=>
j62 h k v bz da g m o n p u
else
(Bi g ad (Aa g)).bind λdb=>
(Pq db).bind λal=>
if al then
j62 h k v true 0 g m o n p u
else
(Bi g ad (Aa g)).bind λdc=>
(Ke dc).bind λ(ah,ai,y,aj,aa,ao)=>
if(geq ao 24)then
j62 h k v true 0 g m o n p u
else
if(Bb ao 0)then
(Ap ao).bind λ(dd,de)=>
j62 h k v dd de g m o n p u
else
both (
(Bi g (Af ad 22) (Aa g)).bind λag=>
bo (
j61 ag ah ai y aj aa h k v)) [
(Bi g (Af ad 22) (Aa g)).bind λag=>
j61 ag ah ai y aj aa h k v]
else
if(geq (Aa k) 0)then
if(geq m 2)then
if(Bw (Aa g) 8)then
j75 m o n p u h v true 0 g k
else
j73 g m o n p u h k v
else
j74 g m o n p u h k v 0
else
if(Bw h (Aa k))then
(Ae k h).bind λ_=>
(Ae k h).bind λw=>
if(Bw (Aa g) w)then
j78 m o n p u k true 0 g h v
else
(Nz a).bind λ(aq,ak)=>
if(Bb ak 0)then
(Ap ak).bind λ(df,dg)=>
j78 m o n p u k df dg g h v
else
(Bn m o n p u).bind λ(ac,dh)=>
if((Bb dh 0)||(Fu h (Aa ac)))then
(Ap 8).bind λ(di,ap)=>
j78 m o n p u k di ap g h v
else
j76 w g m o n p u h aq ac k v
else
if(Dr (Aa g) 4000)then
(Ap 38).bind λ(dj,ae)=>
j71 g m o n p u h dj ae k v
else
j70 g m o n p u h k v
theorem Amj: @Yr= @CN:=by
  unfold Yr CN
  repeat (refine funext λ_=>?_)
  repeat' first
    |with_reducible rfl
    |with_reducible refine Ft ?_ ?_
    |with_reducible refine Fm ?_ ?_ ?_
    |with_reducible refine Fx ?_ ?_ ?_ ?_
    |((with_reducible refine Iv ?_ ?_);focus (intro h;first|(subst h;rfl)|(simp only[h];rfl)|(simp[Ay,Aa,h];done)))
    |with_reducible refine Ii λx=>?_
    |with_reducible refine Mm (λ_=>?_) (λ_=>?_)
    |(refine Dh (λh=>by simp only[h,Ir,Cp,Cj,ite_self]) (λx h=>?_);(try simp only[h,Cp]))
    |(refine Ee (λh=>?_) (λh=>?_)<;>simp only[h,if_true,if_false,Bool.false_eq_true])
abbrev R_:=(LB×LB×Int×Int×Int×Int×Int×LI×Int×LB×Bool×Int×Int)
abbrev K_:=S->Option R_
def H:=hd_ [.agg [Ss,Sb,.agg [Si,Si,Si,Si,Si],Sl,Si,Sb,Sz,Si],Sb] [.agg [Ss,Ob 5,.agg [Si,Si,Si,Si,Si],Ol 3,Si,Sb,Sz,Si],Si] (.q (.q (.q (.q (.blk (.loop [2,4] [⟨2,[1],.ro (.int .u8)⟩] (.blk (.cut [2,4,7] [] (.keep [2,4,7,22] true) .d)))))))) [F132.k,⟨(151,Kk),Nx⟩,F152.k,F153.k,F154.k,F155.k,F159.k,F161.k,F162.k,F172.k,F174.k,F218.k,F273.k,F274.k,F275.k] f114 false [(160,(.q (.cut [2] [] (.blk (.q (.cond (.cut [2] [] (.keep [2,11] true) .d) (.q (.cond (.cut [2] [] (.keep [2,20] true) .d) (.q (.cond (.cut [2] [] (.keep [2,33] true) .d) .d))))))) .d))),(215,(.q (.q (.q (.q (.q (.cut [0,2,5] [] (.mode false) .d))))))),(216,(.q (.q (.cut [0,2,3] [] (.q (.cond (.q (.cut [0,2,3] [⟨0,[1],.ro (.int .u8)⟩,⟨9,[1],.ro (.int .u8)⟩,⟨10,[1],.ro (.int .u8)⟩,⟨15,[1],.ro (.int .u8)⟩,⟨16,[1],.ro (.int .u8)⟩,⟨18,[],.ro (.int .u8)⟩] .d (.cut [0,2,3,4,5] [] .d .d))) .d)) .d)))),(217,(.q (.q (.q (.q (.q (.q (.cut [0,2,3,4,6] [⟨0,[1],.ro (.int .u8)⟩,⟨9,[1],.ro (.int .u8)⟩,⟨10,[1],.ro (.int .u8)⟩,⟨13,[1],.ro (.int .u8)⟩,⟨14,[1],.ro (.int .u8)⟩,⟨19,[1],.ro (.int .u8)⟩,⟨20,[1],.ro (.int .u8)⟩,⟨22,[],.ro (.int .u8)⟩,⟨28,[1],.ro (.int .u8)⟩,⟨29,[1],.ro (.int .u8)⟩,⟨40,[1],.ro (.int .u8)⟩,⟨41,[1],.ro (.int .u8)⟩] .d (.cut [0,2,3,5,7] [] .d (.q (.q (.q (.q (.seq (.mode false) .d))))))))))))))]
def t37(a:LB)(b:Bool)(f:Int)(g:LB)(m o n p u h:Int)(k:LI)(v:LB):S:=⟨[(2,.ptr 0 []),(4,.ptr 1 [])],[.box 148 (.agg [vs a,vb g,.agg [vi m,vi o,vi n,vi p,vi u],.own 2,vi h,.own 3,vt b,vi f]),.box 148 (.agg [vs ([]:LB),.nils,.agg [vi 0,vi 0,vi 0,vi 0,vi 0],.nils,vi 0,.nils,vt false,vi 0]),Ai 3 k,Ab 5 v],[]⟩
def z37:ZT_ R_:=H.i P_ [r,r,r,r,d]
def x75(pF:K_)(a:LB)(b:Bool)(f m o n p u h:Int)(v:LB)(bf:Bool)(bg:Int)(bh:LB)(bi:LI):Option R_:=H.e P_ [r,r,r,r,d,(lp pF),d,l,(call 0 160),r,l,d,r,r,r,l,r] ⟨[(2,.ptr 0 [])],[.box 210 (.agg [vt bf,vi bg]),.box 148 (.agg [vs a,vb bh,.agg [vi m,vi o,vi n,vi p,vi u],.own 3,vi h,.own 4,vt b,vi f]),.box 148 (.agg [vs ([]:LB),.nils,.agg [vi 0,vi 0,vi 0,vi 0,vi 0],.nils,vi 0,.nils,vt false,vi 0]),Ai 3 bi,Ab 5 v],[[(2,.ptr 1 []),(4,.ptr 2 [])]]⟩
def x78(pF:K_)(a:LB)(b:Bool)(f m o n p u:Int)(k:LI)(bl:Bool)(bm:Int)(bn:LB)(bp:Int)(bq:LB):Option R_:=H.e P_ [r,r,r,r,d,(lp pF),d,l,(call 0 160),r,l,d,r,r,r,r,r,l,r] ⟨[(2,.ptr 0 [])],[.box 210 (.agg [vt bl,vi bm]),.box 148 (.agg [vs a,vb bn,.agg [vi m,vi o,vi n,vi p,vi u],.own 3,vi bp,.own 4,vt b,vi f]),.box 148 (.agg [vs ([]:LB),.nils,.agg [vi 0,vi 0,vi 0,vi 0,vi 0],.nils,vi 0,.nils,vt false,vi 0]),Ai 3 k,Ab 5 bq],[[(2,.ptr 1 []),(4,.ptr 2 [])]]⟩
def x77(pF:K_)(a:LB)(b:Bool)(f w ab:Int)(g:LB)(m o n p u h:Int)(am:LX)(k:LI)(v:LB):Option R_:=H.e P_ [r,r,r,r,d,(lp pF),d,l,(call 0 160),r,l,d,r,r,r,r,r,l,l,(call 1 217),r,r,r,r,r,r,r,r] ⟨[(0,.ptr 0 []),(2,.ptr 1 []),(3,vi w),(5,vi ab),(7,.own 2)],[.box 148 (.agg [vs a,vb g,.agg [vi m,vi o,vi n,vi p,vi u],.own 5,vi h,.own 6,vt b,vi f]),.box 210 (.agg [vt false,vi 0]),Aw 21 am,.box 210 (.agg [vt false,vi 0]),.box 148 (.agg [vs ([]:LB),.nils,.agg [vi 0,vi 0,vi 0,vi 0,vi 0],.nils,vi 0,.nils,vt false,vi 0]),Ai 3 k,Ab 5 v],[[(2,.ptr 3 [])],[(2,.ptr 0 []),(4,.ptr 4 [])]]⟩
theorem e75(pF:K_)(a:LB)(b:Bool)(f:Int):x75 pF a b f=Nt (λg m o n p u h k v=>pF (t37 a b f g m o n p u h k v)) a b f:=F2
theorem e78(pF:K_)(a:LB)(b:Bool)(f:Int):x78 pF a b f=Tk (λg m o n p u h k v=>pF (t37 a b f g m o n p u h k v)) a b f:=F2
theorem e77(pF:K_)(a:LB)(b:Bool)(f:Int):x77 pF a b f=SU (λg m o n p u h k v=>pF (t37 a b f g m o n p u h k v)) a b f:=Eq.trans (b:=CA (x78 pF a b f) a b f) F2 (by rw[Alq];simp only[e78]<;>rfl)
theorem i37(a:LB)(b:Bool)(f:Int):∀(q:Nat) (g:LB) (m o n p u h:Int) (k:LI) (v:LB),z37 q (t37 a b f g m o n p u h k v)=De a b f q g m o n p u h k v:=
 ind (λ_ _ _ _ _ _ _ _ _=>by kernel_rfl) λq ih g m o n p u h k v=>Eq.trans (b:=Yr (Tl (λg m o n p u h k v=>(z37 q) (t37 a b f g m o n p u h k v)) a b f) (RE (λg m o n p u h k v=>(z37 q) (t37 a b f g m o n p u h k v)) a b f) (x75 (z37 q) a b f) (RH (VD (x75 (z37 q) a b f) (DO (x75 (z37 q) a b f) a b f) a b f) a b f) (DO (x75 (z37 q) a b f) a b f) (x78 (z37 q) a b f) (RG (x77 (z37 q) a b f) a b f) (Hy (λg m o n p u h k v=>(z37 q) (t37 a b f g m o n p u h k v)) a b f) (DF (λg m o n p u h k v=>(z37 q) (t37 a b f g m o n p u h k v)) a b f) a b f g m o n p u h k v) F2 (by rw[Amj];simp only[e75,e78,e77,ih]<;>rfl)
def k:KC_:=kk_ 114 H (u13 Hc) func114 (λx=>Eq.trans (b:=u13 (bH (λa b f g m o n p u h k v=>z37 Bc (t37 a b f g m o n p u h k v))) x) F2 (by simp only[i37,Ah]<;>rfl))
end F114
namespace F163
def H:=hd_ [.agg [Ss,Sb,.agg [Si,Si,Si,Si,Si],Sl,Si,Sb,Sz,Si]] [Si] .d [F125.k,⟨(151,Kk),Nx⟩,F152.k] f163
def k:KC_:=kk_ 163 H (u12 JD) func163
end F163
namespace F115
def H:=hd_ [.agg [Ss,Sb,.agg [Si,Si,Si,Si,Si],Sl,Si,Sb,Sz,Si]] [.agg [Ss,Ob 5,.agg [Si,Si,Si,Si,Si],Ol 3,Si,Sb,Sz,Si],Si] .d [F159.k,F162.k,F163.k] f115
def k:KC_:=kk_ 115 H (u12 Ky) func115
end F115
namespace F116
abbrev R_:=(LX×Int)
abbrev K_:=S->Option R_
def H:=hd_ [Si,Sb] [Ow 21,Si] (.q (.q (.q (.q (.q (.q (.cut [10] [] (.q (.blk (.loop [0,1,9,10,11] [⟨10,[],.own 21 (.int .i32)⟩] (.q (.cut [0,1,9,10,11] [] (.blk (.q (.q (.cut [0,1,9,10,11,12] [] (.q (.blk (.loop [0,1,9,10,11,12,53,54] [] .d))) .d)))) .d))))) .d))))))) [F164.k] f116
def t25(a:Int)(b:LB)(f:Int)(g:LX)(k:Int32)(h:Int):S:=⟨[(0,vi a),(1,vb b),(9,vi (Ep a (8:Int))),(10,.own 0),(11,vi f),(12,vx k),(53,vi (Ep a (8:Int))),(54,vi h)],[Aw 21 g],[]⟩
def z25(Jm:K_):ZT_ R_:=H.i P_ [r,r,r,r,r,r,l,r,d,(lp Jm),r,l,d,r,r,l,r,d]
def t16(a:Int)(b:LB)(f:Int)(g:LX):S:=⟨[(0,vi a),(1,vb b),(9,vi (Ep a (8:Int))),(10,.own 0),(11,vi f)],[Aw 21 g],[]⟩
def z16:ZT_ R_:=H.i P_ [r,r,r,r,r,r,l,r,d]
def x25(Jm:K_)(a:Int)(b:LB)(f:Int)(g:LX)(k:Int32)(h:Int):Option R_:=H.e P_ [r,r,r,r,r,r,l,r,d,(lp Jm),r,l,d,r,r,l,r,d] (t25 a b f g k h)
theorem i25(Jm:K_)(a:Int)(b:LB)(f:Int)(g:LX):∀(q:Nat) (k:Int32) (h:Int),z25 Jm q (t25 a b f g k h)=Rh (λf g=>Jm (t16 a b f g)) a b f g q k h:=
 ind (λ_ _=>by kernel_rfl) λq ih k h=>Eq.trans (b:=NO (NV (λf g=>Jm (t16 a b f g)) a b) (λk h=>(z25 Jm q) (t25 a b f g k h)) a b f g k h) F2 (by simp only[ih]<;>rfl)
theorem e25(Jm:K_)(a:Int)(b:LB):x25 Jm a b=OL (λf g=>Jm (t16 a b f g)) a b:=by funext f g k h;exact Eq.trans F2 ((i25 Jm a b f g Bc k h).trans (by rw[Ah];rfl))
theorem i16(a:Int)(b:LB):∀(q:Nat) (f:Int) (g:LX),z16 q (t16 a b f g)=Mj a b q f g:=
 ind (λ_ _=>by kernel_rfl) λq ih f g=>Eq.trans (b:=OT (Zv (λf g=>(z16 q) (t16 a b f g)) a b) (x25 (z16 q) a b) NY a b f g) F2 (by simp only[e25,ih]<;>rfl)
def k:KC_:=kk_ 116 H (u2 Qd) func116 (λx=>Eq.trans (b:=u2 (TI (λa b f g=>z16 Bc (t16 a b f g))) x) F2 (by simp only[i16,Ah]<;>rfl))
end F116
namespace F79
def H:=hd_ [Sb,Ss] [.agg [Si,Si,Si,Ow 21],Si] .d [F113.k,F114.k,F115.k,F116.k] f79
def k:KC_:=kk_ 79 H (u2 Rv) func79
end F79
namespace F78
abbrev R_:=LB
def H:=hd_ [.agg [Si,Si,Si,Sw],Si] [Ss] (.q (.q (.cut [1,5] [] (.q (.blk (.loop [1,5,9,10,11] [⟨5,[],.own 3 (.int .i64)⟩] .d))) .d))) [F77.k] f78
def t4(a:Int)(b:LX)(g:Int)(f:LI):S:=⟨[(1,vi a),(5,.own 0),(9,vw b),(10,vi (Aa b)),(11,vi g)],[Ai 3 f],[]⟩
def z4:ZT_ R_:=H.i P_ [r,r,l,r,d]
theorem i4(a:Int)(b:LX):∀(q:Nat) (g:Int) (f:LI),z4 q (t4 a b g f)=Po a b q g f:=
 ind (λ_ _=>by kernel_rfl) λq ih g f=>Eq.trans (b:=KN KT (λg f=>(z4 q) (t4 a b g f)) a b g f) F2 (by simp only[ih]<;>rfl)
def k:KC_:=kk_ 78 H (u5 Gb) func78 (λx=>Eq.trans (b:=u5 (Xc (λa b g f=>z4 Bc (t4 a b g f))) x) F2 (by simp only[i4,Ah]<;>rfl))
end F78
namespace F80
abbrev R_:=(LI×Int)
abbrev K_:=S->Option R_
def H:=hd_ [Sb,Ss] [Ol 3,Si] (.q (.q (.cut [6,8] [⟨6,[],.own 3 (.int .i64)⟩] (.keep [0,1,6,7,8,9,10,11,12,13,14,15] true) .d))) [F85.k,F105.k,F116.k,F154.k] f80 false [(117,(.q (.q (.q (.q (.q (.cut [6,8] [] (.q (.blk (.loop [0,1,2,6,8,37,38,39] [⟨2,[0],.own 3 (.int .i64)⟩] (.q (.q (.cut [0,1,2,6,8,37,38,39] [] (.blk (.q (.q (.q (.cut [0,1,2,6,8,11,12,14,15,37,38,39] [⟨15,[],.own 21 (.int .i32)⟩] .d (.cut [0,1,2,6,8,16,37,38,39] [] (.keep [0,1,2,6,8,11,12,14,15,16,37,38,39,65,66,67,68,69,70,71] true) .d)))))) .d)))))) .d))))))),(118,.d)]
def t14(a b:LB)(g:LI)(h k f m n o:Int)(p:LI)(u:Int)(v:LI):S:=⟨[(0,vb a),(1,vs b),(2,.fn 118 [.ptr 0 []]),(6,.ptr 1 []),(8,.ptr 2 []),(37,.own 3),(38,vi (Aa g)),(39,vi u)],[.box 81 (.own 4),.box 95 (.agg [vi 0,vi 0,vi 0,vi 0,vi 0]),.box 97 (.agg [.agg [vi h,vi k,vi f,vi m,vi n],vi o,.own 5]),Ai 3 g,Ai 3 v,Ai 3 p],[[(0,vb a),(1,vs b),(6,.ptr 0 []),(10,vb a),(11,vs b),(12,.fn 118 [.ptr 0 []])]]⟩
def z14:ZT_ R_:=H.i P_ [r,r,l,(call 3 117),r,r,r,r,r,l,r,d]
theorem i14(a b:LB)(g:LI)(h k f m n o:Int)(p:LI):∀(q:Nat) (u:Int) (v:LI),z14 q (t14 a b g h k f m n o p u v)=Zt a b g h k f m n o p q u v:=
 ind (λ_ _=>by kernel_rfl) λq ih u v=>Eq.trans (b:=fV La (BN (λu v=>(z14 q) (t14 a b g h k f m n o p u v)) a b g h k f m n o p) KK a b g h k f m n o p u v) F2 (by simp only[ih]<;>rfl)
def k:KC_:=kk_ 80 H (u2 YK) func80 (λx=>Eq.trans (b:=u2 (lG La (λa b g h k f m n o p u v=>z14 Bc (t14 a b g h k f m n o p u v))) x) F2 (by simp only[i14,Ah]<;>rfl))
end F80
namespace F220
def H:=hd_ [.agg [Si,Si],Si] [Si] .d [F233.k] f220
def k:KC_:=kk_ 220 H (u3 PK) func220
end F220
namespace F166
def H:=hd_ [.agg [Si,Si],Si] [Ow 21,Si] .d [F220.k] f166
def k:KC_:=kk_ 166 H (u3 FR) func166
end F166
namespace F119
def Wn(a b f ah:Int)(ai:LI)(ag:LX):Option (Int×Int×Int×LX×LI×Int):=
if(Bb ah 0)then
some (0,0,0,([]:LX),([]:LI),ah)
else
if(geq (Aa ag) 0)then
some (0,0,0,([]:LX),([]:LI),6)
else
both (
bo (
some (a,b,f,ag,ai,0))) [
some (a,b,f,ag,ai,0)]
theorem Alf: @Wn= @BR:=by
  unfold Wn BR
  repeat (refine funext λ_=>?_)
  repeat' first
    |with_reducible rfl
    |with_reducible refine Ft ?_ ?_
    |with_reducible refine Fm ?_ ?_ ?_
    |with_reducible refine Fx ?_ ?_ ?_ ?_
    |((with_reducible refine Iv ?_ ?_);focus (intro h;first|(subst h;rfl)|(simp only[h];rfl)|(simp[Ay,Aa,h];done)))
    |with_reducible refine Ii λx=>?_
    |with_reducible refine Mm (λ_=>?_) (λ_=>?_)
    |(refine Dh (λh=>by simp only[h,Ir,Cp,Cj,ite_self]) (λx h=>?_);(try simp only[h,Cp]))
    |(refine Ee (λh=>?_) (λh=>?_)<;>simp only[h,if_true,if_false,Bool.false_eq_true])
abbrev R_:=(Int×Int×Int×LX×LI×Int)
abbrev K_:=S->Option R_
def H:=hd_ [Sb,Ss,Si] [.agg [Si,Si,Si,Ow 21],Ol 3,Si] (.q (.q (.q (.q (.q (.q (.q (.cut [6,12,14,15] [⟨14,[],.own 3 (.int .i64)⟩,⟨15,[3],.own 21 (.int .i32)⟩] (.keep [0,1,5,6,12,13,14,15,60,61,62,63,64,66] true) (.q (.q (.seq (.mode false) .d))))))))))) [F85.k,F105.k,F116.k,F154.k,F158.k,F166.k] f119 false [(117,(.q (.q (.q (.q (.q (.cut [6,8] [] (.q (.blk (.loop [0,1,2,6,8,37,38,39] [⟨2,[0],.own 3 (.int .i64)⟩,⟨2,[3,3],.own 21 (.int .i32)⟩] (.q (.q (.cut [0,1,2,6,8,37,38,39] [] (.blk (.q (.q (.q (.cut [0,1,2,6,8,11,12,14,15,37,38,39] [⟨15,[],.own 21 (.int .i32)⟩] .d (.cut [0,1,2,6,8,16,37,38,39] [] (.keep [0,1,2,6,8,11,12,14,15,16,37,38,39,65,66,67,68,69,70,71] true) .d)))))) .d)))))) .d))))))),(165,(.q (.cut [2,7] [] .d .d)))]
def t21(g h:LB)(o:LI)(m k a b f p u n v w y:Int)(aa:LI)(ab:Int)(ad:LI)(ac:LX):S:=⟨[(0,vb g),(1,vs h),(2,.fn 165 [.ptr 0 [],.ptr 1 [],.ptr 2 [],.ptr 3 []]),(6,.ptr 4 []),(8,.ptr 5 []),(37,.own 6),(38,vi (Aa o)),(39,vi ab)],[.box 81 (.own 8),.box 3 (vi k),.box 66 (.agg [vi a,vi b]),.box 42 (.agg [vi a,vi b,vi f,.own 9]),.box 95 (.agg [vi 0,vi 0,vi 0,vi 0,vi 0]),.box 97 (.agg [.agg [vi p,vi u,vi n,vi v,vi w],vi y,.own 10]),Ai 3 o,.box 42 (.agg [vi 0,vi 0,vi 0,.nils]),Ai 3 ad,Aw 21 ac,Ai 3 aa],[[(0,vb g),(1,vs h),(5,.ptr 1 []),(6,.ptr 7 []),(12,vi m),(13,.ptr 2 []),(14,.ptr 0 []),(15,.ptr 3 []),(61,vb g),(62,vs h),(63,.fn 165 [.ptr 0 [],.ptr 1 [],.ptr 2 [],.ptr 3 []])]]⟩
def z21:ZT_ R_:=H.i P_ [r,r,r,r,r,r,r,l,(call 3 117),r,r,r,r,r,l,r,d]
def x40(a b f ah:Int)(ai:LI)(ag:LX):Option R_:=H.e P_ [r,r,r,r,r,r,r,r] ⟨[(6,.ptr 0 []),(12,vi ah),(14,.ptr 1 []),(15,.ptr 2 [])],[.box 42 (.agg [vi 0,vi 0,vi 0,.nils]),.box 81 (.own 3),.box 42 (.agg [vi a,vi b,vi f,.own 4]),Ai 3 ai,Aw 21 ag],[]⟩
theorem e40:x40=Jf:=Eq.trans (b:=Wn) F2 (by rw[Alf];rfl)
theorem i21(g h:LB)(o:LI)(m k a b f p u n v w y:Int)(aa:LI):∀(q:Nat) (ab:Int) (ad:LI) (ac:LX),z21 q (t21 g h o m k a b f p u n v w y aa ab ad ac)=Re g h o m k a b f p u n v w y aa q ab ad ac:=
 ind (λ_ _ _=>by kernel_rfl) λq ih ab ad ac=>Eq.trans (b:=OQ x40 (NZ (Rc x40 (Mk (λab ad ac=>(z21 q) (t21 g h o m k a b f p u n v w y aa ab ad ac)) g h o m k a b f p u n v w y aa) g h o m k a b f p u n v w y aa) (NA (Rc x40 (Mk (λab ad ac=>(z21 q) (t21 g h o m k a b f p u n v w y aa ab ad ac)) g h o m k a b f p u n v w y aa) g h o m k a b f p u n v w y aa) g h o m a b f k p u n v w y aa) (NQ (Rc x40 (Mk (λab ad ac=>(z21 q) (t21 g h o m k a b f p u n v w y aa ab ad ac)) g h o m k a b f p u n v w y aa) g h o m k a b f p u n v w y aa) g h o m a b f k p u n v w y aa) g h o m k a b f p u n v w y aa) (BZ x40) g h o m k a b f p u n v w y aa ab ad ac) F2 (by simp only[e40,ih]<;>rfl)
def k:KC_:=kk_ 119 H (u3 Qk) func119 (λx=>Eq.trans (b:=u3 (TV x40 (λg h o m k a b f p u n v w y aa ab ad ac=>z21 Bc (t21 g h o m k a b f p u n v w y aa ab ad ac))) x) F2 (by simp only[e40,i21,Ah]<;>rfl))
end F119
namespace F242
def H:=hd_ [.agg [Si,Si,Si,Sw]] [.agg [Si,Si]] .d [] f242
def k:KC_:=kk_ 242 H (u4 nC) func242
end F242
namespace F179
def H:=hd_ [.agg [Si,Si,Si,Sw],Si] [Si] .d [F177.k,F233.k,F242.k] f179
def k:KC_:=kk_ 179 H (u5 vF) func179
end F179
namespace F131
def H:=hd_ [.agg [Si,Si,Si,Sw]] [Si] .d [F179.k,F180.k] f131
def k:KC_:=kk_ 131 H (u4 XA) func131
end F131
namespace F276
def H:=hd_ [.agg [Si,Si,Si]] [Si] .d [] f276
def k:KC_:=kk_ 276 H (u3 MF) func276
end F276
namespace F221
def H:=hd_ [.agg [Si,Si,Si]] [Sz,Si] .d [F276.k] f221
def k:KC_:=kk_ 221 H (u3 QC) func221
end F221
namespace F222
abbrev R_:=LB
def H:=hd_ [.agg [Si,Si,Si],Sz,Sq] [Ob 5] (.q (.q (.q (.q (.cut [1,8,9] [] .d (.q (.cut [1,10] [] (.q (.blk (.loop [1,8,10,44,45] [⟨10,[],.own 5 (.int .u8)⟩] .d))) .d))))))) [F225.k] f222
def t6(a:Bool)(h:Int)(f:LQ)(g:Int)(b:LB):S:=⟨[(1,vt a),(8,.ptr 0 []),(10,.own 1),(44,vi h),(45,vi g)],[.box 351 (.val (.vec 9 (.int .u64)) f),Ab 5 b],[]⟩
def z6:ZT_ R_:=H.i P_ [r,r,r,r,r,r,l,r,d]
theorem i6(a:Bool)(h:Int)(f:LQ):∀(q:Nat) (g:Int) (b:LB),z6 q (t6 a h f g b)=Th a h f q g b:=
 ind (λ_ _=>by kernel_rfl) λq ih g b=>Eq.trans (b:=QV UM (λg b=>(z6 q) (t6 a h f g b)) a h f g b) F2 (by simp only[ih]<;>rfl)
def k:KC_:=kk_ 222 H (u5 QI) func222 (λx=>Eq.trans (b:=u5 (RF (Tp (λa h f g b=>z6 Bc (t6 a h f g b)))) x) F2 (by simp only[i6,Ah]<;>rfl))
end F222
namespace F167
def H:=hd_ [.agg [Si,Si,Si]] [Ob 5,Si] .d [F221.k,F222.k] f167
def k:KC_:=kk_ 167 H (u3 MG) func167
end F167
namespace F277
abbrev R_:=Bool
def H:=hd_ [Ss] [Sz] (.q (.cut [0] [] (.q (.blk (.loop [0,6,7,8] [] .d))) .d)) [] f277
def t4(a:LB)(b:Int):S:=⟨[(0,vs a),(6,.own 0),(7,vi (Aa a)),(8,vi b)],[Ab 5 a],[]⟩
def z4:ZT_ R_:=H.i P_ [r,l,r,d]
theorem i4(a:LB):∀(q:Nat) (b:Int),z4 q (t4 a b)=BD a q b:=
 ind (λ_=>by kernel_rfl) λq ih b=>Eq.trans (b:=fK gS (λb=>(z4 q) (t4 a b)) a b) F2 (by simp only[ih]<;>rfl)
def k:KC_:=kk_ 277 H EV func277 (λx=>Eq.trans (b:=LK (λa b=>z4 Bc (t4 a b)) x) F2 (by simp only[i4,Ah]<;>rfl))
end F277
namespace F228
abbrev R_:=Int
def H:=hd_ [.lf (.list (.cons .str (.cons (.list (.int .u8)) .nil))) none] [Si] (.q (.q (.cut [3] [] (.q (.blk (.loop [3,6,7,8] [] .d))) .d))) [] f228
def t4(a:List (LB×LB×Unit))(b f:Int):S:=⟨[(3,vi b),(6,.val (.list (.cons .str (.cons (.list (.int .u8)) .nil))) a),(7,vi (Aa a)),(8,vi f)],[],[]⟩
def z4:ZT_ R_:=H.i P_ [r,r,l,r,d]
theorem i4(a:List (LB×LB×Unit)):∀(q:Nat) (b f:Int),z4 q (t4 a b f)=HI a q b f:=
 ind (λ_ _=>by kernel_rfl) λq ih b f=>Eq.trans (b:=sB rS (λb f=>(z4 q) (t4 a b f)) a b f) F2 (by simp only[ih]<;>rfl)
def k:KC_:=kk_ 228 H CR func228 (λx=>Eq.trans (b:=XQ (λa b f=>z4 Bc (t4 a b f)) x) F2 (by simp only[i4,Ah]<;>rfl))
end F228
namespace F279
def H:=hd_ [.agg [Ss,Sb]] [Sz] .d [F277.k] f279
def k:KC_:=kk_ 279 H (u2 HN) func279
end F279
namespace F223
abbrev R_:=Int
abbrev K_:=S->Option R_
def H:=hd_ [Ss,.lf (.list (.cons .str (.cons (.list (.int .u8)) .nil))) none] [Si] (.q (.q (.cut [] [] (.cut [20] [] (.keep [17,19,20] true) .d) .d))) [F228.k,F277.k,F279.k] f223 false [(278,(.q (.cut [4] [] (.keep [4,7,8] true) .d))),(314,(.q (.cut [] [] (.q (.blk (.loop [0,1,7,8] [] (.q (.q (.cut [0,1,7,8] [] (.blk (.q (.cut [0,1,5,7,8,16] [] .d .d))) .d)))))) .d)))]
def t19(a:List (LB×LB×Unit))(b:Int):S:=⟨[(0,.val (.list (.cons .str (.cons (.list (.int .u8)) .nil))) a),(1,.fn 279 []),(7,vi (Aa a)),(8,vi b)],[],[[(4,vt false)],[(17,.cst (.bool false))]]⟩
def z19:ZT_ R_:=H.i P_ [r,r,l,l,(call 11 278),r,l,(call 2 314),r,l,r,d]
def t27(a:List (LB×LB×Unit))(f:Int):S:=⟨[(0,.val (.list (.cons .str (.cons (.list (.int .u8)) .nil))) a),(1,.fn 279 []),(7,vi (Aa a)),(8,vi f)],[],[[(4,vt false)],[(17,.cst (.bool false))]]⟩
def z27:ZT_ R_:=H.i P_ [r,r,l,l,(call 11 278),r,l,(call 2 314),r,l,r,d]
theorem i19(a:List (LB×LB×Unit)):∀(q:Nat) (b:Int),z19 q (t19 a b)=JW a q b:=
 ind (λ_=>by kernel_rfl) λq ih b=>Eq.trans (b:=gY (iL (λb=>(z19 q) (t19 a b)) a) iM a b) F2 (by simp only[ih]<;>rfl)
theorem i27(a:List (LB×LB×Unit)):∀(q:Nat) (f:Int),z27 q (t27 a f)=AE a q f:=
 ind (λ_=>by kernel_rfl) λq ih f=>Eq.trans (b:=iE (LD (λf=>(z27 q) (t27 a f)) a) KV a f) F2 (by simp only[ih]<;>rfl)
def k:KC_:=kk_ 223 H (u2 Rl) func223 (λx=>Eq.trans (b:=u2 (DU Rw (λa b=>z19 Bc (t19 a b)) (λa f=>z27 Bc (t27 a f))) x) F2 (by simp only[i19,i27,Ah]<;>rfl))
end F223
theorem Azs:ConOk Tryz.prog gl 168 XU:=Ak1 ent168 F223.k.2 F228.k.2 F225.k.2
namespace F122
def H:=hd_ [.agg [Si,Si,Si,Sw]] [Ob 5,Si] .d [F131.k,F132.k,F167.k,⟨(168,XU),Azs⟩] f122
def k:KC_:=kk_ 122 H (u4 xW) func122
end F122
namespace F82
abbrev R_:=(LB×Int)
def H:=hd_ [Sb,Ss] [Ob 5,Si] (.q (.cut [4,5] [⟨4,[],.own 5 (.int .u8)⟩] (.keep [4,5,8,9,10] true) .d)) [F79.k,F122.k] f82 false [(120,(.q (.cut [2,8,9] [] (.keep [2,8,9,11,14,15,16] true) (.q (.cut [6,7] [] .d .d))))),(121,.d)]
def k:KC_:=kk_ 82 H (u2 EK) func82
end F82
namespace F93
abbrev ps:List Sh:=[.lf .str none]
abbrev rs:List Sh:=[.lf (.list (.int .u8)) (some 5),.lf .bool none]
abbrev R_:=Uw (Oe rs)
noncomputable def T_:Tab:=kt [F35.k] false
noncomputable def its:List (Nat×ItC):=[(191,⟨[29,3],false,(.list (.int .u8)),qm⟩)]
noncomputable def QL:List (Nat×An):=[(140,.d)]
noncomputable def lan:An:= .loop [2,3,4] [⟨4,[],.own 5 (.int .u8)⟩] .d
noncomputable def an:An:= .q (.q (.q (.seq (.cut [2,3,4,14] [⟨14,[0],.ro (.int .u8)⟩] .d (.blk lan)) .d)))
noncomputable def rf:Code:=cA (cB (cA (cB (cB (cB (fB f93))))))
noncomputable def tl:Code:=cB (cB (cB (cB (fB f93))))
noncomputable abbrev I_:XV R_:=Qn P_ T_ 8 QL
noncomputable def k0:K R_:={n:=bZ P_ rs f93.results.toList,x:=λ_ _=>none,r:=bZ P_ rs f93.results.toList}
noncomputable def kn(s:S):Option R_:=ex P_ T_ I_ 39 tl .d k0 s
noncomputable def k2:K R_:=⟨kn,λid s=>Bz (Nat.beq id 0) (kn s)<|k0.x id s,k0.r⟩
noncomputable def lp:List LB->S->Option R_:=rnd lan (QG P_ T_ I_ 39 15 (e? rf) (I? rf) lan k2 (.list (.int .u8))) k2.n
def st(a:LB):S:=⟨[(2,.ptr 0 []),(3,.ptr 1 []),(4,.ptr 2 [])],[.box 29 (.nils),.box 4 (vt false),.box 29 (.own 3),Ab 5 a],[]⟩
theorem l0(a:LB):lp [] (st a)=(some (a,true):Option R_):=F2
theorem l1(a:LB)(b:LB)(xs:List LB):lp (b::xs) (st a)=(Option.bind (Ae b (0:Int)) λh=>
Option.bind (Ae b (1:Int)) λk=>
Option.bind (Df ([48,49,50,51,52,53,54,55,56,57,97,98,99,100,101,102]:LB) h) λf=>
Option.bind (Df ([48,49,50,51,52,53,54,55,56,57,97,98,99,100,101,102]:LB) k) λg=>
if((Bw f (0:Int))||(Bw g (0:Int)))=true then(
some (([]:LB),false))
else(
Option.bind (Ay a ([(Am (B? (Fc f (GI.toZ (4:UInt64)).toNat) g):UInt8)]:LB)) λm=>
(λa=>lp xs (st a)) m):Option R_):=F2
theorem lq:∀(xs:List LB) (a:LB),lp xs (st a)=Ga xs a
  |[],a=>l0 a
  |b::xs,a=>by
    rw[l1,Ga];simp only[lq xs]
    try rfl
theorem run(x:Uw (Oe ps)):RA P_ T_ rs I_ its f93 an ps x=Im x:=by
  refine Eq.trans (b:=(if(Bb (Jb (Aa x) (2:Int)) (0:Int))=true then(
some (([]:LB),false))
else(
if(Bw (2:Int) (1:Int))=true then(
none)
else(
Option.bind (Y2 x) λxs=>(λa=>lp xs (st a)) ([]:LB))):Option R_)) F2 ?_
  simp only[lq];rfl
theorem R5:∀p∈its,ItOk P_ T_.gl p.1 p.2:=by
  intro p hp;rcases List.mem_cons.1 hp with rfl|hp
  · exact Ai0 ent191
  · cases hp
def k:Kc P_ gl:=⟨(93,⟨ps,rs,λx=>Im x⟩),zN (T:=T_) (inl:=I_) (its:=its) (an:=an) mixed func93 ent93 (OV _ _ _) (Zy mixed (OV _ _ _) (Gq.cons ent140 (Gq.nil)) 8) R5 F2 run⟩
end F93
namespace F94
abbrev R_:=LB
def H:=hd_ [.lf (.list (.list (.int .u8))) none] [Ob 5] (.q (.q (.cut [0,3] [] (.q (.blk (.loop [0,3,9,10,11] [] .d))) (.cut [0,6] [⟨6,[],.own 5 (.int .u8)⟩] (.keep [0,3,6,23,24] true) (.cut [6] [] (.q (.blk (.loop [6,25,26,27] [] .d))) .d))))) [] f94 true [(141,(.q (.cut [0,1] [] .d .d)))]
def t14(a:List LB)(g:Int)(f:LB):S:=⟨[(6,.own 0),(25,.val (.list (.list (.int .u8))) a),(26,vi (Aa a)),(27,vi g)],[Ab 5 f],[]⟩
def z14:ZT_ R_:=H.i P_ [r,r,r,r,l,r,d]
def t9(a:List LB)(b h:Int):S:=⟨[(0,.val (.list (.list (.int .u8))) a),(3,vi b),(9,.val (.list (.list (.int .u8))) a),(10,vi (Aa a)),(11,vi h)],[],[]⟩
def z9:ZT_ R_:=H.i P_ [r,r,l,r,d]
def x14(a:List LB)(g:Int)(f:LB):Option R_:=H.e P_ [r,r,r,r,l,r,d] (t14 a g f)
theorem i14(a:List LB):∀(q:Nat) (g:Int) (f:LB),z14 q (t14 a g f)=Dl a q g f:=
 ind (λ_ _=>by kernel_rfl) λq ih g f=>Eq.trans (b:=Gs Qx (λg f=>(z14 q) (t14 a g f)) a g f) F2 (by simp only[ih]<;>rfl)
theorem e14:x14=Jq:=by funext a g f;exact Eq.trans F2 ((i14 a Bc g f).trans (by rw[Ah];rfl))
theorem i9(a:List LB):∀(q:Nat) (b h:Int),z9 q (t9 a b h)=Dt a q b h:=
 ind (λ_ _=>by kernel_rfl) λq ih b h=>Eq.trans (b:=Hb (Ju (Jy (Jt x14))) (λb h=>(z9 q) (t9 a b h)) a b h) F2 (by simp only[e14,ih]<;>rfl)
def k:KC_:=kk_ 94 H Ce func94 (λx=>Eq.trans (b:=Sf (λa b h=>z9 Bc (t9 a b h)) x) F2 (by simp only[i9,Ah]<;>rfl))
end F94
theorem NT:ConOk Tryz.prog gl 58 Tf:=Au1 ent58 (by unfold gl;repeat first|exact List.Mem.head _|apply List.Mem.tail) (by unfold gl;repeat first|exact List.Mem.head _|apply List.Mem.tail) (by unfold gl;repeat first|exact List.Mem.head _|apply List.Mem.tail)
namespace F95
abbrev R_:=((List (UInt8×Int×Unit))×Bool)
def H:=hd_ [.lf (.list .str) none] [.lf (.list (.cons (.int .u8) (.cons (.int .i64) .nil))) (some 193),Sz] (.q (.q (.cut [4] [] (.q (.blk (.loop [4,11,12,13] [⟨4,[],.own 193 (.cons (.int .u8) (.cons (.int .i64) .nil))⟩] .d))) .d))) [F35.k,⟨(58,Tf),NT⟩] f95
def t4(a:List LB)(f:Int)(b:List (UInt8×Int×Unit)):S:=⟨[(4,.own 0),(11,.val (.list .str) a),(12,vi (Aa a)),(13,vi f)],[.arr 193 (.cons (.int .u8) (.cons (.int .i64) .nil)) b],[]⟩
def z4:ZT_ R_:=H.i P_ [r,r,l,r,d]
theorem i4(a:List LB):∀(q:Nat) (f:Int) (b:List (UInt8×Int×Unit)),z4 q (t4 a f b)=Ta a q f b:=
 ind (λ_ _=>by kernel_rfl) λq ih f b=>Eq.trans (b:=SE RZ (λf b=>(z4 q) (t4 a f b)) a f b) F2 (by simp only[ih]<;>rfl)
def k:KC_:=kk_ 95 H Ux func95 (λx=>Eq.trans (b:=DJ (λa f b=>z4 Bc (t4 a f b)) x) F2 (by simp only[i4,Ah]<;>rfl))
end F95
namespace F251
abbrev R_:=Bool
def H:=hd_ [.agg [Sc,Si]] [Sz] (.q (.seq (.q (.blk (.cut [1,4,5] [] .d .d))) .d)) [] f251
def k:KC_:=kk_ 251 H (u2 YA) func251
end F251
namespace F250
def H:=hd_ [.agg [Sc,Si]] [Sz] .d [F251.k] f250
def k:KC_:=kk_ 250 H (u2 KD) func250
end F250
namespace F194
abbrev R_:=Int
abbrev K_:=S->Option R_
def H:=hd_ [.lf (.list (.cons (.int .u8) (.cons (.int .i64) .nil))) none] [Si] (.q (.q (.cut [] [] (.cut [7] [] (.keep [7] true) .d) .d))) [F250.k] f194 false [(249,(.q (.cut [4] [] (.keep [4,7,8] true) .d))),(300,(.q (.cut [] [] (.q (.blk (.loop [0,1,7,8] [] (.q (.q (.cut [0,1,7,8] [] (.blk (.q (.cut [0,1,5,7,8,16] [] .d .d))) .d)))))) .d)))]
def t11(a:List (UInt8×Int×Unit))(b:Int):S:=⟨[(0,.val (.list (.cons (.int .u8) (.cons (.int .i64) .nil))) a),(1,.fn 250 []),(7,vi (Aa a)),(8,vi b)],[],[[(4,vt false)],[]]⟩
def z11:ZT_ R_:=H.i P_ [r,r,l,l,(call 1 249),r,l,(call 2 300),r,l,r,d]
theorem i11(a:List (UInt8×Int×Unit)):∀(q:Nat) (b:Int),z11 q (t11 a b)=Td a q b:=
 ind (λ_=>by kernel_rfl) λq ih b=>Eq.trans (b:=SY (CQ (λb=>(z11 q) (t11 a b)) a) DE a b) F2 (by simp only[ih]<;>rfl)
def k:KC_:=kk_ 194 H XN func194 (λx=>Eq.trans (b:=bC (λa b=>z11 Bc (t11 a b)) x) F2 (by simp only[i11,Ah]<;>rfl))
end F194
namespace F192
def H:=hd_ [.agg [Ss,Sb,.agg [Si,Si,Si,Si,Si],Sl,Si,Sb,Sz,Si],Si] [.agg [Ss,Ob 5,.agg [Si,Si,Si,Si,Si],Ol 3,Si,Sb,Sz,Si],Ob 5,Si] .d [F127.k,F161.k,F214.k] f192
def k:KC_:=kk_ 192 H (u13 Uy) func192
end F192
namespace F143
def Wu(j29:Int->LB->Int->Int->Int->Int->Int->Int->LB->Bool->Int->LB-> (List (Int×LB×Unit))->LB->LI->Option (LB×LB×Int×Int×Int×Int×Int×LI×Int×LB×Bool×Int×(List (Int×LB×Unit))×Int))(b:List (UInt8×Int×Unit))(ac:UInt8×Int×Unit)(a:LB)(ad ab:Int)(f w:LB)(g h k m n:Int)(y:LI)(o:Int)(p:LB)(u:Bool)(v:Int)(ae:LB)(af ag ah ai aj ak:Int)(al:LB)(am:Bool)(an:Int)(aa:List (Int×LB×Unit))(ao:LB)(ap:LI):Option (LB×LB×Int×Int×Int×Int×Int×LI×Int×LB×Bool×Int×(List (Int×LB×Unit))×Int):=
(λfs:Option (LB×LB×Int×Int×Int×Int×Int×LI×Int×LB×Bool×Int×(List (Int×LB×Unit))×Int)=>
bo (
fs)) (
(Bi a (Gk ac.2.1 (Aa a)) (Aa a)).bind λbv=>
(Ay aa ([(ad,([]:LB),())]:List (Int×LB×Unit))).bind λar=>
j29 ab ae af ag ah ai aj ak al am an bv ar ao ap)
theorem Al5: @Wu= @AS:=by
  unfold Wu AS;simp only[CJ,Ql,Qs]
def Wl(j26:(UInt8×Int×Unit)->LB->Int->Int->LB->LB->Int->Int->Int->Int->Int->LI->Int->LB->Bool->Int->LB->Int->Int->Int->Int->Int->Int->LB->Bool->Int-> (List (Int×LB×Unit))->LB->LI->Option (LB×LB×Int×Int×Int×Int×Int×LI×Int×LB×Bool×Int×(List (Int×LB×Unit))×Int))(j33:Int->Int->LB->LB->Int->Int->Int->Int->Int->LI->Int->LB->Bool->Int->LB->LB->Int->Int->Int->Int->Int->Int->LB->Bool->Int->LB-> (List (Int×LB×Unit))->LB->LI->Option (LB×LB×Int×Int×Int×Int×Int×LI×Int×LB×Bool×Int×(List (Int×LB×Unit))×Int))(j34:Int->Int->LB->LB->Int->Int->Int->Int->Int->LI->Int->LB->Bool->Int->LB->LB->Int->Int->Int->Int->Int->Int->LB->Bool->Int-> (List (Int×LB×Unit))->LB->LI->Option (LB×LB×Int×Int×Int×Int×Int×LI×Int×LB×Bool×Int×(List (Int×LB×Unit))×Int))(j29:Int->LB->Int->Int->Int->Int->Int->Int->LB->Bool->Int->LB-> (List (Int×LB×Unit))->LB->LI->Option (LB×LB×Int×Int×Int×Int×Int×LI×Int×LB×Bool×Int×(List (Int×LB×Unit))×Int))(j31:(List (Int×LB×Unit))->LB->Int->Int->Int->Int->Int->Int->LB->Bool->Int->LB->LB->LI->Option (LB×LB×Int×Int×Int×Int×Int×LI×Int×LB×Bool×Int×(List (Int×LB×Unit))×Int))(b:List (UInt8×Int×Unit))(ab:Int)(f:LB)(g h k m n o:Int)(p:LB)(u:Bool)(v:Int)(a:LB)(aa:List (Int×LB×Unit))(w:LB)(y:LI):Option (LB×LB×Int×Int×Int×Int×Int×LI×Int×LB×Bool×Int×(List (Int×LB×Unit))×Int):=
if(Bw ab (Aa b))then
(Ae b ab).bind λac=>
if(geq ac.1 1)then
(λbw:Option (LB×LB×Int×Int×Int×Int×Int×LI×Int×LB×Bool×Int×(List (Int×LB×Unit))×Int)=>
(λda:Option (LB×LB×Int×Int×Int×Int×Int×LI×Int×LB×Bool×Int×(List (Int×LB×Unit))×Int)=>
(λdb:Option (LB×LB×Int×Int×Int×Int×Int×LI×Int×LB×Bool×Int×(List (Int×LB×Unit))×Int)=>
both (
da) [
da,
(Bi a 0 (Gk ac.2.1 (Aa a))).bind λaq=>
(λdc:Option (LB×LB×Int×Int×Int×Int×Int×LI×Int×LB×Bool×Int×(List (Int×LB×Unit))×Int)=>
(λdd:Option (LB×LB×Int×Int×Int×Int×Int×LI×Int×LB×Bool×Int×(List (Int×LB×Unit))×Int)=>
(λde:Option (LB×LB×Int×Int×Int×Int×Int×LI×Int×LB×Bool×Int×(List (Int×LB×Unit))×Int)=>
both (
de) [
de,
dd]) (
both (
dd) [
dc])) (
bo (
dc))) (
(Hc f w g h k m n y o p u v aq).bind λ(ae,ao,af,ag,ah,ai,aj,ap,ak,al,am,an,ad)=>
j26 ac a ad ab f w g h k m n y o p u v ae af ag ah ai aj ak al am an aa ao ap),
both (
db) [
db,
(Bi a 0 (Gk ac.2.1 (Aa a))).bind λaq=>
(λft:Option (LB×LB×Int×Int×Int×Int×Int×LI×Int×LB×Bool×Int×(List (Int×LB×Unit))×Int)=>
bo (
ft)) (
(Hc f w g h k m n y o p u v aq).bind λ(ae,ao,af,ag,ah,ai,aj,ap,ak,al,am,an,ad)=>
j26 ac a ad ab f w g h k m n y o p u v ae af ag ah ai aj ak al am an aa ao ap)]]) (
bo (
bw))) (
both (
both (
(Bi a 0 (Gk ac.2.1 (Aa a))).bind λaq=>
(λfu:Option (LB×LB×Int×Int×Int×Int×Int×LI×Int×LB×Bool×Int×(List (Int×LB×Unit))×Int)=>
bo (
fu)) (
(Hc f w g h k m n y o p u v aq).bind λ(ae,ao,af,ag,ah,ai,aj,ap,ak,al,am,an,ad)=>
j26 ac a ad ab f w g h k m n y o p u v ae af ag ah ai aj ak al am an aa ao ap)) [
bw]) [
(Bi a 0 (Gk ac.2.1 (Aa a))).bind λaq=>
(λdf:Option (LB×LB×Int×Int×Int×Int×Int×LI×Int×LB×Bool×Int×(List (Int×LB×Unit))×Int)=>
both (
bo (
df)) [
df]) (
(Hc f w g h k m n y o p u v aq).bind λ(ae,ao,af,ag,ah,ai,aj,ap,ak,al,am,an,ad)=>
j26 ac a ad ab f w g h k m n y o p u v ae af ag ah ai aj ak al am an aa ao ap),
bo (
bw)])) (
(Bi a 0 (Gk ac.2.1 (Aa a))).bind λaq=>
(Hc f w g h k m n y o p u v aq).bind λ(ae,ao,af,ag,ah,ai,aj,ap,ak,al,am,an,ad)=>
j26 ac a ad ab f w g h k m n y o p u v ae af ag ah ai aj ak al am an aa ao ap)
else
if(geq ac.1 2)then
(λdg:Option (LB×LB×Int×Int×Int×Int×Int×LI×Int×LB×Bool×Int×(List (Int×LB×Unit))×Int)=>
(λdh:Option (LB×LB×Int×Int×Int×Int×Int×LI×Int×LB×Bool×Int×(List (Int×LB×Unit))×Int)=>
(λdi:Option (LB×LB×Int×Int×Int×Int×Int×LI×Int×LB×Bool×Int×(List (Int×LB×Unit))×Int)=>
both (
di) [
di,
dh]) (
both (
dh) [
dg])) (
bo (
dg))) (
(Uy f w g h k m n y o p u v ac.2.1).bind λ(av,ar,aw,ax,ay,az,ba,bg,bb,bc,bd,be,bf,au)=>
j33 au ab f w g h k m n y o p u v a av aw ax ay az ba bb bc bd be bf aa ar bg)
else
if(geq ac.1 3)then
(λdj:Option (LB×LB×Int×Int×Int×Int×Int×LI×Int×LB×Bool×Int×(List (Int×LB×Unit))×Int)=>
(λdk:Option (LB×LB×Int×Int×Int×Int×Int×LI×Int×LB×Bool×Int×(List (Int×LB×Unit))×Int)=>
(λdl:Option (LB×LB×Int×Int×Int×Int×Int×LI×Int×LB×Bool×Int×(List (Int×LB×Unit))×Int)=>
both (
dl) [
dl,
dk]) (
both (
dk) [
dj])) (
bo (
dj))) (
(Ky f w g h k m n y o p u v).bind λ(bi,bt,bj,bk,bl,bm,bn,bu,bp,bq,br,bs,bh)=>
j34 bh ab f w g h k m n y o p u v a bi bj bk bl bm bn bp bq br bs aa bt bu)
else
j29 ab f g h k m n o p u v a aa w y
else
j31 aa f g h k m n o p u v a w y
theorem Al3: @Wl= @AM:=by
  unfold Wl AM
  try simp only[CJ,Ql,Qs]
  all_goals
    repeat (refine funext λ_=>?_)
    repeat' first
      |with_reducible rfl
      |with_reducible refine Ft ?_ ?_
      |with_reducible refine Fm ?_ ?_ ?_
      |with_reducible refine Fx ?_ ?_ ?_ ?_
      |((with_reducible refine Iv ?_ ?_);focus (intro h;first|(subst h;rfl)|(simp only[h];rfl)|(simp[Ay,Aa,h];done)))
      |with_reducible refine Ii λx=>?_
      |with_reducible refine Mm (λ_=>?_) (λ_=>?_)
      |(refine Dh (λh=>by simp only[h,Ir,Cp,Cj,ite_self]) (λx h=>?_);(try simp only[h,Cp]))
      |(refine Ee (λh=>?_) (λh=>?_)<;>simp only[h,if_true,if_false,Bool.false_eq_true])
abbrev R_:=(LB×LB×Int×Int×Int×Int×Int×LI×Int×LB×Bool×Int×(List (Int×LB×Unit))×Int)
abbrev K_:=S->Option R_
def H:=hd_ [Ss,Sb,.lf (.list (.cons (.int .u8) (.cons (.int .i64) .nil))) none] [.agg [Ss,Ob 5,.agg [Si,Si,Si,Si,Si],Ol 3,Si,Sb,Sz,Si],.lf (.list (.cons (.int .i64) (.cons (.list (.int .u8)) .nil))) (some 199),Si] (.q (.q (.q (.q (.q (.cut [6,12,13] [] (.keep [6,12,13,35] true) .d)))))) [F113.k,F114.k,F115.k,F192.k,F194.k] f143 false [(195,(.q (.q (.q (.cut [6] [] (.q (.blk (.loop [5,6,19,20,21] [⟨5,[0,0,5],.ro (.int .u8)⟩,⟨6,[],.own 199 (.cons (.int .i64) (.cons (.list (.int .u8)) .nil))⟩] (.q (.q (.cut [5,6,19,20,21] [] (.blk (.q (.q (.q (.cond (.keep [5,6,19,20,21,33,37,38,39] true) .d))))) .d)))))) .d))))),(252,(.q (.q (.cut [0,1,4,5,6] [] (.mode false) (.seq (.mode false) .d))))),(253,(.q (.cut [0,4,5,6,7] [] (.mode false) .d))),(254,(.q (.cut [0,4,5,6] [] (.mode false) .d)))]
def t17(b:List (UInt8×Int×Unit))(ab:Int)(f:LB)(g h k m n o:Int)(p:LB)(u:Bool)(v:Int)(a:LB)(aa:List (Int×LB×Unit))(w:LB)(y:LI):S:=⟨[(5,.mp false [[1],[2],[3]] [.bfn 252 [.ptr 0 []],.bfn 253 [.ptr 0 []],.bfn 254 [.ptr 0 []]]),(6,.own 1),(19,.val (.list (.cons (.int .u8) (.cons (.int .i64) .nil))) b),(20,vi (Aa b)),(21,vi ab)],[.box 258 (.agg [.agg [vs f,.own 3,.agg [vi g,vi h,vi k,vi m,vi n],.own 4,vi o,vb p,vt u,vi v],.fn 114 [],.fn 115 [],.fn 192 [],vb a]),.arr 199 (.cons (.int .i64) (.cons (.list (.int .u8)) .nil)) aa,.box 148 (.agg [vs ([]:LB),.nils,.agg [vi 0,vi 0,vi 0,vi 0,vi 0],.nils,vi 0,.nils,vt false,vi 0]),Ab 5 w,Ai 3 y],[[(6,.ptr 2 []),(12,.ptr 0 [])]]⟩
def z17:ZT_ R_:=H.i P_ [r,r,r,r,r,l,(call 2 195),r,r,r,l,r,d]
def x26(S0:K_)(b:List (UInt8×Int×Unit))(ac:UInt8×Int×Unit)(a:LB)(ad ab:Int)(f w:LB)(g h k m n:Int)(y:LI)(o:Int)(p:LB)(u:Bool)(v:Int)(ae:LB)(af ag ah ai aj ak:Int)(al:LB)(am:Bool)(an:Int)(aa:List (Int×LB×Unit))(ao:LB)(ap:LI):Option R_:=H.e P_ [r,r,r,r,r,l,(call 2 195),r,r,r,l,r,d,(lp S0),r,r,l,d,r,r,r,l,(call 4 252),r,r,r] ⟨[(0,.ptr 0 []),(1,vi (Gk ac.2.1 (Aa a))),(4,.ptr 1 []),(5,.ptr 2 []),(6,vi ad)],[.box 258 (.agg [.agg [vs f,vb w,.agg [vi g,vi h,vi k,vi m,vi n],vl y,vi o,vb p,vt u,vi v],.fn 114 [],.fn 115 [],.fn 192 [],vb a]),.box 199 (.agg [vi 0,.nils]),.box 148 (.agg [vs ae,.own 5,.agg [vi af,vi ag,vi ah,vi ai,vi aj],.own 6,vi ak,vb al,vt am,vi an]),.arr 199 (.cons (.int .i64) (.cons (.list (.int .u8)) .nil)) aa,.box 148 (.agg [vs ([]:LB),.nils,.agg [vi 0,vi 0,vi 0,vi 0,vi 0],.nils,vi 0,.nils,vt false,vi 0]),Ab 5 ao,Ai 3 ap],[[(5,.mp false [[1],[2],[3]] [.bfn 252 [.ptr 0 []],.bfn 253 [.ptr 0 []],.bfn 254 [.ptr 0 []]]),(6,.own 3),(19,.val (.list (.cons (.int .u8) (.cons (.int .i64) .nil))) b),(20,vi (Aa b)),(21,vi ab),(33,.own 3)],[(6,.ptr 4 []),(12,.ptr 0 [])]]⟩
theorem e26(S0:K_)(b:List (UInt8×Int×Unit)):x26 S0 b=OX (λab f g h k m n o p u v a aa w y=>S0 (t17 b ab f g h k m n o p u v a aa w y)) b:=Eq.trans (b:=Wu (Jh (λab f g h k m n o p u v a aa w y=>S0 (t17 b ab f g h k m n o p u v a aa w y)) b) b) F2 (by rw[Al5];rfl)
theorem i17(b:List (UInt8×Int×Unit)):∀(q:Nat) (ab:Int) (f:LB) (g h k m n o:Int) (p:LB) (u:Bool) (v:Int) (a:LB) (aa:List (Int×LB×Unit)) (w:LB) (y:LI),z17 q (t17 b ab f g h k m n o p u v a aa w y)=Gw b q ab f g h k m n o p u v a aa w y:=
 ind (λ_ _ _ _ _ _ _ _ _ _ _ _ _ _ _=>by kernel_rfl) λq ih ab f g h k m n o p u v a aa w y=>Eq.trans (b:=Wl (x26 (z17 q) b) (MQ (λab f g h k m n o p u v a aa w y=>(z17 q) (t17 b ab f g h k m n o p u v a aa w y)) b) (NK (λab f g h k m n o p u v a aa w y=>(z17 q) (t17 b ab f g h k m n o p u v a aa w y)) b) (Jh (λab f g h k m n o p u v a aa w y=>(z17 q) (t17 b ab f g h k m n o p u v a aa w y)) b) MW b ab f g h k m n o p u v a aa w y) F2 (by rw[Al3];simp only[e26,ih]<;>rfl)
def k:KC_:=kk_ 143 H (u3 Uz) func143 (λx=>Eq.trans (b:=u3 (RY (λb ab f g h k m n o p u v a aa w y=>z17 Bc (t17 b ab f g h k m n o p u v a aa w y))) x) F2 (by simp only[i17,Ah]<;>rfl))
end F143
namespace F193
def H:=hd_ [.agg [Ss,Sb,.agg [Si,Si,Si,Si,Si],Sl,Si,Sb,Sz,Si]] [Si,Si] .d [F214.k] f193
def k:KC_:=kk_ 193 H (u12 IM) func193
end F193
namespace F142
abbrev R_:=(Int×Int×Int)
abbrev K_:=S->Option R_
def H:=hd_ [Ss,Sb,.lf (.list (.cons (.int .u8) (.cons (.int .i64) .nil))) none] [Si,Si,Si] (.q (.q (.q (.q (.cut [6,7] [] (.q (.blk (.loop [1,6,7,12,37,38,39] [⟨12,[5],.ro (.int .u8)⟩] (.q (.q (.seq (.blk (.q (.cut [1,6,7,12,37,38,39] [] (.q (.blk (.q (.cond (.q (.seq (.mode false) .d)) .d)))) .d))) .d)))))) .d))))) [F113.k,F114.k,F115.k,F143.k,F192.k,F193.k] f142
def t7(a:List (UInt8×Int×Unit))(h:LB)(b f g:Int)(k:LB)(m n o p u v:Int)(w:LB)(y:Bool)(aa:Int)(ab:LB)(ac:LI):S:=⟨[(1,vb h),(6,vi b),(7,vi f),(12,.ptr 0 []),(37,.val (.list (.cons (.int .u8) (.cons (.int .i64) .nil))) a),(38,vi (Aa a)),(39,vi g)],[.box 148 (.agg [vs k,.own 1,.agg [vi m,vi n,vi o,vi p,vi u],.own 2,vi v,vb w,vt y,vi aa]),Ab 5 ab,Ai 3 ac],[]⟩
def z7:ZT_ R_:=H.i P_ [r,r,r,r,l,r,d]
theorem i7(a:List (UInt8×Int×Unit)):∀(q:Nat) (h:LB) (b f g:Int) (k:LB) (m n o p u v:Int) (w:LB) (y:Bool) (aa:Int) (ab:LB) (ac:LI),z7 q (t7 a h b f g k m n o p u v w y aa ab ac)=BW a q h b f g k m n o p u v w y aa ab ac:=
 ind (λ_ _ _ _ _ _ _ _ _ _ _ _ _ _ _ _=>by kernel_rfl) λq ih h b f g k m n o p u v w y aa ab ac=>Eq.trans (b:=eY (ZG (λh b f g k m n o p u v w y aa ab ac=>(z7 q) (t7 a h b f g k m n o p u v w y aa ab ac)) a) ZL a h b f g k m n o p u v w y aa ab ac) F2 (by simp only[ih]<;>rfl)
def k:KC_:=kk_ 142 H (u3 NS) func142 (λx=>Eq.trans (b:=u3 (fS (λa h b f g k m n o p u v w y aa ab ac=>z7 Bc (t7 a h b f g k m n o p u v w y aa ab ac))) x) F2 (by simp only[i7,Ah]<;>rfl))
end F142
namespace F123
abbrev R_:=(Int×Int×Int×Int×Int×Int)
def H:=hd_ [Sb] [.agg [Si,Si,Si,Si,Si],Si] (.q (.q (.q (.cut [0,2,4] [] (.cut [0,2,4,7] [] (.keep [0,2,4,7,17,18,19,20,21] true) .d) .d)))) [F155.k,F169.k] f123 false [(170,(.q (.q (.cut [0,6,7] [] .d (.q (.q (.q (.cut [6] [] (.q (.blk (.loop [0,6,60,61,62] [] .d))) .d))))))))]
def t8(k:LI)(a:LB)(m n o p u f g b:Int)(h:LI)(w v:Int):S:=⟨[(0,.ptr 0 []),(6,.own 1),(60,.own 1),(61,vi (Aa k)),(62,vi w)],[.box 227 (.agg [.agg [vi m,vi n,vi o,vi p,vi u],.agg [vi f,vi g,vi b,vi (Af (Af b (Ch (4:Int) (Aa k))) (4:Int)),vi v],.own 3]),Ai 3 k,.box 164 (.agg [vi 0,vi 0,vi 0,vi 0,vi 0]),Ai 3 h],[[(0,vb a),(2,.ptr 2 []),(4,.ptr 0 []),(18,vb a)]]⟩
def z8:ZT_ R_:=H.i P_ [r,r,r,l,l,(call 1 170),r,r,r,r,r,r,l,r,d]
theorem i8(k:LI)(a:LB)(m n o p u f g b:Int)(h:LI):∀(q:Nat) (w v:Int),z8 q (t8 k a m n o p u f g b h w v)=Zc k a m n o p u f g b h q w v:=
 ind (λ_ _=>by kernel_rfl) λq ih w v=>Eq.trans (b:=cS FZ (λw v=>(z8 q) (t8 k a m n o p u f g b h w v)) k a m n o p u f g b h w v) F2 (by simp only[ih]<;>rfl)
def k:KC_:=kk_ 123 H iR func123 (λx=>Eq.trans (b:=dM Lz (gW Lz (λk a m n o p u f g b h w v=>z8 Bc (t8 k a m n o p u f g b h w v))) x) F2 (by simp only[i8,Ah]<;>rfl))
end F123
namespace F84
abbrev R_:=(Int×UInt8×Int×Int×Int)
def H:=hd_ [Sb,Ss,Si] [.agg [Si,Sc,Si,Si],Si] (.q (.q (.q (.q (.q (.q (.q (.q (.q (.cut [6] [] (.q (.blk (.loop [2,6,11,12,79,80,81] [] .d))) .d)))))))))) [F105.k,F109.k,F111.k,F123.k] f84
def t4(a:Int)(b:LI)(g h k m n o p f:Int):S:=⟨[(2,vi a),(6,.ptr 0 []),(11,.ptr 1 []),(12,vi p),(79,.own 2),(80,vi (Aa b)),(81,vi f)],[.box 99 (.agg [vi 0,vc 0,vi 0,vi 0]),.box 97 (.agg [.agg [vi g,vi h,vi k,vi m,vi n],vi o,.own 2]),Ai 3 b],[]⟩
def z4:ZT_ R_:=H.i P_ [r,r,r,r,r,r,r,r,r,l,r,d]
theorem i4(a:Int)(b:LI)(g h k m n o:Int):∀(q:Nat) (p f:Int),z4 q (t4 a b g h k m n o p f)=Wi a b g h k m n o q p f:=
 ind (λ_ _=>by kernel_rfl) λq ih p f=>Eq.trans (b:=aH bL (λp f=>(z4 q) (t4 a b g h k m n o p f)) a b g h k m n o p f) F2 (by simp only[ih]<;>rfl)
def k:KC_:=kk_ 84 H (u3 Mi) func84 (λx=>Eq.trans (b:=u3 (aE (λa b g h k m n o p f=>z4 Bc (t4 a b g h k m n o p f))) x) F2 (by simp only[i4,Ah]<;>rfl))
end F84
namespace F86
abbrev R_:=(LB×Int)
abbrev K_:=S->Option R_
def H:=hd_ [Sb,Ss,Si] [Ob 5,Si] (.q (.cut [0,2,8,9,10,11] [] (.keep [0,1,2,8,9,10,11,18,19,20,21,22,23,24,25] true) (.q (.q (.q (.cut [0,10,12] [] (.q (.blk (.loop [0,8,9,10,12,13] [⟨12,[],.own 5 (.int .u8)⟩] (.q (.cut [0,8,9,10,12,13] [] (.blk (.cut [0,8,9,10,12,13,14,15] [⟨14,[],.own 5 (.int .u8)⟩] (.keep [0,8,9,10,12,13,14,15,42,43,44,45,46,47] true) .d)) .d))))) .d)))))) [F105.k,F125.k,F132.k,F154.k,F171.k,F172.k,F174.k] f86 false [(124,.d),(173,(.q (.cut [0,3,4,5,6,10,11] [] .d (.q (.cut [4,12,13] [] .d .d)))))]
def t19(a:LB)(y:Int):S:=⟨[(0,vb a),(8,.cst .nilFunc),(9,vi 0),(10,vi 0),(12,.own 0),(13,vi y)],[Ab 5 ([]:LB)],[]⟩
def z19:ZT_ R_:=H.i P_ [r,r,r,r,r,l,r,d]
def t22(a:LB)(f:LI)(b k n m h o p:Int)(u:LX)(v g:LI)(w:Int)(aa:LB):S:=⟨[(0,vb a),(8,.fn 173 [.ptr 0 [],.ptr 1 [],.ptr 2 [],.ptr 3 [],.ptr 4 [],.ptr 5 []]),(9,vi (Aa f)),(10,vi (Af b k)),(12,.own 6),(13,vi w)],[.box 97 (.agg [.agg [vi n,vi m,vi h,vi o,vi p],vi b,.own 7]),.box 81 (.own 8),.box 29 (vb a),.box 66 (.agg [vi m,vi h]),.box 232 (.val (.vec 16 (.int .i32)) u),.box 81 (.own 9),Ab 5 aa,Ai 3 v,Ai 3 g,Ai 3 f],[]⟩
def z22:ZT_ R_:=H.i P_ [r,r,r,r,r,l,r,d]
theorem i19(a:LB)(y:Int):∀(q:Nat),z19 q (t19 a y)=ZN a y q:=
 ind F2 λq ih=>Eq.trans (b:=ZJ aU a y) F2 rfl
theorem i22(a:LB)(f:LI)(b k n m h o p:Int)(u:LX)(v g:LI):∀(q:Nat) (w:Int) (aa:LB),z22 q (t22 a f b k n m h o p u v g w aa)=Vw a f b k n m h o p u v g q w aa:=
 ind (λ_ _=>by kernel_rfl) λq ih w aa=>Eq.trans (b:=aC (FP (λw aa=>(z22 q) (t22 a f b k n m h o p u v g w aa)) b a f k m h u n o p v g) GG a f b k n m h o p u v g w aa) F2 (by simp only[ih]<;>rfl)
def k:KC_:=kk_ 86 H (u3 Xp) func86 (λx=>Eq.trans (b:=u3 (JA (bU (λa y=>z19 Bc (t19 a y))) (GD (λa f b k n m h o p u v g w aa=>z22 Bc (t22 a f b k n m h o p u v g w aa)))) x) F2 (by simp only[i19,i22,Ah]<;>rfl))
end F86
namespace F126
def H:=hd_ [Si,Si,Si] [Si,Si,Si] .d [F177.k,F178.k] f126
def k:KC_:=kk_ 126 H (u3 ED) func126
end F126
namespace F87
def H:=hd_ [Sb,Ss,Si] [Sb,Si] .d [F86.k,F105.k,F126.k] f87
def k:KC_:=kk_ 87 H (u3 WC) func87
end F87
namespace F88
def H:=hd_ [Sb,Si,Sc] [Ob 5,Si] .d [F127.k] f88
def k:KC_:=kk_ 88 H (u3 dX) func88
end F88
namespace F89
abbrev R_:=(LB×Int)
abbrev K_:=S->Option R_
def H:=hd_ [Sb,Si,Su] [Ob 5,Si] (.q (.q (.q (.q (.q (.cut [8,9] [] (.q (.blk (.loop [1,2,8,9,10,24] [] (.q (.q (.cut [1,2,8,9,10,24] [] (.blk (.q (.q (.cond (.keep [1,2,8,9,10,11,24,32,33,34,35] true) .d)))) .d)))))) .d)))))) [F127.k] f89 false [(128,.d)]
def t6(a:Int)(g:UInt32)(b:Int)(h:Bool)(f:LB):S:=⟨[(1,vi a),(2,vu g),(8,.ptr 0 []),(9,.ptr 1 []),(10,.fn 128 [.ptr 0 [],.ptr 1 []]),(24,vi b)],[.box 29 (.own 2),.box 4 (vt h),Ab 5 f],[]⟩
def z6:ZT_ R_:=H.i P_ [r,r,r,r,r,l,r,d]
theorem i6(a:Int)(g:UInt32):∀(q:Nat) (b:Int) (h:Bool) (f:LB),z6 q (t6 a g b h f)=Vr a g q b h f:=
 ind (λ_ _ _=>by kernel_rfl) λq ih b h f=>Eq.trans (b:=bA (ZO (λb h f=>(z6 q) (t6 a g b h f)) a g) VJ a g b h f) F2 (by simp only[ih]<;>rfl)
def k:KC_:=kk_ 89 H (u3 HP) func89 (λx=>Eq.trans (b:=u3 (ZD (λa g b h f=>z6 Bc (t6 a g b h f))) x) F2 (by simp only[i6,Ah]<;>rfl))
end F89
namespace F129
abbrev R_:=(LB×Int)
abbrev K_:=S->Option R_
def H:=hd_ [Ss,Sb,Sl] [Sb,Si] (.q (.q (.q (.cut [8] [] (.q (.blk (.loop [1,8,20,21,22] [⟨8,[5],.ro (.int .u8)⟩] (.q (.q (.seq (.blk (.q (.seq (.cut [1,8,9,11,20,21,22] [] (.mode false) .d) .d))) .d)))))) .d)))) [F113.k,F114.k,F115.k] f129
def t7(a:LI)(b:LB)(f:Int)(g:LB)(h k m n o p:Int)(u:LB)(v:Bool)(w:Int)(y:LB)(aa:LI):S:=⟨[(1,vb b),(8,.ptr 0 []),(20,vl a),(21,vi (Aa a)),(22,vi f)],[.box 148 (.agg [vs g,.own 1,.agg [vi h,vi k,vi m,vi n,vi o],.own 2,vi p,vb u,vt v,vi w]),Ab 5 y,Ai 3 aa],[]⟩
def z7:ZT_ R_:=H.i P_ [r,r,r,l,r,d]
theorem i7(a:LI):∀(q:Nat) (b:LB) (f:Int) (g:LB) (h k m n o p:Int) (u:LB) (v:Bool) (w:Int) (y:LB) (aa:LI),z7 q (t7 a b f g h k m n o p u v w y aa)=Tu a q b f g h k m n o p u v w y aa:=
 ind (λ_ _ _ _ _ _ _ _ _ _ _ _ _ _=>by kernel_rfl) λq ih b f g h k m n o p u v w y aa=>Eq.trans (b:=UG (OU (λb f g h k m n o p u v w y aa=>(z7 q) (t7 a b f g h k m n o p u v w y aa)) a) NG a b f g h k m n o p u v w y aa) F2 (by simp only[ih]<;>rfl)
def k:KC_:=kk_ 129 H (u3 DT) func129 (λx=>Eq.trans (b:=u3 (VN (λa b f g h k m n o p u v w y aa=>z7 Bc (t7 a b f g h k m n o p u v w y aa))) x) F2 (by simp only[i7,Ah]<;>rfl))
end F129
namespace F90
abbrev R_:=(Int×Int)
abbrev K_:=S->Option R_
def H:=hd_ [Ss,Sb,Si,Si] [Si,Si] (.q (.q (.q (.q (.q (.q (.cut [14] [] (.q (.blk (.loop [0,1,2,3,12,13,14,66,67] [] (.q (.q (.cut [0,1,2,3,12,13,14,66,67] [] (.blk (.q (.q (.q (.cut [0,1,2,3,12,13,14,16,17,66,67] [] (.q (.blk (.loop [0,1,2,3,12,13,14,15,16,17,66,67,70,71] [⟨16,[],.own 3 (.int .i64)⟩] .d))) .d))))) .d)))))) .d))))))) [F113.k,F129.k,F130.k] f90
def t17(g b:LB)(f a:Int)(h:LB)(k n m p o:Int)(u:LI):S:=⟨[(0,vs g),(1,vb b),(2,vi f),(3,vi a),(12,vb h),(13,vi k),(14,vi n),(15,vi m),(16,.own 0),(17,vi p),(66,vi (Fc (1:Int) (GI.toZ a).toNat)),(67,vi m),(70,vi a),(71,vi o)],[Ai 3 u],[]⟩
def z17(Pz:K_):ZT_ R_:=H.i P_ [r,r,r,r,r,r,l,r,d,(lp Pz),r,r,l,d,r,r,r,l,r,d]
def t12(g b:LB)(f a:Int)(h:LB)(k n m:Int):S:=⟨[(0,vs g),(1,vb b),(2,vi f),(3,vi a),(12,vb h),(13,vi k),(14,vi n),(66,vi (Fc (1:Int) (GI.toZ a).toNat)),(67,vi m)],[],[]⟩
def z12:ZT_ R_:=H.i P_ [r,r,r,r,r,r,l,r,d]
def x17(Pz:K_)(g b:LB)(f a:Int)(h:LB)(k n m p o:Int)(u:LI):Option R_:=H.e P_ [r,r,r,r,r,r,l,r,d,(lp Pz),r,r,l,d,r,r,r,l,r,d] (t17 g b f a h k n m p o u)
theorem i17(Pz:K_)(g b:LB)(f a:Int)(h:LB)(k n m:Int):∀(q:Nat) (p o:Int) (u:LI),z17 Pz q (t17 g b f a h k n m p o u)=Vq (λn m=>Pz (t12 g b f a h k n m)) g b f a h k n m q p o u:=
 ind (λ_ _ _=>by kernel_rfl) λq ih p o u=>Eq.trans (b:=ZE (ZF (λn m=>Pz (t12 g b f a h k n m)) g b f a h k) (λp o u=>(z17 Pz q) (t17 g b f a h k n m p o u)) g b f a h k n m p o u) F2 (by simp only[ih]<;>rfl)
theorem e17(Pz:K_)(g b:LB)(f a:Int)(h:LB)(k:Int):x17 Pz g b f a h k=aA (λn m=>Pz (t12 g b f a h k n m)) g b f a h k:=by funext n m p o u;exact Eq.trans F2 ((i17 Pz g b f a h k n m Bc p o u).trans (by rw[Ah];rfl))
theorem i12(g b:LB)(f a:Int)(h:LB)(k:Int):∀(q:Nat) (n m:Int),z12 q (t12 g b f a h k n m)=Wj g b f a h k q n m:=
 ind (λ_ _=>by kernel_rfl) λq ih n m=>Eq.trans (b:=bB (x17 (z12 q) g b f a h k) aX g b f a h k n m) F2 (by simp only[e17,ih]<;>rfl)
def k:KC_:=kk_ 90 H (u4 OW) func90 (λx=>Eq.trans (b:=u4 (dA (λg b f a h k n m=>z12 Bc (t12 g b f a h k n m))) x) F2 (by simp only[i12,Ah]<;>rfl))
end F90
namespace F181
def H:=hd_ [.agg [Si,Si],Si,Ss] [Si,Sz] .d [F178.k,F233.k] f181
def k:KC_:=kk_ 181 H (u4 EF) func181
end F181
namespace F133
def H:=hd_ [.agg [Si,Si],Si,Ss] [.agg [.agg [Si,Si],Si,Ss,Ob 5,Ow 21,.lf (.list (.list (.int .u8))) (some 29),Ob 5,Sz,Si],Si] .d [F181.k] f133
def k:KC_:=kk_ 133 H (u4 fU) func133
end F133
namespace F183
def H:=hd_ [.agg [Si,Si]] [Si] .d [] f183
def k:KC_:=kk_ 183 H (u2 Zm) func183
end F183
namespace F186
def H:=hd_ [.agg [.agg [Si,Si],Si,Ss,Sb,Sw,.lf (.list (.list (.int .u8))) none,Sb,Sz,Si],Si] [Si] .d [] f186
def k:KC_:=kk_ 186 H (u11 Ur) func186
end F186
namespace F185
def H:=hd_ [.agg [.agg [Si,Si],Si,Ss,Sb,Sw,.lf (.list (.list (.int .u8))) none,Sb,Sz,Si],Si,Si] [Sz] .d [] f185
def k:KC_:=kk_ 185 H (u12 HX) func185
end F185
namespace F293
abbrev R_:=Bool
abbrev K_:=S->Option R_
def H:=hd_ [.agg [.agg [Si,Si],Si,Ss,Sb,Sw,.lf (.list (.list (.int .u8))) none,Sb,Sz,Si],Si] [Sz] (.q (.q (.cut [1,2,5] [] .d (.q (.q (.cut [1,2,5,6] [] .d (.cut [1,2,5] [] .d (.q (.cut [4] [] (.keep [4,80,81] true) .d))))))))) [F180.k,F183.k,F185.k,F186.k] f293 false [(330,(.q (.cut [4] [] (.keep [4,7,8] true) .d))),(331,.d),(355,(.q (.cut [] [] (.q (.blk (.loop [0,1,7,8] [] (.q (.q (.cut [0,1,7,8] [] (.blk (.q (.cut [0,1,5,7,8,16] [] (.keep [0,1,5,7,8,16] true) .d))) .d)))))) .d)))]
def t16(b:List LB)(f a h:Int):S:=⟨[(0,.val (.list (.list (.int .u8))) b),(1,.fn 331 [.ptr 0 []]),(7,vi (Aa b)),(8,vi h)],[.box 3 (vi (Af (Ep (Af (Ch (Ch (81:Int) f) a) (7:Int)) (8:Int)) (4:Int)))],[[(4,vt false)],[]]⟩
def z16:ZT_ R_:=H.i P_ [r,r,r,r,r,r,r,r,l,(call 3 330),r,l,(call 2 355),r,l,r,d]
def x13(f a k o:Int)(p m:LB)(g:LX)(b:List LB)(n:LB)(u:Bool)(v:Int):Option R_:=H.e P_ [r,r,r] ⟨[(1,vi f),(2,.ptr 0 []),(5,vi a)],[.box 180 (.agg [.agg [vi a,vi k],vi o,vs p,vb m,vw g,.val (.list (.list (.int .u8))) b,vb n,vt u,vi v])],[]⟩
theorem i16(b:List LB)(f a:Int):∀(q:Nat) (h:Int),z16 q (t16 b f a h)=My b f a q h:=
 ind (λ_=>by kernel_rfl) λq ih h=>Eq.trans (b:=GP (GK (λh=>(z16 q) (t16 b f a h)) b f a) GO b f a h) F2 (by simp only[ih]<;>rfl)
theorem e13:x13=Uc:=Eq.trans (b:=GQ (GM (GJ (λb f a h=>z16 Bc (t16 b f a h))))) F2 (by simp only[i16,Ah]<;>rfl)
def k:KC_:=kk_ 293 H (u11 Wa) func293 (λx=>Eq.trans (b:=u11 (Wo x13) x) F2 (by simp only[e13]<;>rfl))
end F293
namespace F243
def H:=hd_ [.agg [.agg [Si,Si],Si,Ss,Sb,Sw,.lf (.list (.list (.int .u8))) none,Sb,Sz,Si]] [Si] .d [F181.k,F293.k] f243
def k:KC_:=kk_ 243 H (u10 PR) func243
end F243
namespace F244
abbrev R_:=(Int×Int×Int×LB×LB×LX×(List LB)×LB×Bool×Int)
def H:=hd_ [.agg [.agg [Si,Si],Si,Ss,Sb,Sw,.lf (.list (.list (.int .u8))) none,Sb,Sz,Si]] [.agg [.agg [Si,Si],Si,Ss,Ob 5,Ow 21,.lf (.list (.list (.int .u8))) (some 29),Ob 5,Sz,Si]] (.q (.cut [1,2] [] .d (.q (.q (.cut [1,2,3] [] (.q (.blk (.loop [1,2,3,26,27] [] .d))) .d))))) [F83.k,F294.k] f244
def t6(w a:List LB)(b f g:Int)(h:LB)(k:Bool)(m:Int)(n:LB)(o:LX)(p:LB)(v:Int)(u:List LB):S:=⟨[(1,.ptr 0 []),(2,.ptr 1 []),(3,.own 2),(26,vi (Aa (Cr w a))),(27,vi v)],[.box 180 (.agg [.agg [vi b,vi f],vi g,vs h,.own 3,.own 4,.val (.list (.list (.int .u8))) a,.own 5,vt k,vi m]),.box 180 (.agg [.agg [vi 0,vi 0],vi 0,vs ([]:LB),.nils,.nils,.nils,.nils,vt false,vi 0]),.arr 29 (.list (.int .u8)) u,Ab 5 n,Aw 21 o,Ab 5 p],[]⟩
def z6:ZT_ R_:=H.i P_ [r,r,r,r,l,r,d]
theorem i6(w a:List LB)(b f g:Int)(h:LB)(k:Bool)(m:Int)(n:LB)(o:LX)(p:LB):∀(q:Nat) (v:Int) (u:List LB),z6 q (t6 w a b f g h k m n o p v u)=Py w a b f g h k m n o p q v u:=
 ind (λ_ _=>by kernel_rfl) λq ih v u=>Eq.trans (b:=GF aS (λv u=>(z6 q) (t6 w a b f g h k m n o p v u)) w a b f g h k m n o p v u) F2 (by simp only[ih]<;>rfl)
def k:KC_:=kk_ 244 H (u10 HU) func244 (λx=>Eq.trans (b:=u10 (FI (FV (λw a b f g h k m n o p v u=>z6 Bc (t6 w a b f g h k m n o p v u)))) x) F2 (by simp only[i6,Ah]<;>rfl))
end F244
namespace F182
abbrev R_:=(Int×Int×Int×LB×LB×LX×(List LB)×LB×Bool×Int×Int×Int)
def H:=hd_ [.agg [.agg [Si,Si],Si,Ss,Sb,Sw,.lf (.list (.list (.int .u8))) none,Sb,Sz,Si]] [.agg [.agg [Si,Si],Si,Ss,Ob 5,Ow 21,.lf (.list (.list (.int .u8))) (some 29),Ob 5,Sz,Si],Si,Si] (.q (.q (.q (.cut [1,2,6,7] [] .d .d)))) [F178.k,F243.k,F244.k] f182
def k:KC_:=kk_ 182 H (u10 EI) func182
end F182
namespace F332
def H:=hd_ [.agg [Si,Si],Sw] [Si] .d [F180.k,F233.k] f332
def k:KC_:=kk_ 332 H (u3 PO) func332
end F332
namespace F333
abbrev R_:=(LX×Int)
abbrev K_:=S->Option R_
def H:=hd_ [Si,Sw] [Ow 21,Si] (.q (.q (.q (.cut [7] [] (.q (.blk (.loop [0,7,8] [] (.q (.cut [0,7,8] [] (.blk (.keep [0,7,8,24,25,26,27,28,29] true)) .d))))) .d)))) [F294.k,F328.k] f333 true [(356,(.q (.cut [0,2] [] (.q (.blk (.loop [0,2,7,8] [] .d))) .d)))]
def t17(b a f:Int)(g:LX):S:=⟨[(0,.view true 0 [] (.int .i32) a ((Af a b)-a)),(2,vi (Ag ((Af a b)-a) (1:Int))),(7,vi (Ag ((Af a b)-a) (1:Int))),(8,vi f)],[Aw 21 g],[[(0,vi b),(7,.own 0),(8,vi a),(24,.own 0),(25,vi a),(26,vi a),(27,vi b),(28,vi (Af a b)),(29,.view true 0 [] (.int .i32) a ((Af a b)-a))]]⟩
def z17(Pz:K_):ZT_ R_:=H.i P_ [r,r,r,l,r,d,(lp Pz),r,l,d,(call 6 356),r,l,r,d]
def t12(b a:Int)(h:LX):S:=⟨[(0,vi b),(7,.own 0),(8,vi a)],[Aw 21 h],[]⟩
def z12:ZT_ R_:=H.i P_ [r,r,r,l,r,d]
def x17(Pz:K_)(b a f:Int)(g:LX):Option R_:=H.e P_ [r,r,r,l,r,d,(lp Pz),r,l,d,(call 6 356),r,l,r,d] (t17 b a f g)
theorem i17(Pz:K_)(b a:Int):∀(q:Nat) (f:Int) (g:LX),z17 Pz q (t17 b a f g)=OC (λa h=>Pz (t12 b a h)) b a q f g:=
 ind (λ_ _=>by kernel_rfl) λq ih f g=>Eq.trans (b:=zA (zE (λa h=>Pz (t12 b a h)) b) (λf g=>(z17 Pz q) (t17 b a f g)) b a f g) F2 (by simp only[ih]<;>rfl)
theorem e17(Pz:K_)(b:Int):x17 Pz b=zM (λa h=>Pz (t12 b a h)) b:=by funext a f g;exact Eq.trans F2 ((i17 Pz b a Bc f g).trans (by rw[Ah];rfl))
theorem i12(b:Int):∀(q:Nat) (a:Int) (h:LX),z12 q (t12 b a h)=OR b q a h:=
 ind (λ_ _=>by kernel_rfl) λq ih a h=>Eq.trans (b:=zJ (x17 (z12 q) b) zC b a h) F2 (by simp only[e17,ih]<;>rfl)
def k:KC_:=kk_ 333 H (u2 X') func333 (λx=>Eq.trans (b:=u2 (Y3 (λb a h=>z12 Bc (t12 b a h))) x) F2 (by simp only[i12,Ah]<;>rfl))
end F333
namespace F357
def H:=hd_ [.agg [Si,.lf (.vec 16 (.int .i32)) none,.lf (.vec 16 (.int .i32)) none],Sx] [Sx,.agg [Si,.lf (.vec 16 (.int .i32)) none,.lf (.vec 16 (.int .i32)) none],Si] .d [F353.k,F354.k] f357
def k:KC_:=kk_ 357 H (u4 OZ) func357
end F357
namespace F334
def BJ(a:Int)(b:Int32)(f:Int)(g h:LX)(k:Int32):Option (Int32×Int×Int32×Int×LX×LX×Int):=
(Xt a b f g h).bind λm=>
if(Bb m 0)then
some (0,0,0,0,(List.replicate 16 (0:Int32)),(List.replicate 16 (0:Int32)),m)
else
(Xv a b).bind λ(n,y)=>
(OZ f g h (Ag k n)).bind λ(o,p,u,v,w)=>
bo (
some (o,a,k,p,u,v,w))
theorem Amg: @BJ= @Uo:=by
  unfold BJ Uo;simp only[CJ,Ql,Qs]
def H:=hd_ [.agg [Si,Sx,.agg [Si,.lf (.vec 16 (.int .i32)) none,.lf (.vec 16 (.int .i32)) none]],Sx] [Sx,.agg [Si,Sx,.agg [Si,.lf (.vec 16 (.int .i32)) none,.lf (.vec 16 (.int .i32)) none]],Si] (.q (.q (.q (.q (.seq (.mode false) .d))))) [F325.k,F326.k,F357.k] f334
def k:KC_:=kk_ 334 H (u6 Uo) func334 (λx=>Eq.trans (b:=u6 BJ x) F2 (by simp only[Amg]<;>rfl))
end F334
namespace F335
def H:=hd_ [Sx] [Su] .d [] f335
def k:KC_:=kk_ 335 H wN func335
end F335
namespace F295
abbrev R_:=(LU×Int)
def H:=hd_ [.agg [Si,Si],.lf (.vec 16 (.int .i32)) none,Sw] [Ov 122,Si] (.q (.q (.q (.q (.q (.cut [3,9,11] [] (.q (.blk (.loop [3,4,9,11,36] [] .d))) (.q (.cut [13] [] (.q (.blk (.loop [3,11,13,49,50,51] [⟨13,[],.own 122 (.int .u32)⟩] .d))) .d)))))))) [F289.k,F332.k,F333.k,F334.k,F335.k] f295
def t10(b:LX)(a f g:Int)(k:List (Int×Int32×(Int×LX×LX×Unit)×Unit))(h:LU):S:=⟨[(3,.ptr 0 []),(11,.ptr 1 []),(13,.own 2),(49,.own 3),(50,vi (Aa b)),(51,vi g)],[.box 66 (.agg [vi a,vi f]),.box 373 (.val (.vec 6 (.cons (.int .i64) (.cons (.int .i32) (.cons (.cons (.int .i64) (.cons (.vec 16 (.int .i32)) (.cons (.vec 16 (.int .i32)) .nil))) .nil)))) k),Av 122 h,Aw 21 b],[]⟩
def z10:ZT_ R_:=H.i P_ [r,r,r,r,r,r,r,l,r,d]
def t7(a f:Int)(n b:LX)(o:Int)(m:List (Int×Int32×(Int×LX×LX×Unit)×Unit)):S:=⟨[(3,.ptr 0 []),(4,.ptr 1 []),(9,.own 2),(11,.ptr 3 []),(36,vi o)],[.box 66 (.agg [vi a,vi f]),.box 232 (.val (.vec 16 (.int .i32)) n),Aw 21 b,.box 373 (.val (.vec 6 (.cons (.int .i64) (.cons (.int .i32) (.cons (.cons (.int .i64) (.cons (.vec 16 (.int .i32)) (.cons (.vec 16 (.int .i32)) .nil))) .nil)))) m)],[]⟩
def z7:ZT_ R_:=H.i P_ [r,r,r,r,r,l,r,d]
def x10(b:LX)(a f g:Int)(k:List (Int×Int32×(Int×LX×LX×Unit)×Unit))(h:LU):Option R_:=H.e P_ [r,r,r,r,r,r,r,l,r,d] (t10 b a f g k h)
theorem i10(b:LX)(a f:Int):∀(q:Nat) (g:Int) (k:List (Int×Int32×(Int×LX×LX×Unit)×Unit)) (h:LU),z10 q (t10 b a f g k h)=Pb b a f q g k h:=
 ind (λ_ _ _=>by kernel_rfl) λq ih g k h=>Eq.trans (b:=LJ MH (λg k h=>(z10 q) (t10 b a f g k h)) b a f g k h) F2 (by simp only[ih]<;>rfl)
theorem e10:x10=IV:=by funext b a f g k h;exact Eq.trans F2 ((i10 b a f Bc g k h).trans (by rw[Ah];rfl))
theorem i7(a f:Int)(n b:LX):∀(q:Nat) (o:Int) (m:List (Int×Int32×(Int×LX×LX×Unit)×Unit)),z7 q (t7 a f n b o m)=Rb a f n b q o m:=
 ind (λ_ _=>by kernel_rfl) λq ih o m=>Eq.trans (b:=MY (MP x10) (λo m=>(z7 q) (t7 a f n b o m)) a f n b o m) F2 (by simp only[e10,ih]<;>rfl)
def k:KC_:=kk_ 295 H (u4 JG) func295 (λx=>Eq.trans (b:=u4 (NL (λa f n b o m=>z7 Bc (t7 a f n b o m))) x) F2 (by simp only[i7,Ah]<;>rfl))
end F295
namespace F296
abbrev R_:=((List (Int×Int×UInt64×UInt64×Unit)))
def H:=hd_ [] [.lf (.vec 6 (.cons (.int .i64) (.cons (.int .i64) (.cons (.int .u64) (.cons (.int .u64) .nil))))) none] (.q (.q (.cut [0,1] [] (.q (.blk (.loop [0,1,3] [] .d))) .d))) [F284.k] f296
def t4(b:Int)(a:List (Int×Int×UInt64×UInt64×Unit)):S:=⟨[(0,.ptr 0 []),(1,.ptr 1 []),(3,vi b)],[.box 362 (.val (.vec 6 (.cons (.int .i64) (.cons (.int .i64) (.cons (.int .u64) (.cons (.int .u64) .nil))))) (List.replicate 6 ((0:Int),(0:Int),(0:UInt64),(0:UInt64),()))),.box 362 (.val (.vec 6 (.cons (.int .i64) (.cons (.int .i64) (.cons (.int .u64) (.cons (.int .u64) .nil))))) a)],[]⟩
def z4:ZT_ R_:=H.i P_ [r,r,l,r,d]
theorem i4:∀(q:Nat) (b:Int) (a:List (Int×Int×UInt64×UInt64×Unit)),z4 q (t4 b a)=Qu q b a:=
 ind (λ_ _=>by kernel_rfl) λq ih b a=>Eq.trans (b:=OP OI (λb a=>(z4 q) (t4 b a)) b a) F2 (by simp only[ih]<;>rfl)
def k:KC_:=kk_ 296 H (λ_=>AV) func296 (λx=>Eq.trans (b:=Zq (λb a=>z4 Bc (t4 b a))) F2 (by simp only[i4,Ah]<;>rfl))
end F296
namespace F358
def H:=hd_ [.agg [Sb,Si]] [.agg [Ob 5,Si]] .d [F83.k] f358
def k:KC_:=kk_ 358 H (u2 SP) func358
end F358
namespace F337
abbrev R_:=(LB×Int×Int)
abbrev K_:=S->Option R_
def H:=hd_ [.agg [Sb,Si],Sq,Si] [.agg [Ob 5,Si],Si] (.q (.q (.q (.cut [3,6] [] (.keep [1,2,3,6,40,41] true) .d)))) [F287.k,F358.k] f337 false [(320,(.blk (.loop [0,1,2] [] (.q (.blk (.cut [0,1,2] [] .d (.q (.cut [0,1,2,7] [] .d .d))))))))]
def t15(b:UInt64)(a:Int)(m:UInt64)(h f:Int)(o:LB):S:=⟨[(0,.ptr 0 []),(1,vq m),(2,vi h)],[.box 303 (.agg [.own 2,vi f]),.box 303 (.agg [.nils,vi 0]),Ab 5 o],[[(1,vq b),(2,vi a),(3,.ptr 0 []),(6,.ptr 1 []),(40,vq b),(41,vi a)]]⟩
def z15:ZT_ R_:=H.i P_ [r,r,r,l,(call 2 320),d]
def t22(b:UInt64)(a:Int)(n:UInt64)(k g:Int)(p:LB):S:=⟨[(0,.ptr 0 []),(1,vq n),(2,vi k)],[.box 303 (.agg [.own 2,vi g]),.box 303 (.agg [.nils,vi 0]),Ab 5 p],[[(1,vq b),(2,vi a),(3,.ptr 0 []),(6,.ptr 1 []),(40,vq b),(41,vi a)]]⟩
def z22:ZT_ R_:=H.i P_ [r,r,r,l,(call 2 320),d]
theorem i15(b:UInt64)(a:Int):∀(q:Nat) (m:UInt64) (h f:Int) (o:LB),z15 q (t15 b a m h f o)=HH b a q m h f o:=
 ind (λ_ _ _ _=>by kernel_rfl) λq ih m h f o=>Eq.trans (b:=rR (rL (λm h f o=>(z15 q) (t15 b a m h f o)) b a) qQ b a m h f o) F2 (by simp only[ih]<;>rfl)
theorem i22(b:UInt64)(a:Int):∀(q:Nat) (n:UInt64) (k g:Int) (p:LB),z22 q (t22 b a n k g p)=HO b a q n k g p:=
 ind (λ_ _ _ _=>by kernel_rfl) λq ih n k g p=>Eq.trans (b:=pQ (sI (λn k g p=>(z22 q) (t22 b a n k g p)) b a) tR b a n k g p) F2 (by simp only[ih]<;>rfl)
def k:KC_:=kk_ 337 H (u4 TW) func337 (λx=>Eq.trans (b:=u4 (zL (λb a m h f o=>z15 Bc (t15 b a m h f o)) (λb a n k g p=>z22 Bc (t22 b a n k g p))) x) F2 (by simp only[i15,i22,Ah]<;>rfl))
end F337
namespace F364
def H:=hd_ [Si] [Si,Si] .d [] f364
def k:KC_:=kk_ 364 H YG func364
end F364
namespace F359
def H:=hd_ [.agg [Sb,Si],Si] [.agg [Ob 5,Si],Si] .d [F287.k,F337.k,F364.k] f359
def k:KC_:=kk_ 359 H (u3 gP) func359
end F359
namespace F338
abbrev R_:=(LB×Int×Int)
def H:=hd_ [.agg [Sb,Si],Su,Si] [.agg [Ob 5,Si],Si] (.q (.q (.q (.q (.cut [3,6,9,10,11] [] .d .d))))) [F287.k,F337.k,F349.k,F359.k] f338
def k:KC_:=kk_ 338 H (u4 nO) func338
end F338
namespace F297
def GB(k u n:Int)(a:UInt64)(b:UInt32)(o:UInt64)(m:LB):Option (LB×Int×Int×Int×UInt64×UInt64×Int):=
(λaf:Option (LB×Int×Int×Int×UInt64×UInt64×Int)=>
both (
bo (
af)) [
af]) (
some (m,k,u,n,(Af a (Ag (Am b:UInt64) (Da a (GI.toZ (4:UInt64)).toNat))),o,0))
theorem Ar0: @GB= @MI:=by
  unfold GB MI
  try simp only[CJ,Ql,Qs]
  all_goals
    repeat (refine funext λ_=>?_)
    repeat' first
      |with_reducible rfl
      |with_reducible refine Ft ?_ ?_
      |with_reducible refine Fm ?_ ?_ ?_
      |with_reducible refine Fx ?_ ?_ ?_ ?_
      |((with_reducible refine Iv ?_ ?_);focus (intro h;first|(subst h;rfl)|(simp only[h];rfl)|(simp[Ay,Aa,h];done)))
      |with_reducible refine Ii λx=>?_
      |with_reducible refine Mm (λ_=>?_) (λ_=>?_)
      |(refine Dh (λh=>by simp only[h,Ir,Cp,Cj,ite_self]) (λx h=>?_);(try simp only[h,Cp]))
      |(refine Ee (λh=>?_) (λh=>?_)<;>simp only[h,if_true,if_false,Bool.false_eq_true])
abbrev R_:=(LB×Int×Int×Int×UInt64×UInt64×Int)
def H:=hd_ [.agg [Sb,Si],.agg [Si,Si,Sq,Sq],Su] [.agg [Ob 5,Si],.agg [Si,Si,Sq,Sq],Si] (.q (.cut [2,3,4,6,7] [] .d (.q (.q (.cut [2,3,4,6,7,11] [] .d (.q (.cut [3,4,6,7] [] (.keep [2,3,4,6,7,65] true) (.seq (.mode false) .d)))))))) [F287.k,F321.k,F336.k,F337.k,F338.k] f297 false [(323,(.q (.q (.q (.blk (.cut [0,1,4] [] (.blk (.q (.keep [0,1,4,6,18,19,20,21,22,23,24,25] true))) (.cut [] [] (.keep [0,1,4,27,28,29,30,31,32,33,34] true) .d))))))),(350,.d)]
def x10(k u n:Int)(a:UInt64)(b:UInt32)(o:UInt64)(m:LB):Option R_:=H.e P_ [r,r,r,r,r,r,r] ⟨[(3,.ptr 0 []),(4,.ptr 1 []),(6,.ptr 2 []),(7,.ptr 3 [])],[.box 303 (.agg [.own 4,vi k]),.box 361 (.agg [vi u,vi n,vq (Af a (Ag (Am b:UInt64) (Da a (GI.toZ (4:UInt64)).toNat))),vq o]),.box 303 (.agg [.nils,vi 0]),.box 361 (.agg [vi 0,vi 0,vq 0,vq 0]),Ab 5 m],[]⟩
def x8(b:UInt32)(f:Int)(a:UInt64)(k:Int)(m:LB)(n:Int)(o:UInt64):Option R_:=H.e P_ [r,r,r,r,r,r,l,(call 1 323),r,r,r,d,r] ⟨[(0,.ptr 0 []),(1,vu b),(4,.fn 350 [])],[.box 361 (.agg [vi f,vi n,vq a,vq o]),.box 303 (.agg [.own 4,vi k]),.box 303 (.agg [.nils,vi 0]),.box 361 (.agg [vi 0,vi 0,vq 0,vq 0]),Ab 5 m],[[(2,vu b),(3,.ptr 1 []),(4,.ptr 0 []),(6,.ptr 2 []),(7,.ptr 3 []),(65,vu b)]]⟩
theorem e10:x10=iK:=Eq.trans (b:=GB) F2 (by rw[Ar0];rfl)
theorem e8:x8=PM:=Eq.trans (b:=lE (mB x10)) F2 (by simp only[e10]<;>rfl)
def k:KC_:=kk_ 297 H (u7 nL) func297 (λx=>Eq.trans (b:=u7 (mP (mI (lC x8))) x) F2 (by simp only[e8]<;>rfl))
end F297
namespace F245
abbrev R_:=(LB×Int)
abbrev K_:=S->Option R_
def H:=hd_ [.agg [Si,Si],.lf (.vec 16 (.int .i32)) none,Sw] [Ob 5,Si] (.q (.q (.q (.q (.q (.cut [11] [] (.q (.blk (.loop [3,10,11,30,31,32] [⟨11,[0],.own 5 (.int .u8)⟩] (.q (.q (.cut [3,10,11,30,31,32] [] (.blk (.q (.q (.q (.q (.keep [3,10,11,14,30,31,32,59] true)))))) .d)))))) .d)))))) [F94.k,F206.k,F225.k,F295.k,F296.k,F297.k] f245 false [(298,(.q (.q (.blk (.loop [0,3,7,8] [] (.q (.q (.seq (.blk (.q (.cut [0,3,4,7,8] [] .d (.q (.cut [0,3,7,8] [] .d .d))))) .d))))))))]
def t44(b:LU)(a g h f:Int)(n:List (Int×Int×UInt64×UInt64×Unit))(m:LB)(o k:Int)(w:LB):S:=⟨[(0,.ptr 0 []),(3,.ptr 1 []),(7,vi h),(8,vi o)],[.box 303 (.agg [.own 7,vi k]),.box 303 (.agg [.own 6,vi h]),.box 66 (.agg [vi a,vi g]),.box 362 (.val (.vec 6 (.cons (.int .i64) (.cons (.int .i64) (.cons (.int .u64) (.cons (.int .u64) .nil))))) n),.box 303 (.agg [.own 6,vi h]),Av 122 b,Ab 5 m,Ab 5 w],[[(3,.ptr 2 []),(10,.ptr 3 []),(11,.ptr 0 []),(14,.ptr 4 []),(30,.own 5),(31,vi (Aa b)),(32,vi f),(59,.agg [.own 6,vi h])]]⟩
def z44(GH:K_):ZT_ R_:=H.i P_ [r,r,r,r,r,l,r,d,(lp GH),r,r,l,d,r,r,r,r,(call 1 298),r,r,d]
def t27(b:LU)(a g f:Int)(u:List (Int×Int×UInt64×UInt64×Unit))(v:Int)(p:LB):S:=⟨[(3,.ptr 0 []),(10,.ptr 1 []),(11,.ptr 2 []),(30,.own 3),(31,vi (Aa b)),(32,vi f)],[.box 66 (.agg [vi a,vi g]),.box 362 (.val (.vec 6 (.cons (.int .i64) (.cons (.int .i64) (.cons (.int .u64) (.cons (.int .u64) .nil))))) u),.box 303 (.agg [.own 4,vi v]),Av 122 b,Ab 5 p],[]⟩
def z27:ZT_ R_:=H.i P_ [r,r,r,r,r,l,r,d]
def x44(GH:K_)(b:LU)(a g h f:Int)(n:List (Int×Int×UInt64×UInt64×Unit))(m:LB)(o k:Int)(w:LB):Option R_:=H.e P_ [r,r,r,r,r,l,r,d,(lp GH),r,r,l,d,r,r,r,r,(call 1 298),r,r,d] (t44 b a g h f n m o k w)
theorem i44(GH:K_)(b:LU)(a g h f:Int)(n:List (Int×Int×UInt64×UInt64×Unit))(m:LB):∀(q:Nat) (o k:Int) (w:LB),z44 GH q (t44 b a g h f n m o k w)=Pm (λf u v p=>GH (t27 b a g f u v p)) b a g h f n m q o k w:=
 ind (λ_ _ _=>by kernel_rfl) λq ih o k w=>Eq.trans (b:=LV (JH (λo k w=>(z44 GH q) (t44 b a g h f n m o k w)) h b f a g n m) (MA (λf u v p=>GH (t27 b a g f u v p)) b a g) b a g h f n m o k w) F2 (by simp only[ih]<;>rfl)
theorem e44(GH:K_)(b:LU)(a g:Int):x44 GH b a g=KB (λf u v p=>GH (t27 b a g f u v p)) b a g:=by funext h f n m o k w;exact Eq.trans F2 ((i44 GH b a g h f n m Bc o k w).trans (by rw[Ah];rfl))
theorem i27(b:LU)(a g:Int):∀(q:Nat) (f:Int) (u:List (Int×Int×UInt64×UInt64×Unit)) (v:Int) (p:LB),z27 q (t27 b a g f u v p)=Pe b a g q f u v p:=
 ind (λ_ _ _ _=>by kernel_rfl) λq ih f u v p=>Eq.trans (b:=KE (x44 (z27 q) b a g) JX b a g f u v p) F2 (by simp only[e44,ih]<;>rfl)
def k:KC_:=kk_ 245 H (u4 BQ) func245 (λx=>Eq.trans (b:=u4 (NC (λb a g f u v p=>z27 Bc (t27 b a g f u v p))) x) F2 (by simp only[i27,Ah]<;>rfl))
end F245
namespace F188
def H:=hd_ [.agg [.agg [Si,Si],Si,Ss,Sb,Sw,.lf (.list (.list (.int .u8))) none,Sb,Sz,Si],Si] [.agg [.agg [Si,Si],Si,Ss,Ob 5,Ow 21,.lf (.list (.list (.int .u8))) (some 29),Ob 5,Sz,Si],Si] .d [] f188
def k:KC_:=kk_ 188 H (u11 To) func188
end F188
namespace F135
abbrev R_:=(Int×Int×Int×LB×LB×LX×(List LB)×LB×Bool×Int×Int)
abbrev K_:=S->Option R_
def H:=hd_ [.agg [.agg [Si,Si],Si,Ss,Sb,Sw,.lf (.list (.list (.int .u8))) none,Sb,Sz,Si],Sb] [.agg [.agg [Si,Si],Si,Ss,Ob 5,Ow 21,.lf (.list (.list (.int .u8))) (some 29),Ob 5,Sz,Si],Si] (.q (.q (.q (.q (.q (.cut [2,4] [] (.q (.blk (.loop [2,4,8,9,27,28,29] [] (.q (.q (.cut [2,4,8,9,27,28,29] [] (.blk (.q (.q (.q (.cut [2,4,8,9,12,27,28,29] [⟨2,[3],.own 5 (.int .u8)⟩,⟨2,[4],.own 21 (.int .i32)⟩,⟨9,[0,3],.own 5 (.int .u8)⟩,⟨9,[0,4],.own 21 (.int .i32)⟩] (.keep [2,4,8,9,12,27,28,29,45] true) .d))))) .d)))))) .d)))))) [F116.k,F172.k,F182.k,F183.k,F185.k,F186.k,F188.k,F245.k] f135 false [(184,(.q (.cut [0,1] [] .d (.q (.q (.q (.q (.cut [2] [] (.keep [2,43] true) .d)))))))),(187,.d)]
def t14(p:Int)(n:LB)(a b g:Int)(f:LB)(h:Bool)(k o:Int)(m:LB)(u:Int)(y:LB)(w:LX)(v:List LB):S:=⟨[(2,.ptr 0 []),(4,.ptr 1 []),(8,vi p),(9,.fn 184 [.ptr 0 [],.ptr 2 []]),(27,vb n),(28,vi (Aa n)),(29,vi u)],[.box 180 (.agg [.agg [vi a,vi b],vi g,vs f,.own 3,.own 4,.own 5,.own 6,vt h,vi k]),.box 180 (.agg [.agg [vi 0,vi 0],vi 0,vs ([]:LB),.nils,.nils,.nils,.nils,vt false,vi 0]),.box 3 (vi o),Ab 5 y,Aw 21 w,.arr 29 (.list (.int .u8)) v,Ab 5 m],[]⟩
def z14:ZT_ R_:=H.i P_ [r,r,r,r,r,l,r,d]
theorem i14(p:Int)(n:LB)(a b g:Int)(f:LB)(h:Bool)(k o:Int)(m:LB):∀(q:Nat) (u:Int) (y:LB) (w:LX) (v:List LB),z14 q (t14 p n a b g f h k o m u y w v)=Km p n a b g f h k o m q u y w v:=
 ind (λ_ _ _ _=>by kernel_rfl) λq ih u y w v=>Eq.trans (b:=UD (Na (λu y w v=>(z14 q) (t14 p n a b g f h k o m u y w v)) p n a b g f h k o m) (Ko (λu y w v=>(z14 q) (t14 p n a b g f h k o m u y w v)) p n a b g f h k o m) (RL (λu y w v=>(z14 q) (t14 p n a b g f h k o m u y w v)) p n a b g f h k o m) VQ p n a b g f h k o m u y w v) F2 (by simp only[ih]<;>rfl)
def k:KC_:=kk_ 135 H (u11 WU) func135 (λx=>Eq.trans (b:=u11 (bT (λp n a b g f h k o m u y w v=>z14 Bc (t14 p n a b g f h k o m u y w v))) x) F2 (by simp only[i14,Ah]<;>rfl))
end F135
namespace F246
def H:=hd_ [Ss] [Si,Si] .d [] f246
def k:KC_:=kk_ 246 H QP func246
end F246
namespace F247
abbrev R_:=(LB×Int)
def H:=hd_ [.agg [Si,Si,Si,Si,Si]] [Ob 5,Si] (.q (.q (.q (.cut [5] [] (.q (.blk (.loop [5,31,32] [] .d))) .d)))) [F206.k,F210.k,F225.k] f247
def t4(b f g h k m:Int)(a:LB):S:=⟨[(5,.own 0),(31,.val (.vec 5 (.int .i64)) ([b,f,g,h,k]:LI)),(32,vi m)],[Ab 5 a],[]⟩
def z4:ZT_ R_:=H.i P_ [r,r,r,l,r,d]
theorem i4(b f g h k:Int):∀(q:Nat) (m:Int) (a:LB),z4 q (t4 b f g h k m a)=Vv b f g h k q m a:=
 ind (λ_ _=>by kernel_rfl) λq ih m a=>Eq.trans (b:=bM bP (λm a=>(z4 q) (t4 b f g h k m a)) b f g h k m a) F2 (by simp only[ih]<;>rfl)
def k:KC_:=kk_ 247 H (u5 XS) func247 (λx=>Eq.trans (b:=u5 (bV (λb f g h k m a=>z4 Bc (t4 b f g h k m a))) x) F2 (by simp only[i4,Ah]<;>rfl))
end F247
namespace F248
abbrev R_:=(LB×Int)
abbrev K_:=S->Option R_
def H:=hd_ [Sl] [Ob 5,Si] (.q (.q (.q (.q (.cut [5,6] [] (.q (.blk (.loop [5,6,17,18,19] [⟨5,[],.own 5 (.int .u8)⟩,⟨6,[0],.own 5 (.int .u8)⟩] (.q (.q (.cut [5,6,17,18,19] [] (.blk (.q (.keep [5,6,8,17,18,19,23,24,25] true))) .d)))))) (.q (.cut [5] [] (.keep [5,6,9,33,34,35] true) .d))))))) [F156.k,F206.k,F225.k] f248 false [(299,.d)]
def t8(a:LI)(f:Int)(b:LB):S:=⟨[(5,.ptr 0 []),(6,.fn 299 [.ptr 0 []]),(17,vl a),(18,vi (Aa a)),(19,vi f)],[.box 29 (.own 1),Ab 5 b],[]⟩
def z8:ZT_ R_:=H.i P_ [r,r,r,r,l,r,d]
theorem i8(a:LI):∀(q:Nat) (f:Int) (b:LB),z8 q (t8 a f b)=Yt a q f b:=
 ind (λ_ _=>by kernel_rfl) λq ih f b=>Eq.trans (b:=iP (aQ (λf b=>(z8 q) (t8 a f b)) a) ZX a f b) F2 (by simp only[ih]<;>rfl)
def k:KC_:=kk_ 248 H ON func248 (λx=>Eq.trans (b:=dR (λa f b=>z8 Bc (t8 a f b)) x) F2 (by simp only[i8,Ah]<;>rfl))
end F248
namespace F189
def CP(f g h:Int)(b k:LB)(m:LX)(a:List LB)(n:LB)(o:Bool)(p:Int)(u:LB)(v:LI):Option (LB×Int):=
(ON v).bind λ(aa,y)=>
if(Bb y 0)then
some (([]:LB),y)
else
(λao:Option (LB×Int)=>
bo (
ao)) (
(Ay u aa).bind λab=>
(Ce a).bind λac=>
(Ay ab ac).bind λad=>
some (ad,0))
theorem Aq2: @CP= @FO:=by
  unfold CP FO;simp only[CJ,Ql,Qs]
abbrev R_:=(LB×Int)
def H:=hd_ [.agg [.agg [Si,Si],Si,Ss,Sb,Sw,.lf (.list (.list (.int .u8))) none,Sb,Sz,Si],Si] [Ob 5,Si] (.q (.q (.q (.q (.q (.cut [2,8] [] .d (.q (.cut [2,8,11] [] (.q (.blk (.loop [2,8,11,58,59,60] [⟨11,[],.own 3 (.int .i64)⟩] .d))) (.q (.q (.seq (.mode false) .d))))))))))) [F94.k,F209.k,F246.k,F247.k,F248.k] f189
def t6(a:List LB)(f g h:Int)(b k:LB)(m:LX)(n:LB)(o:Bool)(p:Int)(u:LB)(w:Int)(v:LI):S:=⟨[(2,.ptr 0 []),(8,.own 1),(11,.own 2),(58,.val (.list (.list (.int .u8))) a),(59,vi (Aa a)),(60,vi w)],[.box 180 (.agg [.agg [vi f,vi g],vi h,vs b,vb k,vw m,.val (.list (.list (.int .u8))) a,vb n,vt o,vi p]),Ab 5 u,Ai 3 v],[]⟩
def z6:ZT_ R_:=H.i P_ [r,r,r,r,r,r,r,l,r,d]
def x8(f g h:Int)(b k:LB)(m:LX)(a:List LB)(n:LB)(o:Bool)(p:Int)(u:LB)(v:LI):Option R_:=H.e P_ [r,r,r,r,r,r,r,r] ⟨[(2,.ptr 0 []),(8,.own 1),(11,.own 2)],[.box 180 (.agg [.agg [vi f,vi g],vi h,vs b,vb k,vw m,.val (.list (.list (.int .u8))) a,vb n,vt o,vi p]),Ab 5 u,Ai 3 v],[]⟩
theorem e8:x8=aP:=Eq.trans (b:=CP) F2 (by rw[Aq2];rfl)
theorem i6(a:List LB)(f g h:Int)(b k:LB)(m:LX)(n:LB)(o:Bool)(p:Int)(u:LB):∀(q:Nat) (w:Int) (v:LI),z6 q (t6 a f g h b k m n o p u w v)=Wh a f g h b k m n o p u q w v:=
 ind (λ_ _=>by kernel_rfl) λq ih w v=>Eq.trans (b:=aI x8 (λw v=>(z6 q) (t6 a f g h b k m n o p u w v)) a f g h b k m n o p u w v) F2 (by simp only[e8,ih]<;>rfl)
def k:KC_:=kk_ 189 H (u11 YQ) func189 (λx=>Eq.trans (b:=u11 (ZK (bR (λa f g h b k m n o p u w v=>z6 Bc (t6 a f g h b k m n o p u w v)))) x) F2 (by simp only[i6,Ah]<;>rfl))
end F189
namespace F137
abbrev R_:=(Int×Int×Int×LB×LB×LX×(List LB)×LB×Bool×Int×Int)
def H:=hd_ [.agg [.agg [Si,Si],Si,Ss,Sb,Sw,.lf (.list (.list (.int .u8))) none,Sb,Sz,Si]] [.agg [.agg [Si,Si],Si,Ss,Ob 5,Ow 21,.lf (.list (.list (.int .u8))) (some 29),Ob 5,Sz,Si],Si] (.q (.q (.q (.q (.q (.cut [1,2,6] [] (.q (.cond (.cut [1,2,6,7] [⟨1,[4],.own 21 (.int .i32)⟩] (.keep [1,2,6,7,38] true) .d) .d)) .d)))))) [F172.k,F182.k,F186.k,F188.k,F189.k,F245.k] f137 false [(187,.d)]
def k:KC_:=kk_ 137 H (u10 IU) func137
end F137
namespace F91
abbrev R_:=(LB×Int)
def H:=hd_ [.agg [Si,Si,Si,Sw],Ss] [Ob 5,Si] (.q (.q (.q (.q (.q (.q (.q (.cut [8,9] [⟨9,[3],.own 5 (.int .u8)⟩,⟨9,[4],.own 21 (.int .i32)⟩,⟨9,[5],.own 29 (.list (.int .u8))⟩,⟨9,[6],.own 5 (.int .u8)⟩] (.keep [8,9,43,46,47,48] true) .d)))))))) [F131.k,F132.k,F133.k,F135.k,F137.k] f91 false [(134,.d),(136,(.q (.cut [2,6,8,9] [] (.keep [2,6,8,9,11,14,15,16] true) (.q (.cut [6,7] [] .d .d)))))]
def k:KC_:=kk_ 91 H (u5 IN) func91
end F91
namespace F24
def Nr(j100:LB->LB->LB->Option (LB×LB×LB))(j97:LB->LB->LI->Option (LB×LB×LB))(j126:LB->LB->Option (LB×LB×LB))(j127:Int->Int->UInt8->Int->Int->LB->LB->Option (LB×LB×LB))(j129:LB->LB->LB->Option (LB×LB×LB))(j130:LB->LB->LB->Option (LB×LB×LB))(j131:LB->LB->LB->Option (LB×LB×LB))(j135:LB->LB->LB->Option (LB×LB×LB))(j132:LB->LB->LI->Option (LB×LB×LB))(j139:LB->LB->LB->Option (LB×LB×LB))(j137:LB->LB->LB->Option (LB×LB×LB))(j138:LB->LB->LB->Option (LB×LB×LB))(j141:Int->Int->LB->LB->Option (LB×LB×LB))(j143:LB->LB->LI->Int->Int->Int->Option (LB×LB×LB))(h g a:LB)(k:LI):Option (LB×LB×LB):=
if(h==[99,117,116])then
if((true&&(Fu (Aa k) 1))&&(TH (Aa k) 1))then
(Ae k 0).bind λ_=>
(Ae k 0).bind λbw=>
if(Bw bw 0)then
(Ak 2).bind λaq=>
j100 g a aq
else
(Ae k 0).bind λ_=>
(Ae k 0).bind λdw=>
if(Dr dw (Aa g))then
(Ak 2).bind λdx=>
j100 g a dx
else
j97 g a k
else
j126 g a
else
if(h==[112,108,97,99,101])then
if((true&&(Fu (Aa k) 1))&&(TH (Aa k) 1))then
(Ae k 0).bind λ_=>
(λgr:Option (LB×LB×LB)=>
(λgv:Option (LB×LB×LB)=>
(λgw:Option (LB×LB×LB)=>
both (
gv) [
gv,
(Ae k 0).bind λan=>
(λgx:Option (LB×LB×LB)=>
(λgy:Option (LB×LB×LB)=>
(λgz:Option (LB×LB×LB)=>
both (
gz) [
gz,
gy]) (
both (
gy) [
gx])) (
bo (
gx))) (
(Mi g a an).bind λ(aj,ah,ab,ai,aa)=>
j127 aa aj ah ab ai g a),
both (
gw) [
gw,
(Ae k 0).bind λan=>
(λkz:Option (LB×LB×LB)=>
bo (
kz)) (
(Mi g a an).bind λ(aj,ah,ab,ai,aa)=>
j127 aa aj ah ab ai g a)]]) (
bo (
gr))) (
both (
both (
(Ae k 0).bind λan=>
(λla:Option (LB×LB×LB)=>
bo (
la)) (
(Mi g a an).bind λ(aj,ah,ab,ai,aa)=>
j127 aa aj ah ab ai g a)) [
gr]) [
(Ae k 0).bind λan=>
(λha:Option (LB×LB×LB)=>
both (
bo (
ha)) [
ha]) (
(Mi g a an).bind λ(aj,ah,ab,ai,aa)=>
j127 aa aj ah ab ai g a),
bo (
gr)])) (
(Ae k 0).bind λan=>
(Mi g a an).bind λ(aj,ah,ab,ai,aa)=>
j127 aa aj ah ab ai g a)
else
j126 g a
else
if(h==[102,114,97,109,101])then
if((true&&(Fu (Aa k) 1))&&(TH (Aa k) 1))then
(Ae k 0).bind λ_=>
(Ae k 0).bind λdy=>
(Pa g a dy).bind λ(dz,fa)=>
(Ei dz fa).bind λbn=>
j129 bn g a
else
j126 g a
else
if(h==[102,114,111,109])then
if((true&&(Fu (Aa k) 1))&&(TH (Aa k) 1))then
(Ae k 0).bind λ_=>
(Ae k 0).bind λfb=>
(Xp g a fb).bind λ(fc,fd)=>
(Ei fc fd).bind λbp=>
j130 bp g a
else
j126 g a
else
if(h==[97,116])then
if((true&&(Fu (Aa k) 1))&&(TH (Aa k) 1))then
(Ae k 0).bind λ_=>
(Ae k 0).bind λfe=>
(WC g a fe).bind λ(ff,fg)=>
(Ei ff fg).bind λbq=>
j131 bq g a
else
j126 g a
else
if(h==[102,108,105,112])then
if((true&&(Fu (Aa k) 2))&&(TH (Aa k) 2))then
(Ae k 1).bind λ_=>
(Ae k 1).bind λfh=>
if(Bw fh 0)then
(Ak 2).bind λfi=>
j135 g a fi
else
(Ae k 1).bind λ_=>
(Ae k 1).bind λfj=>
if(Dr fj 255)then
(Ak 2).bind λfk=>
j135 g a fk
else
j132 g a k
else
j126 g a
else
if(h==[98,117,114,115,116])then
if((true&&(Fu (Aa k) 2))&&(TH (Aa k) 2))then
(Ae k 1).bind λ_=>
(Ae k 1).bind λbs=>
if(Bw bs 0)then
(Ak 2).bind λfl=>
j139 g a fl
else
(Ae k 0).bind λ_=>
(Ae k 1).bind λ_=>
(Ae k 0).bind λfm=>
(Ae k 1).bind λfn=>
(HP g fm (Am fn:UInt32)).bind λ(am,bx)=>
if(Bb bx 0)then
(Ak bx).bind λfo=>
j137 g a fo
else
if(Dr (Aa am) 100000)then
(Ak 4).bind λfp=>
j137 g a fp
else
(strconv_Itoa (Aa am)).bind λay=>
j138 ay a am
else
j126 g a
else
if(h==[119,97,121,115])then
if((true&&(Fu (Aa k) 2))&&(TH (Aa k) 2))then
(Ae k 0).bind λ_=>
(Ae k 1).bind λ_=>
(Ae k 0).bind λfq=>
(Ae k 1).bind λfs=>
(OW a g fq fs).bind λ(bt,bu)=>
j141 bt bu g a
else
j126 g a
else
if(h==[99,108,105,112])then
if((true&&(Fu (Aa k) 3))&&(TH (Aa k) 3000))then
(Ae k 0).bind λ_=>
(Ae k 1).bind λ_=>
(Ae k 2).bind λ_=>
(Ae k 0).bind λp=>
(Ae k 1).bind λu=>
(Ae k 2).bind λv=>
bo (
j143 g a k p u v)
else
j126 g a
else
if((false&&(Fu (Aa k) 0))&&(TH (Aa k) 0))then
none
else
j126 g a
theorem Ac6: @Nr= @Ou:=by
  unfold Nr Ou
  try simp only[CJ,Ql,Qs]
  all_goals
    repeat (refine funext λ_=>?_)
    repeat' first
      |with_reducible rfl
      |with_reducible refine Ft ?_ ?_
      |with_reducible refine Fm ?_ ?_ ?_
      |with_reducible refine Fx ?_ ?_ ?_ ?_
      |((with_reducible refine Iv ?_ ?_);focus (intro h;first|(subst h;rfl)|(simp only[h];rfl)|(simp[Ay,Aa,h];done)))
      |with_reducible refine Ii λx=>?_
      |with_reducible refine Mm (λ_=>?_) (λ_=>?_)
      |(refine Dh (λh=>by simp only[h,Ir,Cp,Cj,ite_self]) (λx h=>?_);(try simp only[h,Cp]))
      |(refine Ee (λh=>?_) (λh=>?_)<;>simp only[h,if_true,if_false,Bool.false_eq_true])
def Nq(j92:LB-> (List LB)->LB->Bool->LB->LB->Option (LB×LB×LB))(j82:LB-> (List LB)->LB->LB->LB->Option (LB×LB×LB))(j83:LB->LB-> (List LB)->LB->LB->Option (LB×LB×LB))(j151:LB-> (List LB)->LB->LB->LB->Option (LB×LB×LB))(j152:LB->LB-> (List LB)->LB->LB->Option (LB×LB×LB))(j153:Int->LB-> (List LB)-> (List (Int×LB×Unit))->LB->LB->Option (LB×LB×LB))(j91:LB-> (List LB)->LB->LB->Option (LB×LB×LB))(h:LB)(m:List LB)(f b:LB):Option (LB×LB×LB):=
if((h==([112,97,115,115,119,111,114,100]:LB))&&(geq (Aa m) 1))then
(Ae m 0).bind λft=>
if(Dr (Aa ft) 64)then
(Ak 2).bind λba=>
j92 h m ba true f b
else
(Ae m 0).bind λfu=>
j92 h m ([111,107]:LB) true f fu
else
if(((h==([102,105,108,101]:LB))||(h==([97,100,100]:LB)))&&(geq (Aa m) 1))then
(Ae m 0).bind λfv=>
(Im fv).bind λ(ao,fw)=>
if(!fw)then
j92 h m ([119,104,97,116]:LB) true f b
else
if(h==([97,100,100]:LB))then
(Ce ([f,ao]:List LB)).bind λar=>
if(Bb (0:Int) (0:Int))then
(Ak 0).bind λfx=>
j82 h m f b fx
else
if(Dr (Aa ar) 100000)then
(Ak 4).bind λfy=>
j82 h m f b fy
else
(strconv_Itoa (Aa ar)).bind λbz=>
j83 bz h m b ar
else
if(Bb (0:Int) (0:Int))then
(Ak 0).bind λfz=>
j151 h m f b fz
else
if(Dr (Aa ao) 100000)then
(Ak 4).bind λga=>
j151 h m f b ga
else
(strconv_Itoa (Aa ao)).bind λda=>
j152 da h m b ao
else
if((h==([115,99,114,105,112,116]:LB))||(h==([112,101,97,107]:LB)))then
(Ux m).bind λ(dc,gb)=>
if(!gb)then
j92 h m ([119,104,97,116]:LB) true f b
else
if(h==([112,101,97,107]:LB))then
(NS b f dc).bind λ(ak,au,av)=>
(Ek ([ak,au]:LI) av).bind λgc=>
j92 h m gc true f b
else
(λhb:Option (LB×LB×LB)=>
(λhc:Option (LB×LB×LB)=>
(λhd:Option (LB×LB×LB)=>
both (
hd) [
hd,
hc]) (
both (
hc) [
hb])) (
bo (
hb))) (
(Uz b f dc).bind λ(gd,kn,dd,de,df,ko,dg,kp,kq,kr,ks,dh,n,ap)=>
j153 ap h m n f b)
else
j91 h m f b
theorem Ad0: @Nq= @Ot:=by
  unfold Nq Ot
  try simp only[CJ,Ql,Qs]
  all_goals
    repeat (refine funext λ_=>?_)
    repeat' first
      |with_reducible rfl
      |with_reducible refine Ft ?_ ?_
      |with_reducible refine Fm ?_ ?_ ?_
      |with_reducible refine Fx ?_ ?_ ?_ ?_
      |((with_reducible refine Iv ?_ ?_);focus (intro h;first|(subst h;rfl)|(simp only[h];rfl)|(simp[Ay,Aa,h];done)))
      |with_reducible refine Ii λx=>?_
      |with_reducible refine Mm (λ_=>?_) (λ_=>?_)
      |(refine Dh (λh=>by simp only[h,Ir,Cp,Cj,ite_self]) (λx h=>?_);(try simp only[h,Cp]))
      |(refine Ee (λh=>?_) (λh=>?_)<;>simp only[h,if_true,if_false,Bool.false_eq_true])
def Ng(j65:LB->Option (LB×LB×LB))(j66:LB->LB->LB->Option (LB×LB×LB))(j67:LB->LB->Option (LB×LB×LB))(j158:LB->LB->LB->Option (LB×LB×LB))(j159:Int->Int->Int->Int->Int->Int->Int->Int->UInt8->Int->Int->LB->LB->LI->Option (LB×LB×LB))(j161:Int->Int->UInt8->Int->Int->LB->LB->Option (LB×LB×LB))(j163:LB->LB->LB->Option (LB×LB×LB))(j164:LB->LB->LB->Option (LB×LB×LB))(j165:LB->LB->LB->Option (LB×LB×LB))(j166:LB->LB->LB->Option (LB×LB×LB))(j167:LB->LB->LB->Option (LB×LB×LB))(j80:LB->LB->Option (LB×LB×LB))(j81:LB-> (List LB)->LB->LB->Option (LB×LB×LB))(h:LB)(m:List LB)(f b:LB):Option (LB×LB×LB):=
if(geq (Aa m) 0)then
if(h==[112,97,115,115,119,111,114,100])then
j65 f
else
if(h==[102,105,108,101])then
if(Bb (0:Int) (0:Int))then
(Ak 0).bind λgf=>
j66 f b gf
else
if(Dr (0:Int) (100000:Int))then
(Ak 4).bind λba=>
j66 f b ba
else
(strconv_Itoa 0).bind λbb=>
j67 bb b
else
if(h==[104,101,120])then
(Ei f 0).bind λdi=>
j158 di f b
else
if(h==[114,101,112,111,114,116])then
(λhe:Option (LB×LB×LB)=>
(λhf:Option (LB×LB×LB)=>
(λhg:Option (LB×LB×LB)=>
both (
hg) [
hg,
hf]) (
both (
hf) [
he])) (
bo (
he))) (
(rK f b).bind λ(bc,bd,be,bf,bg,bh,bm,bi,bj,bk,bl,ak)=>
j159 ak bc bd be bf bg bh bi bj bk bl f b bm)
else
if(h==[116,111,108,100])then
(λhh:Option (LB×LB×LB)=>
(λhi:Option (LB×LB×LB)=>
(λhj:Option (LB×LB×LB)=>
both (
hj) [
hj,
hi]) (
both (
hi) [
hh])) (
bo (
hh))) (
(EP f b).bind λ(au,av,aw,dl,dk)=>
j161 dk au av aw dl f b)
else
if(h==[115,97,109,112,108,101,115])then
(Rv f b).bind λ(dd,de,df,gg,dg)=>
(Gb dd de df gg dg).bind λdm=>
j163 dm f b
else
if(h==[98,97,100])then
(YK f b).bind λ(gh,gi)=>
(Ek gh gi).bind λaq=>
j164 aq f b
else
if(h==[115,107,105,112])then
(λhk:Option (LB×LB×LB)=>
(λhl:Option (LB×LB×LB)=>
(λhm:Option (LB×LB×LB)=>
both (
hm) [
hm,
hl]) (
both (
hl) [
hk])) (
bo (
hk))) (
(Qk f b 1).bind λ(dh,gj,ap,al,kx,ab)=>
(Gb dh gj ap al ab).bind λag=>
j165 ag f b)
else
if(h==[115,105,108,101,110,116])then
(λhn:Option (LB×LB×LB)=>
(λho:Option (LB×LB×LB)=>
(λhp:Option (LB×LB×LB)=>
both (
hp) [
hp,
ho]) (
both (
ho) [
hn])) (
bo (
hn))) (
(Qk f b 2).bind λ(aa,gk,gl,gm,ky,gn)=>
(Gb aa gk gl gm gn).bind λdn=>
j166 dn f b)
else
if(h==[119,97,118])then
(EK f b).bind λ(go,gp)=>
(Ei go gp).bind λdp=>
j167 dp f b
else
j80 f b
else
j81 h m f b
theorem Acj: @Ng= @Oq:=by
  unfold Ng Oq
  try simp only[CJ,Ql,Qs]
  all_goals
    repeat (refine funext λ_=>?_)
    repeat' first
      |with_reducible rfl
      |with_reducible refine Ft ?_ ?_
      |with_reducible refine Fm ?_ ?_ ?_
      |with_reducible refine Fx ?_ ?_ ?_ ?_
      |((with_reducible refine Iv ?_ ?_);focus (intro h;first|(subst h;rfl)|(simp only[h];rfl)|(simp[Ay,Aa,h];done)))
      |with_reducible refine Ii λx=>?_
      |with_reducible refine Mm (λ_=>?_) (λ_=>?_)
      |(refine Dh (λh=>by simp only[h,Ir,Cp,Cj,ite_self]) (λx h=>?_);(try simp only[h,Cp]))
      |(refine Ee (λh=>?_) (λh=>?_)<;>simp only[h,if_true,if_false,Bool.false_eq_true])
abbrev R_:=(LB×LB×LB)
noncomputable def Kb:K R_:={n:=M8 P_ 48 f24.results.toList,x:=λ_ _=>none,r:=M8 P_ 48 f24.results.toList}
noncomputable def tl:Code:=cB (cB (cB (cB (cB (fB f24)))))
noncomputable def tan:An:=(.cut [0,4,5,6,9,10] [] .d (.cut [0,4,6,9,10] [] (.q (.cond (.cut [4] [] (.q (.q (.cond (.cut [4] [] (.keep [4,61] true) .d) .d))) .d) .d)) (.cut [0,4,6,9,10] [] (.cut [0,4,6,9,10,13,14] [⟨0,[0],.ro (.int .u8)⟩] (.keep [0,4,6,9,10,13,14,62,66,67,68] true) .d) (.q (.cut [0,4,6,9,15] [] (.q (.blk (.loop [0,4,6,9,15,71,72,73] [⟨15,[],.own 3 (.int .i64)⟩] .d))) (.cut [4] [] (.q (.q (.cond (.cut [4] [] (.keep [4,114] true) .d) .d))) .d))))))
def H:Hp R_:=⟨kt [F25.k,⟨(58,Tf),NT⟩,F71.k,F72.k,F73.k,F74.k,F75.k,F76.k,F77.k,F78.k,F79.k,F80.k,F82.k,F83.k,F84.k,F85.k,F86.k,F87.k,F88.k,F89.k,F90.k,F91.k,F93.k,F94.k,F95.k,⟨(99,Nu),Vx⟩,F112.k,F119.k,F142.k,F143.k] false,[(37,.d),(38,(.q (.cut [2] [] (.keep [2,4] true) .d))),(39,.d),(40,(.q (.cut [3,4] [] (.mode false) .d))),(41,(.q (.cut [3,4] [] (.mode false) .d))),(42,.d),(43,.d),(44,(.q (.seq (.keep [2,4] true) .d))),(45,(.q (.seq (.keep [2,4] true) .d))),(46,.d),(47,(.q (.cut [0,1] [] .d (.cut [4] [] (.keep [4,31] true) .d)))),(48,(.q (.cut [5,6] [] (.mode false) .d))),(49,.d),(50,.d),(51,.d),(52,(.q (.cut [0,1] [] .d (.cut [4] [] (.keep [4,31] true) .d)))),(53,(.q (.q (.cut [4] [] (.keep [4,25] true) .d)))),(54,(.q (.cut [5,6] [] .d .d))),(55,(.q (.cut [0,1,5] [] .d (.cut [0,5] [] (.q (.blk (.loop [0,5,19,20,21] [⟨5,[3],.own 21 (.int .i32)⟩] .d))) (.cut [4] [] (.keep [4,42] true) .d))))),(56,.d),(57,(.q (.cut [] [] (.blk (.q (.cond .d (.q (.cond (.q (.q (.q (.cut [6,7] [] (.keep [6,7,64] true) .d)))) (.q (.cond (.q (.q (.seq (.q (.cond (.seq (.keep [6,7,83] true) .d) .d)) (.cut [6,7] [] (.keep [6,7,86] true) .d)))) .d))))))) .d))),(70,.d),(81,(.q (.seq (.mode false) .d))),(92,.d),(96,.d),(97,(.q (.cut [6,7] [] (.mode false) (.q (.q (.cut [8] [] (.q (.blk (.loop [8,29,30,31] [⟨8,[],.own 9 .str⟩] .d))) .d))))))],⟨8,115,tl,tan,Kb⟩⟩
def t144(w:LI)(g a:LB)(p u v af:Int)(ac:LX):S:=⟨[(0,.ptr 0 []),(5,.ptr 1 []),(19,vl w),(20,vi (Aa w)),(21,vi af)],[.box 48 (.agg [vb g,vs a]),.box 42 (.agg [vi p,vi u,vi v,.own 3]),.box 9 (vs ([]:LB)),Aw 21 ac],[[(4,.ptr 2 [])],[(0,.ptr 0 [])]]⟩
def z144:ZT_ R_:=H.i P_ [r,r,r,r,r,l,r,r,l,l,(call 4 55),r,r,l,r,d]
def t94(h:LB)(m:List LB)(g a:LB)(y:Int)(k:LI):S:=⟨[(0,.ptr 0 []),(4,.ptr 1 []),(6,.mp true [[99,117,116],[112,108,97,99,101],[102,114,97,109,101],[102,114,111,109],[97,116],[102,108,105,112],[98,117,114,115,116],[119,97,121,115],[99,108,105,112]] [.agg [vi 1,vi 1,.fn 47 []],.agg [vi 1,vi 1,.fn 48 []],.agg [vi 1,vi 1,.fn 49 []],.agg [vi 1,vi 1,.fn 50 []],.agg [vi 1,vi 1,.fn 51 []],.agg [vi 2,vi 2,.fn 52 []],.agg [vi 2,vi 2,.fn 53 []],.agg [vi 2,vi 2,.fn 54 []],.agg [vi 3,vi 3000,.fn 55 []]]),(9,vs h),(15,.own 2),(71,.val (.list .str) m),(72,vi (Aa m)),(73,vi y)],[.box 48 (.agg [vb g,vs a]),.box 9 (vs ([]:LB)),Ai 3 k],[[(0,.ptr 0 [])]]⟩
def z94:ZT_ R_:=H.i P_ [r,r,r,r,l,r,d]
def t154(n:List (Int×LB×Unit))(h:LB)(m:List LB)(f b:LB)(ae:Int)(ad:List LB):S:=⟨[(8,.own 0),(29,.own 1),(30,vi (Aa n)),(31,vi ae)],[.arr 9 .str ad,.arr 199 (.cons (.int .i64) (.cons (.list (.int .u8)) .nil)) n,.box 48 (.agg [vb f,vs b]),.box 9 (vs ([]:LB))],[[(6,vs ([]:LB)),(7,vt false)],[(0,.ptr 2 []),(4,.ptr 3 []),(6,.mp true [[99,117,116],[112,108,97,99,101],[102,114,97,109,101],[102,114,111,109],[97,116],[102,108,105,112],[98,117,114,115,116],[119,97,121,115],[99,108,105,112]] [.agg [vi 1,vi 1,.fn 47 []],.agg [vi 1,vi 1,.fn 48 []],.agg [vi 1,vi 1,.fn 49 []],.agg [vi 1,vi 1,.fn 50 []],.agg [vi 1,vi 1,.fn 51 []],.agg [vi 2,vi 2,.fn 52 []],.agg [vi 2,vi 2,.fn 53 []],.agg [vi 2,vi 2,.fn 54 []],.agg [vi 3,vi 3000,.fn 55 []]]),(9,vs h),(10,.val (.list .str) m)],[(0,.ptr 2 [])]]⟩
def z154:ZT_ R_:=H.i P_ [r,r,l,l,(call 3 57),r,l,d,r,r,r,r,r,l,r,r,r,l,(call 2 97),r,r,r,r,l,r,d]
def x96(h g a:LB)(k:LI):Option R_:=H.e P_ [r,r,r,r,r] ⟨[(0,.ptr 0 []),(4,.ptr 1 []),(6,.mp true [[99,117,116],[112,108,97,99,101],[102,114,97,109,101],[102,114,111,109],[97,116],[102,108,105,112],[98,117,114,115,116],[119,97,121,115],[99,108,105,112]] [.agg [vi 1,vi 1,.fn 47 []],.agg [vi 1,vi 1,.fn 48 []],.agg [vi 1,vi 1,.fn 49 []],.agg [vi 1,vi 1,.fn 50 []],.agg [vi 1,vi 1,.fn 51 []],.agg [vi 2,vi 2,.fn 52 []],.agg [vi 2,vi 2,.fn 53 []],.agg [vi 2,vi 2,.fn 54 []],.agg [vi 3,vi 3000,.fn 55 []]]),(9,vs h),(15,.own 2)],[.box 48 (.agg [vb g,vs a]),.box 9 (vs ([]:LB)),Ai 3 k],[[(0,.ptr 0 [])]]⟩
def x94(h:LB)(m:List LB)(g a:LB)(y:Int)(k:LI):Option R_:=H.e P_ [r,r,r,r,l,r,d] (t94 h m g a y k)
def x81(h:LB)(m:List LB)(f b:LB):Option R_:=H.e P_ [r,r] ⟨[(0,.ptr 0 []),(4,.ptr 1 []),(6,.mp true [[99,117,116],[112,108,97,99,101],[102,114,97,109,101],[102,114,111,109],[97,116],[102,108,105,112],[98,117,114,115,116],[119,97,121,115],[99,108,105,112]] [.agg [vi 1,vi 1,.fn 47 []],.agg [vi 1,vi 1,.fn 48 []],.agg [vi 1,vi 1,.fn 49 []],.agg [vi 1,vi 1,.fn 50 []],.agg [vi 1,vi 1,.fn 51 []],.agg [vi 2,vi 2,.fn 52 []],.agg [vi 2,vi 2,.fn 53 []],.agg [vi 2,vi 2,.fn 54 []],.agg [vi 3,vi 3000,.fn 55 []]]),(9,vs h),(10,.val (.list .str) m)],[.box 48 (.agg [vb f,vs b]),.box 9 (vs ([]:LB))],[[(0,.ptr 0 [])]]⟩
def x159(ak bc bd be bf bg bh bi:Int)(bj:UInt8)(bk bl:Int)(f b:LB)(bm:LI):Option R_:=H.e P_ [r,l,r,l,l,r,r,l,l,(call 2 40),r,r] ⟨[(3,.ptr 0 []),(4,vi ak)],[.box 101 (.agg [.agg [.agg [vi bc,vi bd,vi be,vi bf,vi bg],vi bh,.own 3],.agg [vi bi,vc bj,vi bk,vi bl]]),.box 9 (vs ([]:LB)),.box 48 (.agg [vb f,vs b]),Ai 3 bm],[[(4,.ptr 1 [])],[(0,.ptr 2 [])]]⟩
def x64(h:LB)(m:List LB)(f b:LB):Option R_:=H.e P_ [r] ⟨[(0,.ptr 0 []),(4,.ptr 1 []),(5,.mp true [[112,97,115,115,119,111,114,100],[102,105,108,101],[104,101,120],[114,101,112,111,114,116],[116,111,108,100],[115,97,109,112,108,101,115],[98,97,100],[115,107,105,112],[115,105,108,101,110,116],[119,97,118]] [.fn 37 [],.fn 38 [],.fn 39 [],.fn 40 [],.fn 41 [],.fn 42 [],.fn 43 [],.fn 44 [],.fn 45 [],.fn 46 []]),(6,.mp true [[99,117,116],[112,108,97,99,101],[102,114,97,109,101],[102,114,111,109],[97,116],[102,108,105,112],[98,117,114,115,116],[119,97,121,115],[99,108,105,112]] [.agg [vi 1,vi 1,.fn 47 []],.agg [vi 1,vi 1,.fn 48 []],.agg [vi 1,vi 1,.fn 49 []],.agg [vi 1,vi 1,.fn 50 []],.agg [vi 1,vi 1,.fn 51 []],.agg [vi 2,vi 2,.fn 52 []],.agg [vi 2,vi 2,.fn 53 []],.agg [vi 2,vi 2,.fn 54 []],.agg [vi 3,vi 3000,.fn 55 []]]),(9,vs h),(10,.val (.list .str) m)],[.box 48 (.agg [vb f,vs b]),.box 9 (vs ([]:LB))],[[(0,.ptr 0 [])]]⟩
theorem i144(w:LI)(g a:LB)(p u v:Int):∀(q:Nat) (af:Int) (ac:LX),z144 q (t144 w g a p u v af ac)=Jg w g a p u v q af ac:=
 ind (λ_ _=>by kernel_rfl) λq ih af ac=>Eq.trans (b:=Xm Xy (λaf ac=>(z144 q) (t144 w g a p u v af ac)) w g a p u v af ac) F2 (by simp only[ih]<;>rfl)
theorem e96:x96=Pk:=Eq.trans (b:=Nr Nv Ok Yc Xf Yj Xz Xq Nw Xj Nk Xl Yi Xo (Yk (λw g a p u v af ac=>z144 Bc (t144 w g a p u v af ac)))) F2 (by rw[Ac6];simp only[i144,Ah]<;>rfl)
theorem i94(h:LB)(m:List LB)(g a:LB):∀(q:Nat) (y:Int) (k:LI),z94 q (t94 h m g a y k)=Jv h m g a q y k:=
 ind (λ_ _=>by kernel_rfl) λq ih y k=>Eq.trans (b:=BY x96 (λy k=>(z94 q) (t94 h m g a y k)) h m g a y k) F2 (by simp only[e96,ih]<;>rfl)
theorem e94:x94=BC:=by funext h m g a y k;exact Eq.trans F2 ((i94 h m g a Bc y k).trans (by rw[Ah];rfl))
theorem i154(n:List (Int×LB×Unit))(h:LB)(m:List LB)(f b:LB):∀(q:Nat) (ae:Int) (ad:List LB),z154 q (t154 n h m f b ae ad)=Jd n h m f b q ae ad:=
 ind (λ_ _=>by kernel_rfl) λq ih ae ad=>Eq.trans (b:=Yn (Xg (Gm (Cu (Cm x94)))) (λae ad=>(z154 q) (t154 n h m f b ae ad)) n h m f b ae ad) F2 (by simp only[e94,ih]<;>rfl)
theorem e81:x81=Pg:=Eq.trans (b:=Nq (Cu (Cm x94)) (Pn (Cu (Cm x94))) (Oy (Cu (Cm x94))) (Nh (Cu (Cm x94))) (Nf (Cu (Cm x94))) (Xx (Gm (Cu (Cm x94))) (λn h m f b ae ad=>z154 Bc (t154 n h m f b ae ad))) (Pj (Cu (Cm x94)))) F2 (by rw[Ad0];simp only[e94,i154,Ah]<;>rfl)
theorem e159:x159=Yd:=F2
theorem e64:x64=On:=Eq.trans (b:=Ng AH Yv BL Yb x159 Xk Xs Ym Xu Yh Ya BS x81) F2 (by rw[Acj];simp only[e159,e81]<;>rfl)
def st0(f b:LB)(o:List LB):S:=⟨[(0,.ptr 0 []),(4,.ptr 1 []),(5,.mp true [[112,97,115,115,119,111,114,100],[102,105,108,101],[104,101,120],[114,101,112,111,114,116],[116,111,108,100],[115,97,109,112,108,101,115],[98,97,100],[115,107,105,112],[115,105,108,101,110,116],[119,97,118]] [.fn 37 [],.fn 38 [],.fn 39 [],.fn 40 [],.fn 41 [],.fn 42 [],.fn 43 [],.fn 44 [],.fn 45 [],.fn 46 []]),(6,.mp true [[99,117,116],[112,108,97,99,101],[102,114,97,109,101],[102,114,111,109],[97,116],[102,108,105,112],[98,117,114,115,116],[119,97,121,115],[99,108,105,112]] [.agg [vi 1,vi 1,.fn 47 []],.agg [vi 1,vi 1,.fn 48 []],.agg [vi 1,vi 1,.fn 49 []],.agg [vi 1,vi 1,.fn 50 []],.agg [vi 1,vi 1,.fn 51 []],.agg [vi 2,vi 2,.fn 52 []],.agg [vi 2,vi 2,.fn 53 []],.agg [vi 2,vi 2,.fn 54 []],.agg [vi 3,vi 3000,.fn 55 []]]),(7,.ptr 2 [])],[.box 48 (.agg [vb f,vs b]),.box 9 (vs ([]:LB)),.box 31 (.own 3),.arr 9 .str o],[[(0,.ptr 0 [])]]⟩
def st1(f b:LB)(o:List LB):S:=⟨[(0,.ptr 0 []),(4,.ptr 1 []),(5,.mp true [[112,97,115,115,119,111,114,100],[102,105,108,101],[104,101,120],[114,101,112,111,114,116],[116,111,108,100],[115,97,109,112,108,101,115],[98,97,100],[115,107,105,112],[115,105,108,101,110,116],[119,97,118]] [.fn 37 [],.fn 38 [],.fn 39 [],.fn 40 [],.fn 41 [],.fn 42 [],.fn 43 [],.fn 44 [],.fn 45 [],.fn 46 []]),(6,.mp true [[99,117,116],[112,108,97,99,101],[102,114,97,109,101],[102,114,111,109],[97,116],[102,108,105,112],[98,117,114,115,116],[119,97,121,115],[99,108,105,112]] [.agg [vi 1,vi 1,.fn 47 []],.agg [vi 1,vi 1,.fn 48 []],.agg [vi 1,vi 1,.fn 49 []],.agg [vi 1,vi 1,.fn 50 []],.agg [vi 1,vi 1,.fn 51 []],.agg [vi 2,vi 2,.fn 52 []],.agg [vi 2,vi 2,.fn 53 []],.agg [vi 2,vi 2,.fn 54 []],.agg [vi 3,vi 3000,.fn 55 []]]),(7,.ptr 2 [])],[.box 48 (.agg [vb f,vs b]),.box 9 (vs ([]:LB)),.box 31 (.val (.list .str) o)],[[(0,.ptr 0 [])]]⟩
theorem e0:∀x:LB×LB×List LB,H.e P_ [] (st1 x.1 x.2.1 x.2.2)=u3 Di x:=(λx=>Eq.trans (b:=u3 (Qr x64) x) F2 (by simp only[e64]<;>rfl))
noncomputable def lan:An:= .loop [0,4,5,6,7] [⟨7,[],.own 9 .str⟩] .d
noncomputable def an:An:= .q (.q (.q (.q (.cut [0,4,5,6,7] [⟨7,[],.ro .str⟩] (.q (.blk lan)) tan))))
noncomputable def rf:Code:=cA (cB (cA (cB (cB (cB (cB (fB f24)))))))
noncomputable def kc(s:S):Option R_:=match s.cn [0,4,5,6,7] [⟨7,[],.ro .str⟩]with|some s1=>H.e P_ [] s1|none=>none
noncomputable def k2:K R_:=⟨kc,λid s=>Bz (Nat.beq id 0) (kc s)<|Kb.x id s,Kb.r⟩
noncomputable def lp:List LB->S->Option R_:=rnd lan (QG P_ H.T (Qn P_ H.T 8 H.s) 115 37 (e? rf) (I? rf) lan k2 .str) k2.n
theorem l0(f b:LB)(o:List LB):lp [] (st0 f b o)=Di f b o:=Eq.trans (b:=H.e P_ [] (st1 f b o)) F2 (e0 (f,b,o))
theorem l1(f b:LB)(o:List LB)(x:LB)(xs:List LB):lp (x::xs) (st0 f b o)=if(x==[])=true then some ([119,104,97,116],f,b)else Option.bind (Ay o [x]) λgq=>lp xs (st0 f b gq):=F2
theorem lq(f b:LB):∀(xs:List LB) (o:List LB),lp xs (st0 f b o)=Ez f b xs o
  |[],o=>l0 f b o
  |x::xs,o=>by
    rw[l1,Ez];simp only[lq f b xs]
    try rfl
noncomputable def its:List (Nat×ItC):=[(138,⟨[9,9,3],true,.str,V9⟩)]
theorem run(f b dq:LB):exF P_ H.T (Qn P_ H.T 8 H.s) 115 its (fB f24) an Kb (TE 48 f b dq)=Cd f b dq:=by
  refine Eq.trans (b:=Option.bind (vX 32 dq) λxs=>lp xs (st0 f b [])) F2 ?_;simp only[lq];rfl
theorem R5:∀p∈its,ItOk P_ gl p.1 p.2:=by
  intro p hp;rcases List.mem_cons.1 hp with rfl|hp
  · exact Ahr SI ent138
  · cases hp
theorem ok:dD P_ gl 24 48 Cd:=xq (T:=H.T) (QL:=H.s) (its:=its) (an:=an) (c:=fB f24) mixed func24 F2 (OV _ _ _) (Gq.cons ent37 (Gq.cons ent38 (Gq.cons ent39 (Gq.cons ent40 (Gq.cons ent41 (Gq.cons ent42 (Gq.cons ent43 (Gq.cons ent44 (Gq.cons ent45 (Gq.cons ent46 (Gq.cons ent47 (Gq.cons ent48 (Gq.cons ent49 (Gq.cons ent50 (Gq.cons ent51 (Gq.cons ent52 (Gq.cons ent53 (Gq.cons ent54 (Gq.cons ent55 (Gq.cons ent56 (Gq.cons ent57 (Gq.cons ent70 (Gq.cons ent81 (Gq.cons ent92 (Gq.cons ent96 (Gq.cons ent97 (Gq.nil))))))))))))))))))))))))))) R5 F2 run
end F24
namespace F10
abbrev ps:List Sh:=[.lf .str none]
abbrev rs:List Sh:=[.lf .str none,.lf (.int .i64) none]
abbrev R_:=Uw (Oe rs)
noncomputable def T_:Tab:=kt [F21.k,F25.k] false
noncomputable def its:List (Nat×ItC):=[(34,⟨[9],true,.str,P!⟩)]
noncomputable def QL:List (Nat×An):=[(22,.d),(23,.d),(26,.pr 1 51 5),(36,.pr 0 51 5)]
noncomputable def lan:An:= .loop [5,6,14] [⟨6,[0],.wp⟩,⟨6,[1],.own 5 (.int .u8)⟩,⟨14,[0],.ro (.int .u8)⟩] .d
noncomputable def an:An:= .q (.q (.q (.q (.seq (.q (.blk lan)) .d))))
noncomputable def rf:Code:=cA (cB (cA (cB (cB (cB (cB (fB f10)))))))
noncomputable def tl:Code:=cB (cB (cB (cB (cB (fB f10)))))
noncomputable abbrev I_:XV R_:=kA 24 48 Cd (Qn P_ T_ 8 QL)
noncomputable def k0:K R_:={n:=bZ P_ rs f10.results.toList,x:=λ_ _=>none,r:=bZ P_ rs f10.results.toList}
noncomputable def kn(s:S):Option R_:=ex P_ T_ I_ 25 tl .d k0 s
noncomputable def k2:K R_:=⟨kn,λid s=>Bz (Nat.beq id 0) (kn s)<|k0.x id s,k0.r⟩
noncomputable def lp:List LB->S->Option R_:=rnd lan (QG P_ T_ I_ 25 17 (e? rf) (I? rf) lan k2 .str) k2.n
def st(b f a:LB):S:=⟨[(5,.ptr 0 []),(6,.ptr 1 []),(14,.ptr 2 [])],[.box 46 (.ptr 2 []),.box 51 (.agg [.wp 1,.own 3]),.box 48 (.agg [vb b,vs f]),Ab 5 a],[]⟩
theorem l0(b f a:LB):lp [] (st b f a)=(Option.bind (Es (decide (Aa a<=17179869184))) λ_=>some (a,(0:Int)):Option R_):=F2
theorem l1(b f a:LB)(g:LB)(xs:List LB):lp (g::xs) (st b f a)=(Option.bind (Ge g ([10]:LB)) λk=>
Option.bind (Cd b f k) λ(m,n,o)=>
Option.bind (Ay m ([10]:LB)) λp=>
Option.bind (Ay a p) λu=>
(λb f a=>lp xs (st b f a)) n o u:Option R_):=F2
theorem lq:∀(xs:List LB) (b f a:LB),lp xs (st b f a)=Mo xs b f a
  |[],b,f,a=>l0 b f a
  |g::xs,b,f,a=>by
    rw[l1,Mo];simp only[lq xs]
    try rfl
theorem run(x:Uw (Oe ps)):RA P_ T_ rs I_ its f10 an ps x=Xw x:=by
  refine Eq.trans (b:=(Option.bind (Qa x) λh=>
if(Bb h (0:Int))=true then(
some (([]:LB),h))
else(
Option.bind (q! x) λxs=>(λb f a=>lp xs (st b f a)) ([]:LB) ([]:LB) ([]:LB)):Option R_)) F2 ?_
  simp only[lq];rfl
theorem R5:∀p∈its,ItOk P_ T_.gl p.1 p.2:=by
  intro p hp;rcases List.mem_cons.1 hp with rfl|hp
  · exact Ahq F35.k.2 ent34
  · cases hp
def k:Kc P_ gl:=⟨(10,⟨ps,rs,λx=>Xw x⟩),zN (T:=T_) (inl:=I_) (its:=its) (an:=an) mixed func10 ent10 (OV _ _ _) (Apu (Zy mixed (OV _ _ _) (Gq.cons ent22 (Gq.cons ent23 (Gq.cons ent26 (Gq.cons ent36 (Gq.nil) P4) S7))) 8) ent24 F24.ok) R5 F2 run⟩
end F10
namespace F9
def H:=hd_ [Ss,Ss] [Sz] .d [F10.k] f9
def k:KC_:=kk_ 9 H (u2 NH) func9
end F9
namespace F12
def H:=hd_ [] [Sz] .d [F9.k,F11.k] f12
def k:KC_:=kk_ 12 H (λ_=>Pd) func12
end F12
namespace F29
abbrev R_:=Int
def H:=hd_ [Ss] [Si] (.q (.q (.cut [0,3] [] (.q (.blk (.loop [0,3,4] [] .d))) .d))) [] f29
def t4(a:LB)(b f:Int):S:=⟨[(0,vs a),(3,vi b),(4,vi f)],[],[]⟩
def z4:ZT_ R_:=H.i P_ [r,r,l,r,d]
theorem i4(a:LB):∀(q:Nat) (b f:Int),z4 q (t4 a b f)=Ht a q b f:=
 ind (λ_ _=>by kernel_rfl) λq ih b f=>Eq.trans (b:=Qp CK (λb f=>(z4 q) (t4 a b f)) a b f) F2 (by simp only[ih]<;>rfl)
def k:KC_:=kk_ 29 H Gh func29 (λx=>Eq.trans (b:=CM (λa b f=>z4 Bc (t4 a b f)) x) F2 (by simp only[i4,Ah]<;>rfl))
end F29
namespace F14
abbrev R_:=((List LB))
def H:=hd_ [Ss] [.lf (.list .str) (some 9)] (.q (.q (.q (.cut [3] [] (.q (.blk (.loop [0,3,4,5] [⟨3,[],.own 9 .str⟩] .d))) .d)))) [] f14
def t4(a:LB)(g b:Int)(f:List LB):S:=⟨[(0,vs a),(3,.own 0),(4,vi g),(5,vi b)],[.arr 9 .str f],[]⟩
def z4:ZT_ R_:=H.i P_ [r,r,r,l,r,d]
theorem i4(a:LB):∀(q:Nat) (g b:Int) (f:List LB),z4 q (t4 a g b f)=Cf a q g b f:=
 ind (λ_ _ _=>by kernel_rfl) λq ih g b f=>Eq.trans (b:=Hr Qq (λg b f=>(z4 q) (t4 a g b f)) a g b f) F2 (by simp only[ih]<;>rfl)
def k:KC_:=kk_ 14 H Ld func14 (λx=>Eq.trans (b:=CE (λa g b f=>z4 Bc (t4 a g b f)) x) F2 (by simp only[i4,Ah]<;>rfl))
end F14
namespace F28
def H:=hd_ [Ss] [Sz] .d [F14.k,F29.k] f28
def k:KC_:=kk_ 28 H Ww func28
end F28
namespace F13
def H:=hd_ [Ss] [Sz] .d [F28.k,F29.k] f13
def k:KC_:=kk_ 13 H Ny func13
end F13
namespace F15
def H:=hd_ [Ss] [.lf (.list .str) (some 9),Sz] .d [F10.k,F14.k] f15
def k:KC_:=kk_ 15 H Kx func15
end F15
theorem Ak6:ConOk Tryz.prog gl 19 Qm:=Ak5 ent19
namespace F6
abbrev R_:=Bool
def H:=hd_ [Ss] [Sz] (.q (.q (.q (.q (.q (.q (.q (.q (.q (.cut [0,3,4,6,7,8] [] .d .d)))))))))) [F12.k,F13.k,F15.k,⟨(19,Qm),Ak6⟩] f6
def x2(g:LB)(h:Bool)(b:List LB)(f k:LB):Option R_:=H.e P_ [r,r,r,r,r,r,r,r,r,r] ⟨[(0,vs g),(3,vt h),(4,.own 0),(6,vi (Aa b)),(7,vs f),(8,vs k)],[.arr 9 .str b],[]⟩
theorem e2:x2=Ry:=F2
def k:KC_:=kk_ 6 H Je func6 (λx=>Eq.trans (b:=Lc x2 x) F2 (by simp only[e2]<;>rfl))
end F6
end
end Go.Proofs.YtniihmolajmfcaaGreatDoor
