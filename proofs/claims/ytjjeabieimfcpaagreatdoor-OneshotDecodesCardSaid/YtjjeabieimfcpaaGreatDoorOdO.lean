/- A part of a proof (see the text that ends in Proof). No conditions. -/
import Derived.Test.YtjjeabieimfcpaaGreatDoorOdHA
set_option linter.unusedVariables false
set_option linter.unusedSimpArgs false
set_option maxRecDepth 10000
namespace Go.Proofs.YtjjeabieimfcpaaGreatDoor
open Go Go.Lv Go.Pl Go.Rx Go.Rx.PS
noncomputable section
def g0:List Value:=[.int .i64 2,.int .i64 2,.int .i64 2,.int .i64 4,.int .i64 4]
def g1:List Value:=[.bool true,.int .i64 0]
def g2:List Value:=[.int .i64 2,.int .i64 2,.int .i64 4,.int .i64 4,.int .i64 2,.int .i64 2,.int .i64 2,.int .i64 2,.int .i64 4]
def g3:List Value:=[.int .u8 1,.int .u8 0,.int .u8 0,.int .u8 0,.int .u8 0,.int .u8 0,.int .u8 16,.int .u8 0,.int .u8 128,.int .u8 0,.int .u8 0,.int .u8 170,.int .u8 0,.int .u8 56,.int .u8 155,.int .u8 113]
def g4:List Value:=[.bool false,.int .i64 0]
def g6:List Value:=[.int .u8 0,.int .u8 1,.int .u8 56,.int .u8 2,.int .u8 57,.int .u8 49,.int .u8 28,.int .u8 3,.int .u8 61,.int .u8 58,.int .u8 42,.int .u8 50,.int .u8 38,.int .u8 29,.int .u8 17,.int .u8 4,.int .u8 62,.int .u8 47,.int .u8 59,.int .u8 36,.int .u8 45,.int .u8 43,.int .u8 51,.int .u8 22,.int .u8 53,.int .u8 39,.int .u8 33,.int .u8 30,.int .u8 24,.int .u8 18,.int .u8 12,.int .u8 5,.int .u8 63,.int .u8 55,.int .u8 48,.int .u8 27,.int .u8 60,.int .u8 41,.int .u8 37,.int .u8 16,.int .u8 46,.int .u8 35,.int .u8 44,.int .u8 21,.int .u8 52,.int .u8 32,.int .u8 23,.int .u8 11,.int .u8 54,.int .u8 26,.int .u8 40,.int .u8 15,.int .u8 34,.int .u8 20,.int .u8 31,.int .u8 10,.int .u8 25,.int .u8 14,.int .u8 19,.int .u8 9,.int .u8 13,.int .u8 8,.int .u8 7,.int .u8 6]
def gl:List (Nat×List Value):=[(0,g0),(1,g1),(2,g2),(3,g3),(4,g4),(6,g6)]
theorem mixed:Tryz.prog.follows .mixedOrders=true:=by kernel_rfl
noncomputable abbrev P_:=Tryz.prog
theorem cr(H:Hd){f:Nat}{F:SJ (EP H.p)->Option (SJ (EP H.r))}(hf:P_.funcs[f]? =some H.f)(hT:fX P_ H.T)(hA:∀p∈H.s,Ent P_ p.1)(h:∀x,H.u P_ x=F x)(hb:okH H=true:=by kernel_rfl):ConOk P_ H.T.gl f ⟨H.p,H.r,F⟩:=Hd.con mixed H hf hT hA hb h
theorem co(H:Hd){f:Nat}{F:SJ (EP H.p)->Option (SJ (EP H.r))}(hf:P_.funcs[f]? =some H.f)(hT:fX P_ H.T)(h:∀x,H.u P_ x=F x)(hb:(H.s.isEmpty&&okH H)=true:=by kernel_rfl):ConOk P_ H.T.gl f ⟨H.p,H.r,F⟩:=Hd.Av5 mixed H hf hT hb h
theorem ent49:Ent Tryz.prog 49:=Ent.mk Tryz.func49 (by kernel_rfl) rfl
theorem ent85:Ent Tryz.prog 85:=Ent.mk Tryz.func85 (by kernel_rfl) rfl
theorem ent86:Ent Tryz.prog 86:=Ent.mk Tryz.func86 (by kernel_rfl) rfl
theorem ent96:Ent Tryz.prog 96:=Ent.mk Tryz.func96 (by kernel_rfl) rfl
theorem ent117:Ent Tryz.prog 117:=Ent.mk Tryz.func117 (by kernel_rfl) rfl
theorem ent147:Ent Tryz.prog 147:=Ent.mk Tryz.func147 (by kernel_rfl) rfl
theorem ent238:Ent Tryz.prog 238:=Ent.mk Tryz.func238 (by kernel_rfl) rfl
theorem ent239:Ent Tryz.prog 239:=Ent.mk Tryz.func239 (by kernel_rfl) rfl
theorem ent240:Ent Tryz.prog 240:=Ent.mk Tryz.func240 (by kernel_rfl) rfl
theorem ent261:Ent Tryz.prog 261:=Ent.mk Tryz.func261 (by kernel_rfl) rfl
theorem ent275:Ent Tryz.prog 275:=Ent.mk Tryz.func275 (by kernel_rfl) rfl
theorem ent277:Ent Tryz.prog 277:=Ent.mk Tryz.func277 (by kernel_rfl) rfl
theorem ent282:Ent Tryz.prog 282:=Ent.mk Tryz.func282 (by kernel_rfl) rfl
theorem ent283:Ent Tryz.prog 283:=Ent.mk Tryz.func283 (by kernel_rfl) rfl
theorem ent284:Ent Tryz.prog 284:=Ent.mk Tryz.func284 (by kernel_rfl) rfl
theorem ent292:Ent Tryz.prog 292:=Ent.mk Tryz.func292 (by kernel_rfl) rfl
theorem ent325:Ent Tryz.prog 325:=Ent.mk Tryz.func325 (by kernel_rfl) rfl
theorem ent335:Ent Tryz.prog 335:=Ent.mk Tryz.func335 (by kernel_rfl) rfl
theorem ent337:Ent Tryz.prog 337:=Ent.mk Tryz.func337 (by kernel_rfl) rfl
theorem ent340:Ent Tryz.prog 340:=Ent.mk Tryz.func340 (by kernel_rfl) rfl
theorem ent364:Ent Tryz.prog 364:=Ent.mk Tryz.func364 (by kernel_rfl) rfl
abbrev u2{A B R:Type}(f:A->B->R)(x:A×B):=f x.1 x.2
abbrev u3{A B C R:Type}(f:A->B->C->R):=u2 λa=>u2 (f a)
abbrev u4{A B C D R:Type}(f:A->B->C->D->R):=u2 λa=>u3 (f a)
abbrev u5{A B C D E R:Type}(f:A->B->C->D->E->R):=u2 λa=>u4 (f a)
abbrev u6{A B C D E F R:Type}(f:A->B->C->D->E->F->R):=u2 λa=>u5 (f a)
abbrev u7{A B C D E F G R:Type}(f:A->B->C->D->E->F->G->R):=u2 λa=>u6 (f a)
abbrev u8{A B C D E F G H R:Type}(f:A->B->C->D->E->F->G->H->R):=u2 λa=>u7 (f a)
abbrev u9{A B C D E F G H I R:Type}(f:A->B->C->D->E->F->G->H->I->R):=u2 λa=>u8 (f a)
abbrev u10{A B C D E F G H I J R:Type}(f:A->B->C->D->E->F->G->H->I->J->R):=u2 λa=>u9 (f a)
abbrev u11{A B C D E F G H I J K R:Type}(f:A->B->C->D->E->F->G->H->I->J->K->R):=u2 λa=>u10 (f a)
abbrev vQ{A B C D E F G H I J K L R:Type}(f:A->B->C->D->E->F->G->H->I->J->K->L->R):=u2 λa=>u11 (f a)
abbrev u13{A B C D E F G H I J K L M R:Type}(f:A->B->C->D->E->F->G->H->I->J->K->L->M->R):=u2 λa=>vQ (f a)
open Go.Proofs.Tryz
namespace F30
def H:Hd:=⟨[Sb],[Sz],.d,⟨[],gl,false⟩,[],f30⟩
def F:=MA
theorem rn x:H.u P_ x=F x:=by kernel_rfl
def c:Con:=⟨H.p,H.r,F⟩
theorem ok:ConOk P_ gl 30 c:=co H func30 .nil rn
end F30
namespace F77
def H:Hd:=⟨[Ss],[.agg [Ss,Ob 5,.agg [Si,Si,Si,Si,Si],Ol 3,Si,Ob 5,Sz,Si],Si],.d,⟨[],gl,false⟩,[],f77⟩
def F:=RR
theorem rn x:H.u P_ x=F x:=by kernel_rfl
def c:Con:=⟨H.p,H.r,F⟩
theorem ok:ConOk P_ gl 77 c:=co H func77 .nil rn
end F77
namespace F58
def SQ(a:LB):Option (LB):=
wJ a (
some ([]:LB)) (
(Cz ([]:LB) a).bind λb=>
some b)
theorem oS: @SQ= @Nn:=by
  unfold SQ Nn
  repeat (refine funext λ_=>?_)
  repeat' first
    |with_reducible rfl
    |with_reducible refine Gn ?_ ?_
    |with_reducible refine Gi ?_ ?_ ?_
    |with_reducible refine Gp ?_ ?_ ?_ ?_
    |((with_reducible refine Km ?_ ?_);focus (intro h;first|(subst h;rfl)|(simp only[h];rfl)|(simp[Cz,Ac,h];done)))
    |with_reducible refine Kk λx=>?_
    |with_reducible refine Pr (λ_=>?_) (λ_=>?_)
    |(refine Du (λh=>by simp only[h,Kl,Cy,Cu,ite_self]) (λx h=>?_);(try simp only[h,Cy]))
    |(refine Et (λh=>?_) (λh=>?_)<;>simp only[h,if_true,if_false,Bool.false_eq_true])
def H:Hd:=⟨[Sb],[Ob 5],.d,⟨[],gl,false⟩,[],f58⟩
def F:=Nn
theorem rn x:H.u P_ x=F x:=Eq.trans (b:=SQ x) (by kernel_rfl) (by rw[oS];rfl)
def c:Con:=⟨H.p,H.r,F⟩
theorem ok:ConOk P_ gl 58 c:=co H func58 .nil rn
end F58
namespace F242
def Uq(a:LI):Option (LI):=
wJ a (
some ([]:LI)) (
(Cz ([]:LI) a).bind λb=>
some b)
theorem UN: @Uq= @Hl:=by
  unfold Uq Hl
  repeat (refine funext λ_=>?_)
  repeat' first
    |with_reducible rfl
    |with_reducible refine Gn ?_ ?_
    |with_reducible refine Gi ?_ ?_ ?_
    |with_reducible refine Gp ?_ ?_ ?_ ?_
    |((with_reducible refine Km ?_ ?_);focus (intro h;first|(subst h;rfl)|(simp only[h];rfl)|(simp[Cz,Ac,h];done)))
    |with_reducible refine Kk λx=>?_
    |with_reducible refine Pr (λ_=>?_) (λ_=>?_)
    |(refine Du (λh=>by simp only[h,Kl,Cy,Cu,ite_self]) (λx h=>?_);(try simp only[h,Cy]))
    |(refine Et (λh=>?_) (λh=>?_)<;>simp only[h,if_true,if_false,Bool.false_eq_true])
def H:Hd:=⟨[Sl],[Ol 3],.d,⟨[],gl,false⟩,[],f242⟩
def F:=Hl
theorem rn x:H.u P_ x=F x:=Eq.trans (b:=Uq x) (by kernel_rfl) (by rw[UN];rfl)
def c:Con:=⟨H.p,H.r,F⟩
theorem ok:ConOk P_ gl 242 c:=co H func242 .nil rn
end F242
namespace F148
def H:Hd:=⟨[.agg [Ss,Sb,.agg [Si,Si,Si,Si,Si],Sl,Si,Sb,Sz,Si]],[.agg [Ss,Ob 5,.agg [Si,Si,Si,Si,Si],Ol 3,Si,Ob 5,Sz,Si]],.d,⟨[(58,F58.c),(242,F242.c)],gl,false⟩,[],f148⟩
def F:=vQ El
theorem rn x:H.u P_ x=F x:=by kernel_rfl
def c:Con:=⟨H.p,H.r,F⟩
theorem ok:ConOk P_ gl 148 c:=co H func148 (.cons F58.ok (.cons F242.ok .nil)) rn
end F148
namespace F111
abbrev R_:=Bool
def H:Hd:=⟨[.agg [Si,Si,Si,Si,Si]],[Sz],(.seq .d (.cut [1] [] .d .d)),⟨[],gl,false⟩,[],f111⟩
def x2(b f a g h:Int):Option R_:=H.e P_ [r,r] ⟨[(1,.ptr 0 [])],[.box 33 (.agg [vi b,vi f,vi a,vi g,vi h])],[]⟩
theorem e2:x2=Qf:=by kernel_rfl
def F:=u5 Ud
theorem rn x:H.u P_ x=F x:=Eq.trans (b:=u5 (EE x2) x) (by kernel_rfl) (by simp only[e2]<;>rfl)
def c:Con:=⟨H.p,H.r,F⟩
theorem ok:ConOk P_ gl 111 c:=co H func111 .nil rn
end F111
namespace F120
def H:Hd:=⟨[Si],[Si,Si],.d,⟨[],gl,false⟩,[],f120⟩
def F:=Xe
theorem rn x:H.u P_ x=F x:=by kernel_rfl
def c:Con:=⟨H.p,H.r,F⟩
theorem ok:ConOk P_ gl 120 c:=co H func120 .nil rn
end F120
namespace F119
def H:Hd:=⟨[Si,Si],[Si,Si],.d,⟨[(120,F120.c)],gl,false⟩,[],f119⟩
def F:=u2 Kt
theorem rn x:H.u P_ x=F x:=by kernel_rfl
def c:Con:=⟨H.p,H.r,F⟩
theorem ok:ConOk P_ gl 119 c:=co H func119 (.cons F120.ok .nil) rn
end F119
namespace F112
def H:Hd:=⟨[.agg [Si,Si,Si,Si,Si]],[Sz],.d,⟨[(119,F119.c)],gl,false⟩,[],f112⟩
def F:=u5 RX
theorem rn x:H.u P_ x=F x:=by kernel_rfl
def c:Con:=⟨H.p,H.r,F⟩
theorem ok:ConOk P_ gl 112 c:=co H func112 (.cons F119.ok .nil) rn
end F112
namespace F102
def H:Hd:=⟨[.agg [Si,Si,Si,Si,Si]],[Si],.d,⟨[(111,F111.c),(112,F112.c)],gl,false⟩,[],f102⟩
def F:=u5 DY
theorem rn x:H.u P_ x=F x:=by kernel_rfl
def c:Con:=⟨H.p,H.r,F⟩
theorem ok:ConOk P_ gl 102 c:=co H func102 (.cons F111.ok (.cons F112.ok .nil)) rn
end F102
namespace F339
def H:Hd:=⟨[Sq,Sq],[Sq,Sq],.d,⟨[],gl,false⟩,[],f339⟩
def F:=u2 SX
theorem rn x:H.u P_ x=F x:=by kernel_rfl
def c:Con:=⟨H.p,H.r,F⟩
theorem ok:ConOk P_ gl 339 c:=co H func339 .nil rn
end F339
namespace F280
def H:Hd:=⟨[Sq,Sq],[Sq,Sq],.d,⟨[(339,F339.c)],gl,false⟩,[],f280⟩
def F:=u2 QN
theorem rn x:H.u P_ x=F x:=by kernel_rfl
def c:Con:=⟨H.p,H.r,F⟩
theorem ok:ConOk P_ gl 280 c:=co H func280 (.cons F339.ok .nil) rn
end F280
namespace F193
def Sf(j10:LI->Option (LI))(bk8:Int->LI->Option (LI))(b:Int)(a:LI):Option (LI):=
if(Dg b (Ac a))then
both (
(pB (Ac a) b (Ac a)).bind λ_=>
(pB (Ac a) 0 b).bind λ_=>
bk8 (Af b (XP ((Ac a)-b) (cC a 0 (b-(0:Int))).length)) (Zf a b ((Ac a)-b) (cC a 0 (b-(0:Int))))) [
(pB (Ac a) 0 b).bind λ_=>
(pB (Ac a) b (Ac a)).bind λ_=>
bk8 (Af b (XP ((Ac a)-b) (cC a 0 (b-(0:Int))).length)) (Zf a b ((Ac a)-b) (cC a 0 (b-(0:Int))))]
else
j10 a
theorem SO: @Sf= @Jc:=by
  unfold Sf Jc
  repeat (refine funext λ_=>?_)
  repeat' first
    |with_reducible rfl
    |with_reducible refine Gn ?_ ?_
    |with_reducible refine Gi ?_ ?_ ?_
    |with_reducible refine Gp ?_ ?_ ?_ ?_
    |((with_reducible refine Km ?_ ?_);focus (intro h;first|(subst h;rfl)|(simp only[h];rfl)|(simp[Cz,Ac,h];done)))
    |with_reducible refine Kk λx=>?_
    |with_reducible refine Pr (λ_=>?_) (λ_=>?_)
    |(refine Du (λh=>by simp only[h,Kl,Cy,Cu,ite_self]) (λx h=>?_);(try simp only[h,Cy]))
    |(refine Et (λh=>?_) (λh=>?_)<;>simp only[h,if_true,if_false,Bool.false_eq_true])
abbrev R_:=LI
def H:Hd:=⟨[Sl,Si],[Ol 3],(.seq .d (.cut [0,1] [] .d (.seq .d (.cut [0,6] [] .d (.seq .d (.seq .d (.cut [7] [] (.blk (.loop [7,8] [] (.seq .d (.blk (.mode false))))) .d))))))),⟨[(280,F280.c)],gl,true⟩,[],f193⟩
def t8(b:Int)(a:LI):S:=⟨[(7,.own 0),(8,vi b)],[Ai 3 a],[]⟩
def z8:Nat->S->Option R_:=H.i P_ [r,r,r,r,r,r,l,d]
def x10(a:LI):Option R_:=H.e P_ [r,r,r,r,r,r,r] ⟨[(7,.own 0)],[Ai 3 a],[]⟩
def x8(b:Int)(a:LI):Option R_:=H.e P_ [r,r,r,r,r,r,l,d] (t8 b a)
def x7(f:LI)(g:UInt64):Option R_:=H.e P_ [r,r,r,r] ⟨[(0,vl f),(6,vq g)],[],[]⟩
def x6(f:LI)(h:Int):Option R_:=H.e P_ [r,r] ⟨[(0,vl f),(1,vi h)],[],[]⟩
theorem e10:x10=Mf:=by kernel_rfl
theorem i8:∀(q:Nat) (b:Int) (a:LI),z8 q (t8 b a)=Ga q b a:=
 ind (λ_ _=>by kernel_rfl) λq ih b a=>Eq.trans (b:=Sf x10 (λb a=>(z8 q) (t8 b a)) b a) (by kernel_rfl) (by rw[SO];simp only[e10,ih]<;>rfl)
theorem e8:x8=Ur:=by funext b a;exact Eq.trans (by kernel_rfl) ((i8 Cl b a).trans (by rw[Ar];rfl))
theorem e7:x7=Um:=Eq.trans (b:=Us x8) (by kernel_rfl) (by simp only[e8]<;>rfl)
theorem e6:x6=Ut:=Eq.trans (b:=Ug x7) (by kernel_rfl) (by simp only[e7]<;>rfl)
def F:=u2 Rr
theorem rn x:H.u P_ x=F x:=Eq.trans (b:=u2 (Up x6) x) (by kernel_rfl) (by simp only[e6]<;>rfl)
def c:Con:=⟨H.p,H.r,F⟩
theorem ok:ConOk P_ gl 193 c:=co H func193 (.cons F280.ok .nil) rn
end F193
namespace F281
abbrev R_:=LI
def H:Hd:=⟨[.lf (.list (.list (.int .i64))) none],[Ol 3],(.seq .d (.seq .d (.cut [0,3] [] (.seq .d (.blk (.loop [0,3,9,10,11] [] .d))) (.cut [0,6] [⟨6,[],.own 3 (.int .i64)⟩] (.keep [0,3,6,23,24] true) (.cut [6] [] (.seq .d (.blk (.loop [6,25,26,27] [] .d))) .d))))),⟨[],gl,true⟩,[(340,(.seq .d (.cut [0,1] [] .d .d)))],f281⟩
def t14(a:List LI)(g:Int)(f:LI):S:=⟨[(6,.own 0),(25,.val (.list (.list (.int .i64))) a),(26,vi (Ac a)),(27,vi g)],[Ai 3 f],[]⟩
def z14:Nat->S->Option R_:=H.i P_ [r,r,r,r,l,r,d]
def t9(a:List LI)(b h:Int):S:=⟨[(0,.val (.list (.list (.int .i64))) a),(3,vi b),(9,.val (.list (.list (.int .i64))) a),(10,vi (Ac a)),(11,vi h)],[],[]⟩
def z9:Nat->S->Option R_:=H.i P_ [r,r,l,r,d]
def x16(f:LI):Option R_:=H.e P_ [r,r,r,r,r] ⟨[(6,.own 0)],[Ai 3 f],[]⟩
def x14(a:List LI)(g:Int)(f:LI):Option R_:=H.e P_ [r,r,r,r,l,r,d] (t14 a g f)
def x13(a:List LI)(k:LI):Option R_:=H.e P_ [r,r,r,r] ⟨[(0,.val (.list (.list (.int .i64))) a),(6,.own 0)],[Ai 3 k],[]⟩
def x12(b:Int)(a:List LI):Option R_:=H.e P_ [r,r,r,l,(call 1 340),r,r] ⟨[(0,.nils),(1,vi b)],[],[[(0,.val (.list (.list (.int .i64))) a),(3,vi b),(23,vi b)]]⟩
def x11(a:List LI)(b:Int):Option R_:=H.e P_ [r,r,r] ⟨[(0,.val (.list (.list (.int .i64))) a),(3,vi b)],[],[]⟩
def x9(a:List LI)(b h:Int):Option R_:=H.e P_ [r,r,l,r,d] (t9 a b h)
theorem e16:x16=FF:=by kernel_rfl
theorem i14(a:List LI):∀(q:Nat) (g:Int) (f:LI),z14 q (t14 a g f)=Fq a q g f:=
 ind (λ_ _=>by kernel_rfl) λq ih g f=>Eq.trans (b:=Hy x16 (λg f=>(z14 q) (t14 a g f)) a g f) (by kernel_rfl) (by simp only[e16,ih]<;>rfl)
theorem e14:x14=Sd:=by funext a g f;exact Eq.trans (by kernel_rfl) ((i14 a Cl g f).trans (by rw[Ar];rfl))
theorem e13:x13=Mh:=Eq.trans (b:=Rw x14) (by kernel_rfl) (by simp only[e14]<;>rfl)
theorem e12:x12=Sa:=Eq.trans (b:=Ry x13) (by kernel_rfl) (by simp only[e13]<;>rfl)
theorem e11:x11=Rt:=Eq.trans (b:=Se x12) (by kernel_rfl) (by simp only[e12]<;>rfl)
theorem i9(a:List LI):∀(q:Nat) (b h:Int),z9 q (t9 a b h)=Fz a q b h:=
 ind (λ_ _=>by kernel_rfl) λq ih b h=>Eq.trans (b:=Jb x11 (λb h=>(z9 q) (t9 a b h)) a b h) (by kernel_rfl) (by simp only[e11,ih]<;>rfl)
theorem e9:x9=Uh:=by funext a b h;exact Eq.trans (by kernel_rfl) ((i9 a Cl b h).trans (by rw[Ar];rfl))
def F:=Rc
theorem rn x:H.u P_ x=F x:=Eq.trans (b:=Uo x9 x) (by kernel_rfl) (by simp only[e9]<;>rfl)
def c:Con:=⟨H.p,H.r,F⟩
theorem ok:ConOk P_ gl 281 c:=cr H func281 .nil (Mr.cons ent340 Mr.nil) rn
end F281
namespace F194
def H:Hd:=⟨[Sl,Sl],[Ol 3],.d,⟨[(281,F281.c)],gl,false⟩,[],f194⟩
def F:=u2 WV
theorem rn x:H.u P_ x=F x:=by kernel_rfl
def c:Con:=⟨H.p,H.r,F⟩
theorem ok:ConOk P_ gl 194 c:=co H func194 (.cons F281.ok .nil) rn
end F194
namespace F114
def H:Hd:=⟨[Si,Si],[Ol 3,Si],.d,⟨[(119,F119.c),(120,F120.c),(193,F193.c),(194,F194.c)],gl,false⟩,[],f114⟩
def F:=u2 YX
theorem rn x:H.u P_ x=F x:=by kernel_rfl
def c:Con:=⟨H.p,H.r,F⟩
theorem ok:ConOk P_ gl 114 c:=co H func114 (.cons F119.ok (.cons F120.ok (.cons F193.ok (.cons F194.ok .nil)))) rn
end F114
namespace F52
def H:Hd:=⟨[.agg [Si,Si,Si,Si,Si]],[Ol 3,Si],.d,⟨[(102,F102.c),(114,F114.c)],gl,false⟩,[],f52⟩
def F:=u5 Dy
theorem rn x:H.u P_ x=F x:=by kernel_rfl
def c:Con:=⟨H.p,H.r,F⟩
theorem ok:ConOk P_ gl 52 c:=co H func52 (.cons F102.ok (.cons F114.ok .nil)) rn
end F52
namespace F313
def H:Hd:=⟨[.agg [Si,Si,Si,Si,Si],Ss],[Si],.d,⟨[],gl,false⟩,[],f313⟩
def F:=u6 Qq
theorem rn x:H.u P_ x=F x:=by kernel_rfl
def c:Con:=⟨H.p,H.r,F⟩
theorem ok:ConOk P_ gl 313 c:=co H func313 .nil rn
end F313
namespace F106
abbrev R_:=Int
def H:Hd:=⟨[Sl],[Si],(.seq .d (.seq .d (.seq .d (.cut [] [] (.seq .d (.blk (.loop [3,14,15,16] [] .d))) .d)))),⟨[],gl,false⟩,[],f106⟩
def t4(a:LI)(f b:Int):S:=⟨[(3,vi f),(14,vl a),(15,vi (Ac a)),(16,vi b)],[],[]⟩
def z4:Nat->S->Option R_:=H.i P_ [r,r,r,l,r,d]
def x6:Option R_:=H.e P_ [r,r,r,r] ⟨[],[],[]⟩
def x4(a:LI)(f b:Int):Option R_:=H.e P_ [r,r,r,l,r,d] (t4 a f b)
theorem e6:x6=lG:=by kernel_rfl
theorem i4(a:LI):∀(q:Nat) (f b:Int),z4 q (t4 a f b)=Wi a q f b:=
 ind (λ_ _=>by kernel_rfl) λq ih f b=>Eq.trans (b:=MQ x6 (λf b=>(z4 q) (t4 a f b)) a f b) (by kernel_rfl) (by simp only[e6,ih]<;>rfl)
theorem e4:x4=XB:=by funext a f b;exact Eq.trans (by kernel_rfl) ((i4 a Cl f b).trans (by rw[Ar];rfl))
def F:=Xc
theorem rn x:H.u P_ x=F x:=Eq.trans (b:=LW x4 x) (by kernel_rfl) (by simp only[e4]<;>rfl)
def c:Con:=⟨H.p,H.r,F⟩
theorem ok:ConOk P_ gl 106 c:=co H func106 .nil rn
end F106
namespace F310
abbrev R_:=Bool
def H:Hd:=⟨[.agg [Ss,Sb,.agg [Si,Si,Si,Si,Si],Sl,Si,Sb,Sz,Si]],[Sz],(.seq .d (.seq .d (.seq .d (.cut [1,3] [] .d (.seq .d (.seq .d (.seq .d (.cut [1,5] [] (.seq .d (.blk (.loop [1,5,83,84,85] [] .d))) .d)))))))),⟨[(52,F52.c),(106,F106.c),(313,F313.c)],gl,false⟩,[],f310⟩
def t6(y:LI)(o p:LB)(h b f k m:Int)(g:LI)(a:Int)(n:LB)(u:Bool)(v w aa:Int):S:=⟨[(1,.ptr 0 []),(5,vi w),(83,vl y),(84,vi (Ac y)),(85,vi aa)],[.box 124 (.agg [vs o,vb p,.agg [vi h,vi b,vi f,vi k,vi m],vl g,vi a,vb n,vt u,vi v])],[]⟩
def z6:Nat->S->Option R_:=H.i P_ [r,r,r,r,r,r,r,l,r,d]
def x8(w:Int)(o p:LB)(h b f k m:Int)(g:LI)(a:Int)(n:LB)(u:Bool)(v:Int):Option R_:=H.e P_ [r,r,r,r,r,r,r,r] ⟨[(1,.ptr 0 []),(5,vi w)],[.box 124 (.agg [vs o,vb p,.agg [vi h,vi b,vi f,vi k,vi m],vl g,vi a,vb n,vt u,vi v])],[]⟩
def x6(y:LI)(o p:LB)(h b f k m:Int)(g:LI)(a:Int)(n:LB)(u:Bool)(v w aa:Int):Option R_:=H.e P_ [r,r,r,r,r,r,r,l,r,d] (t6 y o p h b f k m g a n u v w aa)
def x5(o p:LB)(h b f k m:Int)(g:LI)(a:Int)(n:LB)(u:Bool)(v:Int)(ab:LI):Option R_:=H.e P_ [r,r,r,r] ⟨[(1,.ptr 0 []),(3,.own 1)],[.box 124 (.agg [vs o,vb p,.agg [vi h,vi b,vi f,vi k,vi m],vl g,vi a,vb n,vt u,vi v]),Ai 3 ab],[]⟩
theorem e8:x8=TA:=by kernel_rfl
theorem i6(y:LI)(o p:LB)(h b f k m:Int)(g:LI)(a:Int)(n:LB)(u:Bool)(v:Int):∀(q:Nat) (w aa:Int),z6 q (t6 y o p h b f k m g a n u v w aa)=Sj y o p h b f k m g a n u v q w aa:=
 ind (λ_ _=>by kernel_rfl) λq ih w aa=>Eq.trans (b:=GW x8 (λw aa=>(z6 q) (t6 y o p h b f k m g a n u v w aa)) y o p h b f k m g a n u v w aa) (by kernel_rfl) (by simp only[e8,ih]<;>rfl)
theorem e6:x6=TF:=by funext y o p h b f k m g a n u v w aa;exact Eq.trans (by kernel_rfl) ((i6 y o p h b f k m g a n u v Cl w aa).trans (by rw[Ar];rfl))
theorem e5:x5=SY:=Eq.trans (b:=SZ x6) (by kernel_rfl) (by simp only[e6]<;>rfl)
def F:=vQ ED
theorem rn x:H.u P_ x=F x:=Eq.trans (b:=vQ (TG x5) x) (by kernel_rfl) (by simp only[e5]<;>rfl)
def c:Con:=⟨H.p,H.r,F⟩
theorem ok:ConOk P_ gl 310 c:=co H func310 (.cons F52.ok (.cons F106.ok (.cons F313.ok .nil))) rn
end F310
namespace F113
def H:Hd:=⟨[Sb,Sb],[Sz],.d,⟨[],gl,false⟩,[],f113⟩
def F:=u2 Il
theorem rn x:H.u P_ x=F x:=by kernel_rfl
def c:Con:=⟨H.p,H.r,F⟩
theorem ok:ConOk P_ gl 113 c:=co H func113 .nil rn
end F113
namespace F196
def H:Hd:=⟨[Sb,Sb],[Sz],.d,⟨[(113,F113.c)],gl,false⟩,[],f196⟩
def F:=u2 On
theorem rn x:H.u P_ x=F x:=by kernel_rfl
def c:Con:=⟨H.p,H.r,F⟩
theorem ok:ConOk P_ gl 196 c:=co H func196 (.cons F113.ok .nil) rn
end F196
namespace F336
abbrev R_:=(Int×Int)
def H:Hd:=⟨[Sb],[Si,Si],(.seq .d (.seq .d (.seq .d (.cut [4] [] (.seq .d (.blk (.loop [4,10,11,12] [] .d))) .d)))),⟨[],gl,false⟩,[],f336⟩
def t4(a:LB)(b f:Int):S:=⟨[(4,vi b),(10,vb a),(11,vi (Ac a)),(12,vi f)],[],[]⟩
def z4:Nat->S->Option R_:=H.i P_ [r,r,r,l,r,d]
def x6(b:Int):Option R_:=H.e P_ [r,r,r,r] ⟨[(4,vi b)],[],[]⟩
def x4(a:LB)(b f:Int):Option R_:=H.e P_ [r,r,r,l,r,d] (t4 a b f)
theorem e6:x6=cK:=by kernel_rfl
theorem i4(a:LB):∀(q:Nat) (b f:Int),z4 q (t4 a b f)=Qd a q b f:=
 ind (λ_ _=>by kernel_rfl) λq ih b f=>Eq.trans (b:=EH x6 (λb f=>(z4 q) (t4 a b f)) a b f) (by kernel_rfl) (by simp only[e6,ih]<;>rfl)
theorem e4:x4=OJ:=by funext a b f;exact Eq.trans (by kernel_rfl) ((i4 a Cl b f).trans (by rw[Ar];rfl))
def F:=QE
theorem rn x:H.u P_ x=F x:=Eq.trans (b:=PN x4 x) (by kernel_rfl) (by simp only[e4]<;>rfl)
def c:Con:=⟨H.p,H.r,F⟩
theorem ok:ConOk P_ gl 336 c:=co H func336 .nil rn
end F336
namespace F278
def OW(j5:LB->UInt8->UInt8->Option (Int×Int))(a:LB):Option (Int×Int):=
(On a ([(73:UInt8),(68:UInt8),(51:UInt8)]:LB)).bind λn=>
if(!n)then
some (0,6)
else
if(Dg (Ac a) 10)then
some (0,24)
else
(Ao a 3).bind λf=>
(Ao a 5).bind λb=>
(λo:Option (Int×Int)=>
(λp:Option (Int×Int)=>
both (
both (
bo (
j5 a f b)) [
o,
o]) [
bo2 (
bo (
j5 a f b)),
p,
p]) (
both (
o) [
bo (
j5 a f b),
both (
bo (
j5 a f b)) [
j5 a f b]])) (
both (
j5 a f b) [
bo (
j5 a f b)])
theorem mL: @OW= @HA:=by
  unfold OW HA
  try simp only[NZ,Zd,AH]
  all_goals
    repeat (refine funext λ_=>?_)
    repeat' first
      |with_reducible rfl
      |with_reducible refine Gn ?_ ?_
      |with_reducible refine Gi ?_ ?_ ?_
      |with_reducible refine Gp ?_ ?_ ?_ ?_
      |((with_reducible refine Km ?_ ?_);focus (intro h;first|(subst h;rfl)|(simp only[h];rfl)|(simp[Cz,Ac,h];done)))
      |with_reducible refine Kk λx=>?_
      |with_reducible refine Pr (λ_=>?_) (λ_=>?_)
      |(refine Du (λh=>by simp only[h,Kl,Cy,Cu,ite_self]) (λx h=>?_);(try simp only[h,Cy]))
      |(refine Et (λh=>?_) (λh=>?_)<;>simp only[h,if_true,if_false,Bool.false_eq_true])
abbrev R_:=(Int×Int)
def H:Hd:=⟨[Sb],[Si,Si],(.seq .d (.seq .d (.seq .d (.cut [0,4,5] [] (.mode false) (.seq .d (.seq .d (.cut [0,5,6] [] (.cut [0,5,6,43] [] (.keep [0,5,6,7,8,31,32,33,34,35,36,37,38,39,40,41,42,43] true) .d) (.seq .d (.cut [0,5,6] [] .d .d))))))))),⟨[(113,F113.c),(196,F196.c),(336,F336.c)],gl,false⟩,[(337,.d)],f278⟩
def x8(a:LB)(b:UInt8)(h:Int):Option R_:=H.e P_ [r,r,r,r,r,r,r,r,r] ⟨[(0,vb a),(5,.ptr 0 []),(6,vi h)],[.box 5 (vc b)],[]⟩
def x7(a:LB)(g:Int)(b:UInt8):Option R_:=H.e P_ [r,r,r,r,r,r,r] ⟨[(0,vb a),(5,.ptr 0 []),(6,vi g)],[.box 5 (vc b)],[]⟩
def x6(a:LB)(g:Int)(b:UInt8)(m:Bool):Option R_:=H.e P_ [r,r,r,r,r,r,l,r] ⟨[(0,vb a),(5,.ptr 0 []),(6,vi g),(43,vt m)],[.box 5 (vc b)],[]⟩
def x5(a:LB)(f b:UInt8):Option R_:=H.e P_ [r,r,r,r] ⟨[(0,vb a),(4,.ptr 0 []),(5,.ptr 1 [])],[.box 5 (vc f),.box 5 (vc b)],[]⟩
theorem e8:x8=GZ:=by kernel_rfl
theorem e7:x7=HF:=Eq.trans (b:=SW x8) (by kernel_rfl) (by simp only[e8]<;>rfl)
theorem e6:x6=SM:=Eq.trans (b:=SL x7) (by kernel_rfl) (by simp only[e7]<;>rfl)
theorem e5:x5=SR:=Eq.trans (b:=TI x6) (by kernel_rfl) (by simp only[e6]<;>rfl)
def F:=UE
theorem rn x:H.u P_ x=F x:=Eq.trans (b:=OW x5 x) (by kernel_rfl) (by unfold F;rw[mL];simp only[e5]<;>rfl)
def c:Con:=⟨H.p,H.r,F⟩
theorem ok:ConOk P_ gl 278 c:=cr H func278 (.cons F113.ok (.cons F196.ok (.cons F336.ok .nil))) (Mr.cons ent337 Mr.nil) rn
end F278
namespace F192
abbrev R_:=(UInt64×Int)
def H:Hd:=⟨[Sb],[Sq,Si],(.seq .d (.seq .d (.seq .d (.cut [4] [] (.seq .d (.blk (.loop [4,15,16,17] [] .d))) .d)))),⟨[],gl,false⟩,[],f192⟩
def t4(a:LB)(b:UInt64)(f:Int):S:=⟨[(4,vq b),(15,vb a),(16,vi (Ac a)),(17,vi f)],[],[]⟩
def z4:Nat->S->Option R_:=H.i P_ [r,r,r,l,r,d]
def x6(b:UInt64):Option R_:=H.e P_ [r,r,r,r] ⟨[(4,vq b)],[],[]⟩
def x4(a:LB)(b:UInt64)(f:Int):Option R_:=H.e P_ [r,r,r,l,r,d] (t4 a b f)
theorem e6:x6=uA:=by kernel_rfl
theorem i4(a:LB):∀(q:Nat) (b:UInt64) (f:Int),z4 q (t4 a b f)=IE a q b f:=
 ind (λ_ _=>by kernel_rfl) λq ih b f=>Eq.trans (b:=ZG x6 (λb f=>(z4 q) (t4 a b f)) a b f) (by kernel_rfl) (by simp only[e6,ih]<;>rfl)
theorem e4:x4=kB:=by funext a b f;exact Eq.trans (by kernel_rfl) ((i4 a Cl b f).trans (by rw[Ar];rfl))
def F:=iR
theorem rn x:H.u P_ x=F x:=Eq.trans (b:=lC x4 x) (by kernel_rfl) (by simp only[e4]<;>rfl)
def c:Con:=⟨H.p,H.r,F⟩
theorem ok:ConOk P_ gl 192 c:=co H func192 .nil rn
end F192
namespace F110
def H:Hd:=⟨[Sb,Si,Si],[Sq,Si],.d,⟨[(192,F192.c)],gl,false⟩,[],f110⟩
def F:=u3 cI
theorem rn x:H.u P_ x=F x:=by kernel_rfl
def c:Con:=⟨H.p,H.r,F⟩
theorem ok:ConOk P_ gl 110 c:=co H func110 (.cons F192.ok .nil) rn
end F110
namespace F187
def H:Hd:=⟨[Sq,Si],[Sz],.d,⟨[],gl,false⟩,[],f187⟩
def F:=u2 wF
theorem rn x:H.u P_ x=F x:=by kernel_rfl
def c:Con:=⟨H.p,H.r,F⟩
theorem ok:ConOk P_ gl 187 c:=co H func187 .nil rn
end F187
namespace F103
abbrev R_:=(LB×Int)
def H:Hd:=⟨[Sq,Si],[Ob 5,Si],(.seq .d (.seq .d (.seq .d (.seq .d (.cut [6] [] (.seq .d (.blk (.loop [0,6,21,22] [] .d))) .d))))),⟨[(187,F187.c)],gl,false⟩,[],f103⟩
def t4(f:UInt64)(g:LB)(b:Int)(a:LB):S:=⟨[(0,vq f),(6,.own 0),(21,vi (Ac g)),(22,vi b)],[Ab 5 a],[]⟩
def z4:Nat->S->Option R_:=H.i P_ [r,r,r,r,l,r,d]
def x6(a:LB):Option R_:=H.e P_ [r,r,r,r,r] ⟨[(6,.own 0)],[Ab 5 a],[]⟩
def x4(f:UInt64)(g:LB)(b:Int)(a:LB):Option R_:=H.e P_ [r,r,r,r,l,r,d] (t4 f g b a)
theorem e6:x6=iD:=by kernel_rfl
theorem i4(f:UInt64)(g:LB):∀(q:Nat) (b:Int) (a:LB),z4 q (t4 f g b a)=IZ f g q b a:=
 ind (λ_ _=>by kernel_rfl) λq ih b a=>Eq.trans (b:=ZD x6 (λb a=>(z4 q) (t4 f g b a)) f g b a) (by kernel_rfl) (by simp only[e6,ih]<;>rfl)
theorem e4:x4=jW:=by funext f g b a;exact Eq.trans (by kernel_rfl) ((i4 f g Cl b a).trans (by rw[Ar];rfl))
def F:=u2 Yo
theorem rn x:H.u P_ x=F x:=Eq.trans (b:=u2 (jO x4) x) (by kernel_rfl) (by simp only[e4]<;>rfl)
def c:Con:=⟨H.p,H.r,F⟩
theorem ok:ConOk P_ gl 103 c:=co H func103 (.cons F187.ok .nil) rn
end F103
namespace F198
abbrev R_:=LB
def H:Hd:=⟨[Si,Si,Sq],[Ob 5],(.seq .d (.seq .d (.cut [7] [] (.seq .d (.blk (.loop [7,20,21,22] [] .d))) .d))),⟨[(103,F103.c)],gl,false⟩,[],f198⟩
def t4(a b:Int)(f:UInt64)(h:Int)(g:LB):S:=⟨[(7,.own 0),(20,.own 1),(21,vi (Ac ([(2000:UInt64),(Ad (Af a (32:Int)):UInt64),(Ad b:UInt64),f,(0:UInt64),(0:UInt64)]:LQ))),(22,vi h)],[Ab 5 g,.arr 158 (.int .u64) ([(2000:UInt64),(Ad (Af a (32:Int)):UInt64),(Ad b:UInt64),f,(0:UInt64),(0:UInt64)]:LQ)],[]⟩
def z4:Nat->S->Option R_:=H.i P_ [r,r,l,r,d]
def x6(g:LB):Option R_:=H.e P_ [r,r,r] ⟨[(7,.own 0)],[Ab 5 g],[]⟩
def x4(a b:Int)(f:UInt64)(h:Int)(g:LB):Option R_:=H.e P_ [r,r,l,r,d] (t4 a b f h g)
theorem e6:x6=oD:=by kernel_rfl
theorem i4(a b:Int)(f:UInt64):∀(q:Nat) (h:Int) (g:LB),z4 q (t4 a b f h g)=IC a b f q h g:=
 ind (λ_ _=>by kernel_rfl) λq ih h g=>Eq.trans (b:=dX x6 (λh g=>(z4 q) (t4 a b f h g)) a b f h g) (by kernel_rfl) (by simp only[e6,ih]<;>rfl)
theorem e4:x4=nY:=by funext a b f h g;exact Eq.trans (by kernel_rfl) ((i4 a b f Cl h g).trans (by rw[Ar];rfl))
def F:=u3 lP
theorem rn x:H.u P_ x=F x:=Eq.trans (b:=u3 (oP x4) x) (by kernel_rfl) (by simp only[e4]<;>rfl)
def c:Con:=⟨H.p,H.r,F⟩
theorem ok:ConOk P_ gl 198 c:=co H func198 (.cons F103.ok .nil) rn
end F198
namespace F197
def H:Hd:=⟨[Sb,Sq],[.agg [Si,Si],Sz],.d,⟨[(110,F110.c),(113,F113.c),(198,F198.c)],gl,false⟩,[],f197⟩
def F:=u2 UY
theorem rn x:H.u P_ x=F x:=by kernel_rfl
def c:Con:=⟨H.p,H.r,F⟩
theorem ok:ConOk P_ gl 197 c:=co H func197 (.cons F110.ok (.cons F113.ok (.cons F198.ok .nil))) rn
end F197
namespace F279
def H:Hd:=⟨[Sb],[Si,Si],.d,⟨[(113,F113.c),(196,F196.c),(197,F197.c),(198,F198.c)],gl,false⟩,[],f279⟩
def F:=lS
theorem rn x:H.u P_ x=F x:=by kernel_rfl
def c:Con:=⟨H.p,H.r,F⟩
theorem ok:ConOk P_ gl 279 c:=co H func279 (.cons F113.ok (.cons F196.ok (.cons F197.ok (.cons F198.ok .nil)))) rn
end F279
namespace F190
def H:Hd:=⟨[Sb],[Si,Si],.d,⟨[(278,F278.c),(279,F279.c)],gl,false⟩,[],f190⟩
def F:=CU
theorem rn x:H.u P_ x=F x:=by kernel_rfl
def c:Con:=⟨H.p,H.r,F⟩
theorem ok:ConOk P_ gl 190 c:=co H func190 (.cons F278.ok (.cons F279.ok .nil)) rn
end F190
theorem YB:ConOk Tryz.prog gl 49 GU:=zY ent49 F190.ok
namespace F241
def H:Hd:=⟨[Si],[.agg [Sz,Si]],.d,⟨[],gl,false⟩,[],f241⟩
def F:=Al
theorem rn x:H.u P_ x=F x:=by kernel_rfl
def c:Con:=⟨H.p,H.r,F⟩
theorem ok:ConOk P_ gl 241 c:=co H func241 .nil rn
end F241
namespace F191
def H:Hd:=⟨[Ss,Ss],[Sz],.d,⟨[],gl,false⟩,[],f191⟩
def F:=u2 Ht
theorem rn x:H.u P_ x=F x:=by kernel_rfl
def c:Con:=⟨H.p,H.r,F⟩
theorem ok:ConOk P_ gl 191 c:=co H func191 .nil rn
end F191
namespace F109
def H:Hd:=⟨[Ss,Ss],[Sz],.d,⟨[(191,F191.c)],gl,false⟩,[],f109⟩
def F:=u2 Ku
theorem rn x:H.u P_ x=F x:=by kernel_rfl
def c:Con:=⟨H.p,H.r,F⟩
theorem ok:ConOk P_ gl 109 c:=co H func109 (.cons F191.ok .nil) rn
end F109
namespace F312
abbrev R_:=Bool
def H:Hd:=⟨[Sb],[Sz],(.seq .d (.cut [] [] (.seq .d (.blk (.loop [0,5,6] [] .d))) .d)),⟨[(109,F109.c)],gl,false⟩,[],f312⟩
def t4(a:LB)(b:Int):S:=⟨[(0,vb a),(5,.val (.vec 2 .str) ([([73,68,51]:LB),([65,80,69,84,65,71,69,88]:LB)]:List LB)),(6,vi b)],[],[]⟩
def z4:Nat->S->Option R_:=H.i P_ [r,l,r,d]
def x6:Option R_:=H.e P_ [r,r] ⟨[],[],[]⟩
def x4(a:LB)(b:Int):Option R_:=H.e P_ [r,l,r,d] (t4 a b)
theorem e6:x6=fY:=by kernel_rfl
theorem i4(a:LB):∀(q:Nat) (b:Int),z4 q (t4 a b)=Lw a q b:=
 ind (λ_=>by kernel_rfl) λq ih b=>Eq.trans (b:=Yq x6 (λb=>(z4 q) (t4 a b)) a b) (by kernel_rfl) (by simp only[e6,ih]<;>rfl)
theorem e4:x4=SS:=by funext a b;exact Eq.trans (by kernel_rfl) ((i4 a Cl b).trans (by rw[Ar];rfl))
def F:=Ub
theorem rn x:H.u P_ x=F x:=Eq.trans (b:=TE x4 x) (by kernel_rfl) (by simp only[e4]<;>rfl)
def c:Con:=⟨H.p,H.r,F⟩
theorem ok:ConOk P_ gl 312 c:=co H func312 (.cons F109.ok .nil) rn
end F312
namespace F188
abbrev R_:=(UInt32×Int)
abbrev K_:=S->Option R_
def H:Hd:=⟨[Su,Sb],[Su,Si],(.seq .d (.seq .d (.cut [0,1,6] [] (.keep [0,1,6,12] true) (.cut [0] [] (.seq .d (.blk (.loop [0,6,13,14,15] [] .d))) .d)))),⟨[],gl,false⟩,[(277,(.seq .d (.seq .d (.cut [1] [] (.seq .d (.blk (.loop [1,5] [] (.seq .d (.seq .d (.cut [1,5] [] (.blk (.seq .d (.seq .d (.cut [1,2,3,5] [] (.seq .d (.blk (.loop [1,2,3,5,10] [] .d))) .d)))) .d)))))) .d))))],f188⟩
def t28(a:LB)(b:LU)(h:UInt32)(m:Int):S:=⟨[(0,vu h),(6,.ptr 0 []),(13,vb a),(14,vi (Ac a)),(15,vi m)],[.box 407 (.val (.vec 256 (.int .u32)) b)],[]⟩
def z28:Nat->S->Option R_:=H.i P_ [r,r,r,l,r,d]
def t21(f:UInt32)(a:LB)(g:Int)(b:LU)(k:UInt32)(n:Int):S:=⟨[(1,.ptr 0 []),(2,vi g),(3,vu k),(5,vi g),(10,vi n)],[.box 407 (.val (.vec 256 (.int .u32)) b)],[[(0,vu f),(1,vb a)]]⟩
def z21(Ck:K_):Nat->S->Option R_:=H.i P_ [r,r,l,(call 0 277),r,r,l,r,d,(lp Ck),r,r,l,d,r,r,l,r,d]
def t16(f:UInt32)(a:LB)(g:Int)(b:LU):S:=⟨[(1,.ptr 0 []),(5,vi g)],[.box 407 (.val (.vec 256 (.int .u32)) b)],[[(0,vu f),(1,vb a)]]⟩
def z16:Nat->S->Option R_:=H.i P_ [r,r,l,(call 0 277),r,r,l,r,d]
def x30(h:UInt32):Option R_:=H.e P_ [r,r,r,r] ⟨[(0,vu h)],[],[]⟩
def x28(a:LB)(b:LU)(h:UInt32)(m:Int):Option R_:=H.e P_ [r,r,r,l,r,d] (t28 a b h m)
def x27(f:UInt32)(a:LB)(b:LU):Option R_:=H.e P_ [r,r,r] ⟨[(0,vu f),(1,vb a),(6,.ptr 0 [])],[.box 407 (.val (.vec 256 (.int .u32)) b)],[]⟩
def x26(f:UInt32)(a:LB)(b:LU):Option R_:=H.e P_ [r,r,l,(call 0 277),r,r,r] ⟨[(1,.ptr 0 [])],[.box 407 (.val (.vec 256 (.int .u32)) b)],[[(0,vu f),(1,vb a)]]⟩
def x24(Ck:K_)(f:UInt32)(a:LB)(g:Int)(o:LU):Option R_:=H.e P_ [r,r,l,(call 0 277),r,r,l,r,d,(lp Ck),r,r,r] ⟨[(1,.ptr 0 []),(5,vi g)],[.box 407 (.val (.vec 256 (.int .u32)) o)],[[(0,vu f),(1,vb a)]]⟩
def x23(Ck:K_)(f:UInt32)(a:LB)(g:Int)(k:UInt32)(b:LU):Option R_:=H.e P_ [r,r,l,(call 0 277),r,r,l,r,d,(lp Ck),r,r,l,d,r,r,r] ⟨[(1,.ptr 0 []),(2,vi g),(3,vu k),(5,vi g)],[.box 407 (.val (.vec 256 (.int .u32)) b)],[[(0,vu f),(1,vb a)]]⟩
def x21(Ck:K_)(f:UInt32)(a:LB)(g:Int)(b:LU)(k:UInt32)(n:Int):Option R_:=H.e P_ [r,r,l,(call 0 277),r,r,l,r,d,(lp Ck),r,r,l,d,r,r,l,r,d] (t21 f a g b k n)
def x16(f:UInt32)(a:LB)(g:Int)(b:LU):Option R_:=H.e P_ [r,r,l,(call 0 277),r,r,l,r,d] (t16 f a g b)
theorem e30:x30=VV:=by kernel_rfl
theorem i28(a:LB)(b:LU):∀(q:Nat) (h:UInt32) (m:Int),z28 q (t28 a b h m)=Wh a b q h m:=
 ind (λ_ _=>by kernel_rfl) λq ih h m=>Eq.trans (b:=MC x30 (λh m=>(z28 q) (t28 a b h m)) a b h m) (by kernel_rfl) (by simp only[e30,ih]<;>rfl)
theorem e28:x28=WU:=by funext a b h m;exact Eq.trans (by kernel_rfl) ((i28 a b Cl h m).trans (by rw[Ar];rfl))
theorem e27:x27=VZ:=Eq.trans (b:=WI x28) (by kernel_rfl) (by simp only[e28]<;>rfl)
theorem e26:x26=KQ:=Eq.trans (b:=VX x27) (by kernel_rfl) (by simp only[e27]<;>rfl)
theorem e24(Ck:K_)(f:UInt32)(a:LB):x24 Ck f a=XY (λg b=>Ck (t16 f a g b)) f a:=by kernel_rfl
theorem e23(Ck:K_)(f:UInt32)(a:LB):x23 Ck f a=KO (λg b=>Ck (t16 f a g b)) f a:=Eq.trans (b:=WR (x24 Ck f a) f a) (by kernel_rfl) (by simp only[e24]<;>rfl)
theorem i21(Ck:K_)(f:UInt32)(a:LB)(g:Int)(b:LU):∀(q:Nat) (k:UInt32) (n:Int),z21 Ck q (t21 f a g b k n)=Vy (λg b=>Ck (t16 f a g b)) f a g b q k n:=
 ind (λ_ _=>by kernel_rfl) λq ih k n=>Eq.trans (b:=KE (x23 Ck f a) (λk n=>(z21 Ck q) (t21 f a g b k n)) f a g b k n) (by kernel_rfl) (by simp only[e23,ih]<;>rfl)
theorem e21(Ck:K_)(f:UInt32)(a:LB):x21 Ck f a=VJ (λg b=>Ck (t16 f a g b)) f a:=by funext g b k n;exact Eq.trans (by kernel_rfl) ((i21 Ck f a g b Cl k n).trans (by rw[Ar];rfl))
theorem i16(f:UInt32)(a:LB):∀(q:Nat) (g:Int) (b:LU),z16 q (t16 f a g b)=Qm f a q g b:=
 ind (λ_ _=>by kernel_rfl) λq ih g b=>Eq.trans (b:=ME (x21 (z16 q) f a) x26 f a g b) (by kernel_rfl) (by simp only[e21,e26,ih]<;>rfl)
theorem e16:x16=VR:=by funext f a g b;exact Eq.trans (by kernel_rfl) ((i16 f a Cl g b).trans (by rw[Ar];rfl))
def F:=u2 fJ
theorem rn x:H.u P_ x=F x:=Eq.trans (b:=u2 (aH x16) x) (by kernel_rfl) (by simp only[e16]<;>rfl)
def c:Con:=⟨H.p,H.r,F⟩
theorem ok:ConOk P_ gl 188 c:=cr H func188 .nil (Mr.cons ent277 Mr.nil) rn
end F188
namespace F104
def H:Hd:=⟨[Sb],[Su,Si],.d,⟨[(188,F188.c)],gl,false⟩,[],f104⟩
def F:=OR
theorem rn x:H.u P_ x=F x:=by kernel_rfl
def c:Con:=⟨H.p,H.r,F⟩
theorem ok:ConOk P_ gl 104 c:=co H func104 (.cons F188.ok .nil) rn
end F104
namespace F50
abbrev R_:=(Int×Int×Int×Int×Int×Int)
def H:Hd:=⟨[Sb],[.agg [Si,Si,Si,Si,Si],Si],(.seq .d (.seq .d (.seq .d (.seq .d (.seq .d (.seq .d (.seq .d (.cut [2,8] [] (.seq .d (.blk (.loop [0,2,8,9,44,45] [] .d))) .d)))))))),⟨[(104,F104.c),(109,F109.c),(110,F110.c),(111,F111.c),(112,F112.c)],gl,false⟩,[],f50⟩
def t4(b:LB)(g f:Int)(a:LI):S:=⟨[(0,vb b),(2,.ptr 0 []),(8,.ptr 1 []),(9,vi g),(44,.val (.vec 5 (.int .i64)) ([(2:Int),(2:Int),(2:Int),(4:Int),(4:Int)]:LI)),(45,vi f)],[.box 33 (.agg [vi 0,vi 0,vi 0,vi 0,vi 0]),.box 156 (.val (.vec 5 (.int .i64)) a)],[]⟩
def z4:Nat->S->Option R_:=H.i P_ [r,r,r,r,r,r,r,l,r,d]
def x6(a:LI):Option R_:=H.e P_ [r,r,r,r,r,r,r,r] ⟨[(2,.ptr 0 []),(8,.ptr 1 [])],[.box 33 (.agg [vi 0,vi 0,vi 0,vi 0,vi 0]),.box 156 (.val (.vec 5 (.int .i64)) a)],[]⟩
def x4(b:LB)(g f:Int)(a:LI):Option R_:=H.e P_ [r,r,r,r,r,r,r,l,r,d] (t4 b g f a)
theorem e6:x6=JY:=by kernel_rfl
theorem i4(b:LB):∀(q:Nat) (g f:Int) (a:LI),z4 q (t4 b g f a)=Ql b q g f a:=
 ind (λ_ _ _=>by kernel_rfl) λq ih g f a=>Eq.trans (b:=JZ x6 (λg f a=>(z4 q) (t4 b g f a)) b g f a) (by kernel_rfl) (by simp only[e6,ih]<;>rfl)
theorem e4:x4=KN:=by funext b g f a;exact Eq.trans (by kernel_rfl) ((i4 b Cl g f a).trans (by rw[Ar];rfl))
def F:=Ni
theorem rn x:H.u P_ x=F x:=Eq.trans (b:=XQ x4 x) (by kernel_rfl) (by simp only[e4]<;>rfl)
def c:Con:=⟨H.p,H.r,F⟩
theorem ok:ConOk P_ gl 50 c:=co H func50 (.cons F104.ok (.cons F109.ok (.cons F110.ok (.cons F111.ok (.cons F112.ok .nil))))) rn
end F50
namespace F199
abbrev R_:=(UInt64×Int)
abbrev K_:=S->Option R_
def H:Hd:=⟨[Sq,Sb],[Sq,Si],(.seq .d (.seq .d (.cut [4,5] [] (.keep [0,1,4,5,9,10,11,12] true) .d))),⟨[],gl,false⟩,[(282,(.seq .d (.cut [1] [] (.seq .d (.blk (.loop [0,1,9,10,11] [] .d))) .d))),(283,(.seq .d (.seq .d (.cut [1] [] (.seq .d (.blk (.loop [1,5] [] (.seq .d (.seq .d (.cut [1,5] [] (.blk (.seq .d (.seq .d (.cut [1,2,3,5] [] (.seq .d (.blk (.loop [1,2,3,5,11] [] .d))) .d)))) .d)))))) .d))))],f199⟩
def t27(a:LB)(b:UInt64)(f:LQ)(h:UInt64)(m:Int):S:=⟨[(0,.ptr 0 []),(1,vq h),(9,vb a),(10,vi (Ac a)),(11,vi m)],[.box 413 (.val (.vec 256 (.int .u64)) f)],[[(0,vq b),(1,vb a),(4,vq 0),(5,vi 0),(9,.ptr 0 []),(10,vq b),(11,vb a)]]⟩
def z27:Nat->S->Option R_:=H.i P_ [r,r,l,(call 3 282),r,l,r,d]
def t21(b:UInt64)(a:LB)(g:Int)(f:LQ)(k:UInt64)(n:Int):S:=⟨[(1,.ptr 0 []),(2,vi g),(3,vq k),(5,vi g),(11,vi n)],[.box 413 (.val (.vec 256 (.int .u64)) f)],[[(0,vq b),(1,vb a),(4,vq 0),(5,vi 0)]]⟩
def z21(Ck:K_):Nat->S->Option R_:=H.i P_ [r,r,l,(call 0 283),r,r,l,r,d,(lp Ck),r,r,l,d,r,r,l,r,d]
def t16(b:UInt64)(a:LB)(g:Int)(f:LQ):S:=⟨[(1,.ptr 0 []),(5,vi g)],[.box 413 (.val (.vec 256 (.int .u64)) f)],[[(0,vq b),(1,vb a),(4,vq 0),(5,vi 0)]]⟩
def z16:Nat->S->Option R_:=H.i P_ [r,r,l,(call 0 283),r,r,l,r,d]
def x30(h:UInt64):Option R_:=H.e P_ [r,r,r] ⟨[(4,vq h),(5,vi 0)],[],[]⟩
def x29(h b:UInt64)(a:LB)(f:LQ):Option R_:=H.e P_ [r,r,l,(call 3 282),r,r] ⟨[(1,vq h)],[.box 413 (.val (.vec 256 (.int .u64)) f)],[[(0,vq b),(1,vb a),(4,vq 0),(5,vi 0),(9,.ptr 0 []),(10,vq b),(11,vb a)]]⟩
def x27(a:LB)(b:UInt64)(f:LQ)(h:UInt64)(m:Int):Option R_:=H.e P_ [r,r,l,(call 3 282),r,l,r,d] (t27 a b f h m)
def x26(b:UInt64)(a:LB)(f:LQ):Option R_:=H.e P_ [r,r,l,(call 0 283),r,r,r] ⟨[(1,.ptr 0 [])],[.box 413 (.val (.vec 256 (.int .u64)) f)],[[(0,vq b),(1,vb a),(4,vq 0),(5,vi 0)]]⟩
def x24(Ck:K_)(b:UInt64)(a:LB)(g:Int)(o:LQ):Option R_:=H.e P_ [r,r,l,(call 0 283),r,r,l,r,d,(lp Ck),r,r,r] ⟨[(1,.ptr 0 []),(5,vi g)],[.box 413 (.val (.vec 256 (.int .u64)) o)],[[(0,vq b),(1,vb a),(4,vq 0),(5,vi 0)]]⟩
def x23(Ck:K_)(b:UInt64)(a:LB)(g:Int)(k:UInt64)(f:LQ):Option R_:=H.e P_ [r,r,l,(call 0 283),r,r,l,r,d,(lp Ck),r,r,l,d,r,r,r] ⟨[(1,.ptr 0 []),(2,vi g),(3,vq k),(5,vi g)],[.box 413 (.val (.vec 256 (.int .u64)) f)],[[(0,vq b),(1,vb a),(4,vq 0),(5,vi 0)]]⟩
def x21(Ck:K_)(b:UInt64)(a:LB)(g:Int)(f:LQ)(k:UInt64)(n:Int):Option R_:=H.e P_ [r,r,l,(call 0 283),r,r,l,r,d,(lp Ck),r,r,l,d,r,r,l,r,d] (t21 b a g f k n)
def x16(b:UInt64)(a:LB)(g:Int)(f:LQ):Option R_:=H.e P_ [r,r,l,(call 0 283),r,r,l,r,d] (t16 b a g f)
theorem e30:x30=WW:=by kernel_rfl
theorem e29:x29=XH:=Eq.trans (b:=VN x30) (by kernel_rfl) (by simp only[e30]<;>rfl)
theorem i27(a:LB)(b:UInt64)(f:LQ):∀(q:Nat) (h:UInt64) (m:Int),z27 q (t27 a b f h m)=Wd a b f q h m:=
 ind (λ_ _=>by kernel_rfl) λq ih h m=>Eq.trans (b:=KP x29 (λh m=>(z27 q) (t27 a b f h m)) a b f h m) (by kernel_rfl) (by simp only[e29,ih]<;>rfl)
theorem e27:x27=VS:=by funext a b f h m;exact Eq.trans (by kernel_rfl) ((i27 a b f Cl h m).trans (by rw[Ar];rfl))
theorem e26:x26=LA:=Eq.trans (b:=VK x27) (by kernel_rfl) (by simp only[e27]<;>rfl)
theorem e24(Ck:K_)(b:UInt64)(a:LB):x24 Ck b a=VY (λg f=>Ck (t16 b a g f)) b a:=by kernel_rfl
theorem e23(Ck:K_)(b:UInt64)(a:LB):x23 Ck b a=KF (λg f=>Ck (t16 b a g f)) b a:=Eq.trans (b:=VQ (x24 Ck b a) b a) (by kernel_rfl) (by simp only[e24]<;>rfl)
theorem i21(Ck:K_)(b:UInt64)(a:LB)(g:Int)(f:LQ):∀(q:Nat) (k:UInt64) (n:Int),z21 Ck q (t21 b a g f k n)=Wr (λg f=>Ck (t16 b a g f)) b a g f q k n:=
 ind (λ_ _=>by kernel_rfl) λq ih k n=>Eq.trans (b:=JP (x23 Ck b a) (λk n=>(z21 Ck q) (t21 b a g f k n)) b a g f k n) (by kernel_rfl) (by simp only[e23,ih]<;>rfl)
theorem e21(Ck:K_)(b:UInt64)(a:LB):x21 Ck b a=YG (λg f=>Ck (t16 b a g f)) b a:=by funext g f k n;exact Eq.trans (by kernel_rfl) ((i21 Ck b a g f Cl k n).trans (by rw[Ar];rfl))
theorem i16(b:UInt64)(a:LB):∀(q:Nat) (g:Int) (f:LQ),z16 q (t16 b a g f)=Qw b a q g f:=
 ind (λ_ _=>by kernel_rfl) λq ih g f=>Eq.trans (b:=KR (x21 (z16 q) b a) x26 b a g f) (by kernel_rfl) (by simp only[e21,e26,ih]<;>rfl)
theorem e16:x16=WM:=by funext b a g f;exact Eq.trans (by kernel_rfl) ((i16 b a Cl g f).trans (by rw[Ar];rfl))
def F:=u2 eZ
theorem rn x:H.u P_ x=F x:=Eq.trans (b:=u2 (aU x16) x) (by kernel_rfl) (by simp only[e16]<;>rfl)
def c:Con:=⟨H.p,H.r,F⟩
theorem ok:ConOk P_ gl 199 c:=cr H func199 .nil (Mr.cons ent282 (Mr.cons ent283 Mr.nil)) rn
end F199
namespace F121
def H:Hd:=⟨[Sb],[Sq,Si],.d,⟨[(199,F199.c)],gl,false⟩,[],f121⟩
def F:=bV
theorem rn x:H.u P_ x=F x:=by kernel_rfl
def c:Con:=⟨H.p,H.r,F⟩
theorem ok:ConOk P_ gl 121 c:=co H func121 (.cons F199.ok .nil) rn
end F121
namespace F105
def H:Hd:=⟨[Ss],[Sq,Si],.d,⟨[(121,F121.c)],gl,false⟩,[],f105⟩
def F:=sT
theorem rn x:H.u P_ x=F x:=by kernel_rfl
def c:Con:=⟨H.p,H.r,F⟩
theorem ok:ConOk P_ gl 105 c:=co H func105 (.cons F121.ok .nil) rn
end F105
namespace F44
def H:Hd:=⟨[Ss],[Ob 5,Si],.d,⟨[(103,F103.c),(105,F105.c)],gl,false⟩,[],f44⟩
def F:=UM
theorem rn x:H.u P_ x=F x:=by kernel_rfl
def c:Con:=⟨H.p,H.r,F⟩
theorem ok:ConOk P_ gl 44 c:=co H func44 (.cons F103.ok (.cons F105.ok .nil)) rn
end F44
namespace F51
def H:Hd:=⟨[Sb,Ss],[Sz,Si],.d,⟨[(44,F44.c),(113,F113.c)],gl,false⟩,[],f51⟩
def F:=u2 Pw
theorem rn x:H.u P_ x=F x:=by kernel_rfl
def c:Con:=⟨H.p,H.r,F⟩
theorem ok:ConOk P_ gl 51 c:=co H func51 (.cons F44.ok (.cons F113.ok .nil)) rn
end F51
namespace F53
abbrev R_:=(LI×Int)
def H:Hd:=⟨[Sb,Si],[Ol 3,Si],(.seq .d (.seq .d (.seq .d (.seq .d (.seq .d (.seq .d (.cut [10] [] (.seq .d (.blk (.loop [0,10,48,49] [] .d))) .d))))))),⟨[(104,F104.c),(106,F106.c),(110,F110.c)],gl,false⟩,[],f53⟩
def t4(b:LB)(f:LI)(g:Int)(a:LI):S:=⟨[(0,vb b),(10,.own 0),(48,vi (Ac f)),(49,vi g)],[Ai 3 a],[]⟩
def z4:Nat->S->Option R_:=H.i P_ [r,r,r,r,r,r,l,r,d]
def x6(a:LI):Option R_:=H.e P_ [r,r,r,r,r,r,r] ⟨[(10,.own 0)],[Ai 3 a],[]⟩
def x4(b:LB)(f:LI)(g:Int)(a:LI):Option R_:=H.e P_ [r,r,r,r,r,r,l,r,d] (t4 b f g a)
theorem e6:x6=QB:=by kernel_rfl
theorem i4(b:LB)(f:LI):∀(q:Nat) (g:Int) (a:LI),z4 q (t4 b f g a)=Yw b f q g a:=
 ind (λ_ _=>by kernel_rfl) λq ih g a=>Eq.trans (b:=QD x6 (λg a=>(z4 q) (t4 b f g a)) b f g a) (by kernel_rfl) (by simp only[e6,ih]<;>rfl)
theorem e4:x4=aK:=by funext b f g a;exact Eq.trans (by kernel_rfl) ((i4 b f Cl g a).trans (by rw[Ar];rfl))
def F:=u2 HP
theorem rn x:H.u P_ x=F x:=Eq.trans (b:=u2 (bC x4) x) (by kernel_rfl) (by simp only[e4]<;>rfl)
def c:Con:=⟨H.p,H.r,F⟩
theorem ok:ConOk P_ gl 53 c:=co H func53 (.cons F104.ok (.cons F106.ok (.cons F110.ok .nil))) rn
end F53
namespace F122
abbrev R_:=LX
def H:Hd:=⟨[Sq],[.lf (.vec 16 (.int .i32)) none],(.seq .d (.seq .d (.cut [2,3] [] (.seq .d (.blk (.loop [0,2,3,5] [] .d))) .d))),⟨[],gl,false⟩,[],f122⟩
def t4(f:UInt64)(b:Int)(a:LX):S:=⟨[(0,vq f),(2,.ptr 0 []),(3,.ptr 1 []),(5,vi b)],[.box 105 (.val (.vec 16 (.int .i32)) (List.replicate 16 (0:Int32))),.box 105 (.val (.vec 16 (.int .i32)) a)],[]⟩
def z4:Nat->S->Option R_:=H.i P_ [r,r,l,r,d]
def x6(a:LX):Option R_:=H.e P_ [r,r,r] ⟨[(2,.ptr 0 []),(3,.ptr 1 [])],[.box 105 (.val (.vec 16 (.int .i32)) (List.replicate 16 (0:Int32))),.box 105 (.val (.vec 16 (.int .i32)) a)],[]⟩
def x4(f:UInt64)(b:Int)(a:LX):Option R_:=H.e P_ [r,r,l,r,d] (t4 f b a)
theorem e6:x6=xT:=by kernel_rfl
theorem i4(f:UInt64):∀(q:Nat) (b:Int) (a:LX),z4 q (t4 f b a)=PJ f q b a:=
 ind (λ_ _=>by kernel_rfl) λq ih b a=>Eq.trans (b:=fR x6 (λb a=>(z4 q) (t4 f b a)) f b a) (by kernel_rfl) (by simp only[e6,ih]<;>rfl)
theorem e4:x4=G0:=by funext f b a;exact Eq.trans (by kernel_rfl) ((i4 f Cl b a).trans (by rw[Ar];rfl))
def F:=R2
theorem rn x:H.u P_ x=F x:=Eq.trans (b:=B6 x4 x) (by kernel_rfl) (by simp only[e4]<;>rfl)
def c:Con:=⟨H.p,H.r,F⟩
theorem ok:ConOk P_ gl 122 c:=co H func122 .nil rn
end F122
namespace F67
def H:Hd:=⟨[Ss],[.lf (.vec 16 (.int .i32)) none,Si],.d,⟨[(121,F121.c),(122,F122.c)],gl,false⟩,[],f67⟩
def F:=FA
theorem rn x:H.u P_ x=F x:=by kernel_rfl
def c:Con:=⟨H.p,H.r,F⟩
theorem ok:ConOk P_ gl 67 c:=co H func67 (.cons F121.ok (.cons F122.ok .nil)) rn
end F67
namespace F314
def H:Hd:=⟨[.agg [Si,Si,Si,Si,Si]],[.agg [Si,Si]],.d,⟨[],gl,false⟩,[],f314⟩
def F:=u5 GD
theorem rn x:H.u P_ x=F x:=by kernel_rfl
def c:Con:=⟨H.p,H.r,F⟩
theorem ok:ConOk P_ gl 314 c:=co H func314 .nil rn
end F314
namespace F151
abbrev R_:=(Int32×Int32×Int)
def H:Hd:=⟨[Si],[Sx,Sx,Si],(.seq .d (.seq (.seq .d (.blk (.cut [0,7] [] .d .d))) .d)),⟨[],gl,false⟩,[],f151⟩
def x2(a:Int)(b:Bool):Option R_:=H.e P_ [r,l,r,d,r] ⟨[(0,vi a),(7,vt b)],[],[]⟩
theorem e2:x2=YF:=by kernel_rfl
def F:=Ua
theorem rn x:H.u P_ x=F x:=Eq.trans (b:=WX x2 x) (by kernel_rfl) (by simp only[e2]<;>rfl)
def c:Con:=⟨H.p,H.r,F⟩
theorem ok:ConOk P_ gl 151 c:=co H func151 .nil rn
end F151
namespace F123
def H:Hd:=⟨[.agg [Si,Si]],[Si],.d,⟨[(151,F151.c)],gl,false⟩,[],f123⟩
def F:=u2 Jg
theorem rn x:H.u P_ x=F x:=by kernel_rfl
def c:Con:=⟨H.p,H.r,F⟩
theorem ok:ConOk P_ gl 123 c:=co H func123 (.cons F151.ok .nil) rn
end F123
namespace F124
def H:Hd:=⟨[Sb],[Sb,Si],.d,⟨[(104,F104.c),(192,F192.c)],gl,false⟩,[],f124⟩
def F:=KZ
theorem rn x:H.u P_ x=F x:=by kernel_rfl
def c:Con:=⟨H.p,H.r,F⟩
theorem ok:ConOk P_ gl 124 c:=co H func124 (.cons F104.ok (.cons F192.ok .nil)) rn
end F124
namespace F200
def Qt(a:LB):Option (LB):=
wJ a (
some ([]:LB)) (
(Cz ([]:LB) a).bind λb=>
some b)
theorem SG: @Qt= @Lm:=by
  unfold Qt Lm
  repeat (refine funext λ_=>?_)
  repeat' first
    |with_reducible rfl
    |with_reducible refine Gn ?_ ?_
    |with_reducible refine Gi ?_ ?_ ?_
    |with_reducible refine Gp ?_ ?_ ?_ ?_
    |((with_reducible refine Km ?_ ?_);focus (intro h;first|(subst h;rfl)|(simp only[h];rfl)|(simp[Cz,Ac,h];done)))
    |with_reducible refine Kk λx=>?_
    |with_reducible refine Pr (λ_=>?_) (λ_=>?_)
    |(refine Du (λh=>by simp only[h,Kl,Cy,Cu,ite_self]) (λx h=>?_);(try simp only[h,Cy]))
    |(refine Et (λh=>?_) (λh=>?_)<;>simp only[h,if_true,if_false,Bool.false_eq_true])
def H:Hd:=⟨[Sb],[Ob 5],.d,⟨[],gl,false⟩,[],f200⟩
def F:=Lm
theorem rn x:H.u P_ x=F x:=Eq.trans (b:=Qt x) (by kernel_rfl) (by rw[SG];rfl)
def c:Con:=⟨H.p,H.r,F⟩
theorem ok:ConOk P_ gl 200 c:=co H func200 .nil rn
end F200
namespace F125
def H:Hd:=⟨[Sb],[.agg [Ob 5,Si],Si],.d,⟨[(200,F200.c)],gl,false⟩,[],f125⟩
def F:=V7
theorem rn x:H.u P_ x=F x:=by kernel_rfl
def c:Con:=⟨H.p,H.r,F⟩
theorem ok:ConOk P_ gl 125 c:=co H func125 (.cons F200.ok .nil) rn
end F125
namespace F201
def H:Hd:=⟨[],[.agg [Si,Si,Sq,Sq]],.d,⟨[],gl,false⟩,[],f201⟩
noncomputable def F(x:Unit):=G1
theorem rn x:H.u P_ x=F x:=by kernel_rfl
def c:Con:=⟨H.p,H.r,F⟩
theorem ok:ConOk P_ gl 201 c:=co H func201 .nil rn
end F201
namespace F204
def H:Hd:=⟨[.agg [Sb,Si]],[Si],.d,⟨[],gl,false⟩,[],f204⟩
def F:=u2 Yg
theorem rn x:H.u P_ x=F x:=by kernel_rfl
def c:Con:=⟨H.p,H.r,F⟩
theorem ok:ConOk P_ gl 204 c:=co H func204 .nil rn
end F204
namespace F205
abbrev R_:=UInt64
def H:Hd:=⟨[.agg [Sb,Si],Si,Si],[Sq],(.seq .d (.seq .d (.cut [7] [] (.blk (.loop [1,2,3,7,8] [] .d)) .d))),⟨[],gl,false⟩,[],f205⟩
def t4(b f:Int)(h:LB)(k:Int)(g:UInt64)(a:Int):S:=⟨[(1,vi b),(2,vi f),(3,.ptr 0 []),(7,vq g),(8,vi a)],[.box 183 (.agg [vb h,vi k])],[]⟩
def z4:Nat->S->Option R_:=H.i P_ [r,r,l,d]
def x6(g:UInt64):Option R_:=H.e P_ [r,r,r] ⟨[(7,vq g)],[],[]⟩
def x4(b f:Int)(h:LB)(k:Int)(g:UInt64)(a:Int):Option R_:=H.e P_ [r,r,l,d] (t4 b f h k g a)
theorem e6:x6=uP:=by kernel_rfl
theorem i4(b f:Int)(h:LB)(k:Int):∀(q:Nat) (g:UInt64) (a:Int),z4 q (t4 b f h k g a)=RG b f h k q g a:=
 ind (λ_ _=>by kernel_rfl) λq ih g a=>Eq.trans (b:=jU x6 (λg a=>(z4 q) (t4 b f h k g a)) b f h k g a) (by kernel_rfl) (by simp only[e6,ih]<;>rfl)
theorem e4:x4=uF:=by funext b f h k g a;exact Eq.trans (by kernel_rfl) ((i4 b f h k Cl g a).trans (by rw[Ar];rfl))
def F:=u4 qV
theorem rn x:H.u P_ x=F x:=Eq.trans (b:=u4 (tO x4) x) (by kernel_rfl) (by simp only[e4]<;>rfl)
def c:Con:=⟨H.p,H.r,F⟩
theorem ok:ConOk P_ gl 205 c:=co H func205 .nil rn
end F205
namespace F202
abbrev R_:=(LB×Int×Int)
abbrev K_:=S->Option R_
def H:Hd:=⟨[.agg [Sb,Si],Si,Si],[.agg [Ob 5,Si],Si],(.seq .d (.seq .d (.seq .d (.seq .d (.cut [6,8] [] (.seq .d (.blk (.loop [2,3,6,8,9] [⟨8,[0],.own 5 (.int .u8)⟩] (.seq .d (.cut [2,3,6,8,9] [] (.blk (.seq .d (.keep [2,3,6,8,9,10,39,40,41,42,43] true))) .d))))) .d))))),⟨[(204,F204.c),(205,F205.c)],gl,false⟩,[(284,(.blk (.loop [0,1,2] [] (.seq .d (.blk (.cut [0,1,2] [] .d (.seq .d (.cut [0,1,2,7] [] .d .d))))))))],f202⟩
def t44(a:Int)(g:LB)(f b:Int)(k n:UInt64)(m h:Int)(u:LB):S:=⟨[(0,.ptr 0 []),(1,vq n),(2,vi m)],[.box 183 (.agg [.own 3,vi h]),.box 183 (.agg [vb g,vi f]),.box 183 (.agg [.nils,vi 0]),Ab 5 u],[[(2,vi a),(3,.ptr 1 []),(6,.ptr 2 []),(8,.ptr 0 []),(9,vi b),(10,vi (Jr (64:Int) (Au a b))),(39,.agg [vb g,vi f]),(40,vi b),(41,vi (Jr (64:Int) (Au a b))),(42,vq k),(43,vi (Jr (64:Int) (Au a b)))]]⟩
def z44(Yu:K_):Nat->S->Option R_:=H.i P_ [r,r,r,r,l,r,d,(lp Yu),r,l,d,r,(call 5 284),d]
def t27(a:Int)(g:LB)(f b o:Int)(p:LB):S:=⟨[(2,vi a),(3,.ptr 0 []),(6,.ptr 1 []),(8,.ptr 2 []),(9,vi b)],[.box 183 (.agg [vb g,vi f]),.box 183 (.agg [.nils,vi 0]),.box 183 (.agg [.own 3,vi o]),Ab 5 p],[]⟩
def z27:Nat->S->Option R_:=H.i P_ [r,r,r,r,l,r,d]
def x52(o:Int)(p:LB):Option R_:=H.e P_ [r,r,r,r,r] ⟨[(6,.ptr 0 []),(8,.ptr 1 [])],[.box 183 (.agg [.nils,vi 0]),.box 183 (.agg [.own 2,vi o]),Ab 5 p],[]⟩
def x50(Yu:K_)(a:Int)(g:LB)(f b h:Int)(u:LB):Option R_:=H.e P_ [r,r,r,r,l,r,d,(lp Yu),r,r] ⟨[(2,vi a),(3,.ptr 0 []),(6,.ptr 1 []),(8,.ptr 2 []),(9,vi b)],[.box 183 (.agg [vb g,vi f]),.box 183 (.agg [.nils,vi 0]),.box 183 (.agg [.own 3,vi h]),Ab 5 u],[]⟩
def x48(Yu I3:K_)(a b:Int)(g:LB)(f:Int)(k n:UInt64)(m h:Int)(w:LB):Option R_:=H.e P_ [r,r,r,r,l,r,d,(lp Yu),r,l,d,r,(call 5 284),d,(lp I3),r,d,r,r,r] ⟨[(0,.ptr 0 []),(1,vq n),(2,vi m),(7,vi (Jr m (Au (8:Int) (Kr h (7:Int)))))],[.box 183 (.agg [.own 3,vi h]),.box 183 (.agg [vb g,vi f]),.box 183 (.agg [.nils,vi 0]),Ab 5 w],[[(2,vi a),(3,.ptr 1 []),(6,.ptr 2 []),(8,.ptr 0 []),(9,vi b),(10,vi (Jr (64:Int) (Au a b))),(39,.agg [vb g,vi f]),(40,vi b),(41,vi (Jr (64:Int) (Au a b))),(42,vq k),(43,vi (Jr (64:Int) (Au a b)))]]⟩
def x47(Yu I3:K_)(a b:Int)(g:LB)(f:Int)(k n:UInt64)(m h:Int)(v:LB):Option R_:=H.e P_ [r,r,r,r,l,r,d,(lp Yu),r,l,d,r,(call 5 284),d,(lp I3),r,d,r] ⟨[(0,.ptr 0 []),(1,vq n),(2,vi m)],[.box 183 (.agg [.own 3,vi h]),.box 183 (.agg [vb g,vi f]),.box 183 (.agg [.nils,vi 0]),Ab 5 v],[[(2,vi a),(3,.ptr 1 []),(6,.ptr 2 []),(8,.ptr 0 []),(9,vi b),(10,vi (Jr (64:Int) (Au a b))),(39,.agg [vb g,vi f]),(40,vi b),(41,vi (Jr (64:Int) (Au a b))),(42,vq k),(43,vi (Jr (64:Int) (Au a b)))]]⟩
def x44(Yu:K_)(a:Int)(g:LB)(f b:Int)(k n:UInt64)(m h:Int)(u:LB):Option R_:=H.e P_ [r,r,r,r,l,r,d,(lp Yu),r,l,d,r,(call 5 284),d] (t44 a g f b k n m h u)
def x27(a:Int)(g:LB)(f b o:Int)(p:LB):Option R_:=H.e P_ [r,r,r,r,l,r,d] (t27 a g f b o p)
theorem e52:x52=dJ:=by kernel_rfl
theorem e50(Yu:K_)(a:Int)(g:LB)(f:Int):x50 Yu a g f=UD (λb o p=>Yu (t27 a g f b o p)) a g f:=by kernel_rfl
theorem e48(Yu I3:K_)(a:Int)(g:LB)(f b:Int)(k:UInt64):x48 Yu I3 a b g f k=eU (λn m h u=>I3 (t44 a g f b k n m h u)) a b g f k:=by kernel_rfl
theorem e47(Yu I3:K_)(a:Int)(g:LB)(f b:Int)(k:UInt64):x47 Yu I3 a b g f k=UK (λn m h u=>I3 (t44 a g f b k n m h u)) a b g f k:=Eq.trans (b:=fO (x48 Yu I3 a b g f k) a b g f k) (by kernel_rfl) (by simp only[e48]<;>rfl)
theorem i44(Yu:K_)(a:Int)(g:LB)(f b:Int)(k:UInt64):∀(q:Nat) (n:UInt64) (m h:Int) (u:LB),z44 Yu q (t44 a g f b k n m h u)=Tf (λb o p=>Yu (t27 a g f b o p)) a g f b k q n m h u:=
 ind (λ_ _ _ _=>by kernel_rfl) λq ih n m h u=>Eq.trans (b:=UJ (x47 Yu (z44 Yu q) a b g f k) (x50 Yu a g f) a g f b k n m h u) (by kernel_rfl) (by simp only[e47,e50,ih]<;>rfl)
theorem e44(Yu:K_)(a:Int)(g:LB)(f:Int):x44 Yu a g f=fC (λb o p=>Yu (t27 a g f b o p)) a g f:=by funext b k n m h u;exact Eq.trans (by kernel_rfl) ((i44 Yu a g f b k Cl n m h u).trans (by rw[Ar];rfl))
theorem i27(a:Int)(g:LB)(f:Int):∀(q:Nat) (b o:Int) (p:LB),z27 q (t27 a g f b o p)=EC a g f q b o p:=
 ind (λ_ _ _=>by kernel_rfl) λq ih b o p=>Eq.trans (b:=eW (x44 (z27 q) a g f) x52 a g f b o p) (by kernel_rfl) (by simp only[e44,e52,ih]<;>rfl)
theorem e27:x27=cZ:=by funext a g f b o p;exact Eq.trans (by kernel_rfl) ((i27 a g f Cl b o p).trans (by rw[Ar];rfl))
def F:=u4 jP
theorem rn x:H.u P_ x=F x:=Eq.trans (b:=u4 (jY x27) x) (by kernel_rfl) (by simp only[e27]<;>rfl)
def c:Con:=⟨H.p,H.r,F⟩
theorem ok:ConOk P_ gl 202 c:=cr H func202 (.cons F204.ok (.cons F205.ok .nil)) (Mr.cons ent284 Mr.nil) rn
end F202
namespace F271
def WB(j4:Int->Int->UInt64->UInt64->Option Int)(a b:Int)(f g:UInt64):Option Int:=
both (
bo (
j4 a b f g)) [
j4 a b f g]
theorem pR: @WB= @QC:=by
  unfold WB QC
  repeat (refine funext λ_=>?_)
  repeat' first
    |with_reducible rfl
    |with_reducible refine Gn ?_ ?_
    |with_reducible refine Gi ?_ ?_ ?_
    |with_reducible refine Gp ?_ ?_ ?_ ?_
    |((with_reducible refine Km ?_ ?_);focus (intro h;first|(subst h;rfl)|(simp only[h];rfl)|(simp[Cz,Ac,h];done)))
    |with_reducible refine Kk λx=>?_
    |with_reducible refine Pr (λ_=>?_) (λ_=>?_)
    |(refine Du (λh=>by simp only[h,Kl,Cy,Cu,ite_self]) (λx h=>?_);(try simp only[h,Cy]))
    |(refine Et (λh=>?_) (λh=>?_)<;>simp only[h,if_true,if_false,Bool.false_eq_true])
def VG(j3:Int->Int->UInt64->UInt64->Option Int)(a b:Int)(f g:UInt64):Option Int:=
both (
bo (
j3 a b f g)) [
j3 a b f g]
theorem qK: @VG= @QH:=by
  unfold VG QH
  repeat (refine funext λ_=>?_)
  repeat' first
    |with_reducible rfl
    |with_reducible refine Gn ?_ ?_
    |with_reducible refine Gi ?_ ?_ ?_
    |with_reducible refine Gp ?_ ?_ ?_ ?_
    |((with_reducible refine Km ?_ ?_);focus (intro h;first|(subst h;rfl)|(simp only[h];rfl)|(simp[Cz,Ac,h];done)))
    |with_reducible refine Kk λx=>?_
    |with_reducible refine Pr (λ_=>?_) (λ_=>?_)
    |(refine Du (λh=>by simp only[h,Kl,Cy,Cu,ite_self]) (λx h=>?_);(try simp only[h,Cy]))
    |(refine Et (λh=>?_) (λh=>?_)<;>simp only[h,if_true,if_false,Bool.false_eq_true])
abbrev R_:=Int
def H:Hd:=⟨[.agg [Si,Si,Sq,Sq]],[Si],(.seq .d (.seq .d (.cut [1,3] [] (.mode false) (.cut [1,3] [] (.mode false) .d)))),⟨[],gl,false⟩,[],f271⟩
def x4(a b:Int)(f g:UInt64):Option R_:=H.e P_ [r,r,r,r] ⟨[(1,.ptr 0 []),(3,.ptr 1 [])],[.box 254 (.agg [vi a,vi b,vq f,vq g]),.box 254 (.agg [vi (Jr (mM a (0:Int)) (24:Int)),vi (Jr (mM b (0:Int)) (24:Int)),vq (Jr f (68719476735:UInt64)),vq (Jr g (68719476735:UInt64))])],[]⟩
def x3(a b:Int)(f g:UInt64):Option R_:=H.e P_ [r,r,r] ⟨[(1,.ptr 0 []),(3,.ptr 1 [])],[.box 254 (.agg [vi a,vi b,vq f,vq g]),.box 254 (.agg [vi (Jr (mM a (0:Int)) (24:Int)),vi (Jr (mM b (0:Int)) (24:Int)),vq f,vq g])],[]⟩
theorem e4:x4=ZU:=by kernel_rfl
theorem e3:x3=bA:=Eq.trans (b:=WB x4) (by kernel_rfl) (by rw[pR];simp only[e4]<;>rfl)
def F:=u4 fA
theorem rn x:H.u P_ x=F x:=Eq.trans (b:=u4 (VG x3) x) (by kernel_rfl) (by unfold F;rw[qK];simp only[e3]<;>rfl)
def c:Con:=⟨H.p,H.r,F⟩
theorem ok:ConOk P_ gl 271 c:=co H func271 .nil rn
end F271
namespace F127
def H:Hd:=⟨[.agg [Sb,Si],Si,Si],[Sq,Si],.d,⟨[(204,F204.c),(205,F205.c)],gl,false⟩,[],f127⟩
def F:=u4 LV
theorem rn x:H.u P_ x=F x:=by kernel_rfl
def c:Con:=⟨H.p,H.r,F⟩
theorem ok:ConOk P_ gl 127 c:=co H func127 (.cons F204.ok (.cons F205.ok .nil)) rn
end F127
namespace F365
def H:Hd:=⟨[Sq],[Si],.d,⟨[],gl,false⟩,[],f365⟩
def F:=Hx
theorem rn x:H.u P_ x=F x:=by kernel_rfl
def c:Con:=⟨H.p,H.r,F⟩
theorem ok:ConOk P_ gl 365 c:=co H func365 .nil rn
end F365
namespace F341
def YM(j6:Int->UInt64->Int->LB->Int->Option (Int×Int×Int))(g:LB)(b a:Int):Option (Int×Int×Int):=
(Yg g b).bind λm=>
if(Bq m 0)then
some (0,0,m)
else
if(Dg a 0)then
some (0,0,2)
else
if(Tp a b)then
some (0,0,24)
else
(λn:Option (Int×Int×Int)=>
(λo:Option (Int×Int×Int)=>
bo2 (
o)) (
bo (
n))) (
(LV g b a (Jr 48 (Au b a))).bind λ(k,h)=>
j6 h k a g b)
theorem pE: @YM= @GP:=by
  unfold YM GP;simp only[NZ,Zd,AH]
abbrev R_:=(Int×Int×Int)
def H:Hd:=⟨[.agg [Sb,Si],Si],[Si,Si,Si],(.seq .d (.seq .d (.seq .d (.seq .d (.seq .d (.cut [3,5,6,8,9] [] (.keep [2,3,5,6,8,9,22,23,24,25,26,27,28,29] false) (.seq .d (.seq .d (.cut [] [] (.blk (.seq (.blk (.seq (.blk (.cut [] [] (.cut [3,4,5] [] (.cut [3,4,5,36] [] (.keep [3,4,5,8,36,37,38,39,40] true) .d) .d) .d)) .d)) .d)) .d))))))))),⟨[(127,F127.c),(204,F204.c),(365,F365.c)],gl,false⟩,[(364,.d)],f341⟩
def x10:Option R_:=H.e P_ [r,r,r,r,r,r,r,r,r] ⟨[],[],[]⟩
def x9:Option R_:=H.e P_ [r,r,r,r,r,r,r,r,l,d,l,d,l,d,r] ⟨[],[],[]⟩
def x8(f a:Int):Option R_:=H.e P_ [r,r,r,r,r,r,r,r,l,d,l,d,l,d,l,r] ⟨[(3,.ptr 0 []),(4,vi f),(5,vi 0)],[.box 3 (vi a)],[]⟩
def x7(f b a:Int):Option R_:=H.e P_ [r,r,r,r,r,r,r,r,l,d,l,d,l,d,l,l,r] ⟨[(3,.ptr 0 []),(4,vi f),(5,vi 0),(36,vt (Dg f (Jr (48:Int) (Au b a))))],[.box 3 (vi a)],[]⟩
def x6(h:Int)(k:UInt64)(a:Int)(g:LB)(b:Int):Option R_:=H.e P_ [r,r,r,r,r,r] ⟨[(3,.ptr 0 []),(5,vi 0),(6,vi h),(8,.fn 364 [.ptr 1 [],.ptr 0 []]),(9,vq k)],[.box 3 (vi a),.box 183 (.agg [vb g,vi b])],[]⟩
theorem e10:x10=jA:=by kernel_rfl
theorem e9:x9=mU:=Eq.trans (b:=nH x10) (by kernel_rfl) (by simp only[e10]<;>rfl)
theorem e8:x8=aM:=Eq.trans (b:=aD x9) (by kernel_rfl) (by simp only[e9]<;>rfl)
theorem e7:x7=aS:=Eq.trans (b:=aJ x8) (by kernel_rfl) (by simp only[e8]<;>rfl)
theorem e6:x6=aB:=Eq.trans (b:=aO x7) (by kernel_rfl) (by simp only[e7]<;>rfl)
def F:=u3 PF
theorem rn x:H.u P_ x=F x:=Eq.trans (b:=u3 (YM x6) x) (by kernel_rfl) (by unfold F;rw[pE];simp only[e6]<;>rfl)
def c:Con:=⟨H.p,H.r,F⟩
theorem ok:ConOk P_ gl 341 c:=cr H func341 (.cons F127.ok (.cons F204.ok (.cons F365.ok .nil))) (Mr.cons ent364 Mr.nil) rn
end F341
namespace F333
def H:Hd:=⟨[Su,Si],[Sz],.d,⟨[],gl,false⟩,[],f333⟩
def F:=u2 fI
theorem rn x:H.u P_ x=F x:=by kernel_rfl
def c:Con:=⟨H.p,H.r,F⟩
theorem ok:ConOk P_ gl 333 c:=co H func333 .nil rn
end F333
namespace F285
abbrev R_:=(UInt32×Int×Int)
def H:Hd:=⟨[.agg [Sb,Si],Si,Si],[Su,Si,Si],(.seq .d (.seq .d (.seq .d (.seq .d (.seq .d (.seq .d (.cut [2,3,7,10,11] [] .d .d))))))),⟨[(127,F127.c),(204,F204.c),(333,F333.c),(341,F341.c)],gl,false⟩,[],f285⟩
def x2(a b f:Int)(g:LB)(h k:Int):Option R_:=H.e P_ [r,r,r,r,r,r,r] ⟨[(2,vi a),(3,.ptr 0 []),(7,vi b),(10,vi f),(11,vi k)],[.box 183 (.agg [vb g,vi h])],[]⟩
theorem e2:x2=UR:=by kernel_rfl
def F:=u4 lX
theorem rn x:H.u P_ x=F x:=Eq.trans (b:=u4 (eO x2) x) (by kernel_rfl) (by simp only[e2]<;>rfl)
def c:Con:=⟨H.p,H.r,F⟩
theorem ok:ConOk P_ gl 285 c:=co H func285 (.cons F127.ok (.cons F204.ok (.cons F333.ok (.cons F341.ok .nil)))) rn
end F285
namespace F272
def H:Hd:=⟨[.agg [Si,Si,Sq,Sq],Su],[Si,Su],.d,⟨[],gl,false⟩,[],f272⟩
def F:=u5 eL
theorem rn x:H.u P_ x=F x:=by kernel_rfl
def c:Con:=⟨H.p,H.r,F⟩
theorem ok:ConOk P_ gl 272 c:=co H func272 .nil rn
end F272
namespace F203
abbrev R_:=(UInt32×Int×Int×Int×UInt64×UInt64×Int)
def H:Hd:=⟨[.agg [Sb,Si],Si,.agg [Si,Si,Sq,Sq]],[Su,Si,.agg [Si,Si,Sq,Sq],Si],(.seq .d (.cut [1,3,5,8] [] .d (.seq .d (.seq .d (.cut [5,6,7,8] [] .d (.cut [5,6,7,8] [] (.keep [5,6,7,8,81] true) .d)))))),⟨[(127,F127.c),(204,F204.c),(271,F271.c),(272,F272.c),(285,F285.c)],gl,false⟩,[(275,(.seq .d (.seq .d (.seq .d (.blk (.cut [0,1,4] [] (.blk (.seq .d (.keep [0,1,4,6,18,19,20,21,22,23,24,25] true))) (.cut [] [] (.keep [0,1,4,27,28,29,30,31,32,33,34] true) .d))))))),(335,.d)],f203⟩
def x10(f:UInt32)(k w m:Int)(a n:UInt64):Option R_:=H.e P_ [r,r,r,r,r,r] ⟨[(5,.ptr 0 []),(6,vu f),(7,vi k),(8,.ptr 1 [])],[.box 254 (.agg [vi w,vi m,vq (Af a (Au (Ad f:UInt64) (Ea a (GI.toZ (4:UInt64)).toNat))),vq n]),.box 254 (.agg [vi 0,vi 0,vq 0,vq 0])],[]⟩
def x9(f:UInt32)(k m:Int)(a n:UInt64)(w:Int):Option R_:=H.e P_ [r,r,r,r,r,l,(call 1 275),r,r,r,d,r,r] ⟨[],[.box 254 (.agg [vi w,vi m,vq (Af a (Au (Ad f:UInt64) (Ea a (GI.toZ (4:UInt64)).toNat))),vq n]),.box 254 (.agg [vi 0,vi 0,vq 0,vq 0])],[[(5,.ptr 0 []),(6,vu f),(7,vi k),(8,.ptr 1 []),(81,vu f)]]⟩
def x8(f:UInt32)(k b:Int)(a:UInt64)(m:Int)(n:UInt64):Option R_:=H.e P_ [r,r,r,r,r,l,(call 1 275),r,r,r,d,r] ⟨[(0,.ptr 0 []),(1,vu f),(4,.fn 335 [])],[.box 254 (.agg [vi b,vi m,vq a,vq n]),.box 254 (.agg [vi 0,vi 0,vq 0,vq 0])],[[(5,.ptr 0 []),(6,vu f),(7,vi k),(8,.ptr 1 []),(81,vu f)]]⟩
def x7(b h:Int)(a g:UInt64)(f:UInt32)(k:Int):Option R_:=H.e P_ [r,r,r,r,r] ⟨[(5,.ptr 0 []),(6,vu f),(7,vi k),(8,.ptr 1 [])],[.box 254 (.agg [vi b,vi h,vq a,vq g]),.box 254 (.agg [vi 0,vi 0,vq 0,vq 0])],[]⟩
def x6(p:Int)(u:LB)(v b h:Int)(a g:UInt64):Option R_:=H.e P_ [r,r] ⟨[(1,vi p),(3,.ptr 0 []),(5,.ptr 1 []),(8,.ptr 2 [])],[.box 183 (.agg [vb u,vi v]),.box 254 (.agg [vi b,vi h,vq a,vq g]),.box 254 (.agg [vi 0,vi 0,vq 0,vq 0])],[]⟩
theorem e10:x10=aG:=by kernel_rfl
theorem e9:x9=dB:=Eq.trans (b:=fE x10) (by kernel_rfl) (by simp only[e10]<;>rfl)
theorem e8:x8=MK:=Eq.trans (b:=fL x9) (by kernel_rfl) (by simp only[e9]<;>rfl)
theorem e7:x7=UI:=Eq.trans (b:=dK x8) (by kernel_rfl) (by simp only[e8]<;>rfl)
theorem e6:x6=fN:=Eq.trans (b:=dP x7) (by kernel_rfl) (by simp only[e7]<;>rfl)
def F:=u7 OX
theorem rn x:H.u P_ x=F x:=Eq.trans (b:=u7 (fP x6) x) (by kernel_rfl) (by simp only[e6]<;>rfl)
def c:Con:=⟨H.p,H.r,F⟩
theorem ok:ConOk P_ gl 203 c:=cr H func203 (.cons F127.ok (.cons F204.ok (.cons F271.ok (.cons F272.ok (.cons F285.ok .nil))))) (Mr.cons ent275 (Mr.cons ent335 Mr.nil)) rn
end F203
namespace F126
def FO(j21:Int->Int->Int->UInt32->Int-> (List (Int×Int×UInt64×UInt64×Unit))->LU->Int->Int->UInt64->UInt64->Option (LU×Int×Int))(j24:Int->LU->Option (LU×Int×Int))(a f:Int)(g:LB)(b k h:Int)(n:List (Int×Int×UInt64×UInt64×Unit))(m:LU):Option (LU×Int×Int):=
if(Dg h (Bm f a))then
(jP g b k (Jr (Af k 81) b)).bind λ(ah,ae,af)=>
if(Bq af 0)then
some (([]:LU),0,af)
else
(Ue (Bq a 0)).bind λ_=>
(Ao n (Ko h a)).bind λ_=>
(λai:Option (LU×Int×Int)=>
both (
both (
(Ao n (Ko h a)).bind λp=>
(λao:Option (LU×Int×Int)=>
bo (
ao)) (
(OX ah ae 0 p.1 p.2.1 p.2.2.1 p.2.2.2.1).bind λ(w,v,aa,ab,ac,ad,y)=>
j21 k h y w v n m aa ab ac ad)) [
ai]) [
(Ao n (Ko h a)).bind λp=>
(λaj:Option (LU×Int×Int)=>
both (
bo (
aj)) [
aj]) (
(OX ah ae 0 p.1 p.2.1 p.2.2.1 p.2.2.2.1).bind λ(w,v,aa,ab,ac,ad,y)=>
j21 k h y w v n m aa ab ac ad),
bo (
ai)]) (
(Ao n (Ko h a)).bind λp=>
(OX ah ae 0 p.1 p.2.1 p.2.2.1 p.2.2.2.1).bind λ(w,v,aa,ab,ac,ad,y)=>
j21 k h y w v n m aa ab ac ad)
else
j24 k m
theorem fM: @FO= @Yh:=by
  unfold FO Yh
  try simp only[NZ,Zd,AH]
  all_goals
    repeat (refine funext λ_=>?_)
    repeat' first
      |with_reducible rfl
      |with_reducible refine Gn ?_ ?_
      |with_reducible refine Gi ?_ ?_ ?_
      |with_reducible refine Gp ?_ ?_ ?_ ?_
      |((with_reducible refine Km ?_ ?_);focus (intro h;first|(subst h;rfl)|(simp only[h];rfl)|(simp[Cz,Ac,h];done)))
      |with_reducible refine Kk λx=>?_
      |with_reducible refine Pr (λ_=>?_) (λ_=>?_)
      |(refine Du (λh=>by simp only[h,Kl,Cy,Cu,ite_self]) (λx h=>?_);(try simp only[h,Cy]))
      |(refine Et (λh=>?_) (λh=>?_)<;>simp only[h,if_true,if_false,Bool.false_eq_true])
abbrev R_:=(LU×Int×Int)
abbrev K_:=S->Option R_
def H:Hd:=⟨[Si,Si,.agg [Sb,Si]],[Ov 43,Si,Si],(.seq .d (.seq .d (.cut [0,1,5,9] [] (.seq .d (.blk (.loop [0,1,5,9,19] [] .d))) (.seq .d (.seq .d (.cut [11,12] [] (.seq .d (.blk (.loop [0,5,9,11,12,28,29] [⟨11,[],.own 43 (.int .u32)⟩] (.seq .d (.seq .d (.seq (.blk (.seq .d (.seq .d (.seq .d (.cut [0,5,9,11,12,13,15,16,17,18,28,29] [] (.mode false) (.seq .d (.cut [0,5,9,11,12,16,28,29] [] .d .d))))))) .d)))))) .d)))))),⟨[(201,F201.c),(202,F202.c),(203,F203.c)],gl,false⟩,[],f126⟩
def t16(a f:Int)(g:LB)(b k h:Int)(n:List (Int×Int×UInt64×UInt64×Unit))(m:LU):S:=⟨[(0,vi a),(5,.ptr 0 []),(9,.ptr 1 []),(11,.own 2),(12,vi k),(28,vi (Bm f a)),(29,vi h)],[.box 183 (.agg [vb g,vi b]),.box 255 (.val (.vec 6 (.cons (.int .i64) (.cons (.int .i64) (.cons (.int .u64) (.cons (.int .u64) .nil))))) n),Av 43 m],[]⟩
def z16:Nat->S->Option R_:=H.i P_ [r,r,r,r,r,l,r,d]
def t13(a f:Int)(g:LB)(b u:Int)(o:List (Int×Int×UInt64×UInt64×Unit)):S:=⟨[(0,vi a),(1,vi f),(5,.ptr 0 []),(9,.ptr 1 []),(19,vi u)],[.box 183 (.agg [vb g,vi b]),.box 255 (.val (.vec 6 (.cons (.int .i64) (.cons (.int .i64) (.cons (.int .u64) (.cons (.int .u64) .nil))))) o)],[]⟩
def z13:Nat->S->Option R_:=H.i P_ [r,r,l,r,d]
def x24(k:Int)(m:LU):Option R_:=H.e P_ [r,r,r,r,r,r] ⟨[(11,.own 0),(12,vi k)],[Av 43 m],[]⟩
def x22(Ck:K_)(a f:Int)(g:LB)(b k v:Int)(w:UInt32)(h:Int)(ag:List (Int×Int×UInt64×UInt64×Unit))(m:LU):Option R_:=H.e P_ [r,r,r,r,r,l,r,d,(lp Ck),r,r,l,d,r,r,r,r,r,r] ⟨[(0,vi a),(5,.ptr 0 []),(9,.ptr 1 []),(11,.own 2),(12,vi (Af k v)),(16,vu w),(28,vi (Bm f a)),(29,vi h)],[.box 183 (.agg [vb g,vi b]),.box 255 (.val (.vec 6 (.cons (.int .i64) (.cons (.int .i64) (.cons (.int .u64) (.cons (.int .u64) .nil))))) ag),Av 43 m],[]⟩
def x21(Ck:K_)(a f:Int)(g:LB)(b k h y:Int)(w:UInt32)(v:Int)(n:List (Int×Int×UInt64×UInt64×Unit))(m:LU)(aa ab:Int)(ac ad:UInt64):Option R_:=H.e P_ [r,r,r,r,r,l,r,d,(lp Ck),r,r,l,d,r,r,r,r] ⟨[(0,vi a),(5,.ptr 0 []),(9,.ptr 1 []),(11,.own 2),(12,vi k),(13,vi h),(15,vi y),(16,vu w),(17,vi v),(18,.ptr 3 []),(28,vi (Bm f a)),(29,vi h)],[.box 183 (.agg [vb g,vi b]),.box 255 (.val (.vec 6 (.cons (.int .i64) (.cons (.int .i64) (.cons (.int .u64) (.cons (.int .u64) .nil))))) n),Av 43 m,.box 254 (.agg [vi aa,vi ab,vq ac,vq ad])],[]⟩
def x16(a f:Int)(g:LB)(b k h:Int)(n:List (Int×Int×UInt64×UInt64×Unit))(m:LU):Option R_:=H.e P_ [r,r,r,r,r,l,r,d] (t16 a f g b k h n m)
def x15(a f:Int)(g:LB)(b:Int)(o:List (Int×Int×UInt64×UInt64×Unit)):Option R_:=H.e P_ [r,r,r] ⟨[(0,vi a),(1,vi f),(5,.ptr 0 []),(9,.ptr 1 [])],[.box 183 (.agg [vb g,vi b]),.box 255 (.val (.vec 6 (.cons (.int .i64) (.cons (.int .i64) (.cons (.int .u64) (.cons (.int .u64) .nil))))) o)],[]⟩
def x13(a f:Int)(g:LB)(b u:Int)(o:List (Int×Int×UInt64×UInt64×Unit)):Option R_:=H.e P_ [r,r,l,r,d] (t13 a f g b u o)
theorem e24:x24=XT:=by kernel_rfl
theorem e22(Ck:K_)(a f:Int)(g:LB)(b:Int):x22 Ck a f g b=HI (λk h n m=>Ck (t16 a f g b k h n m)) a f g b:=by kernel_rfl
theorem e21(Ck:K_)(a f:Int)(g:LB)(b:Int):x21 Ck a f g b=Xq (λk h n m=>Ck (t16 a f g b k h n m)) a f g b:=Eq.trans (b:=Xo (x22 Ck a f g b) a f g b) (by kernel_rfl) (by simp only[e22]<;>rfl)
theorem i16(a f:Int)(g:LB)(b:Int):∀(q:Nat) (k h:Int) (n:List (Int×Int×UInt64×UInt64×Unit)) (m:LU),z16 q (t16 a f g b k h n m)=Qk a f g b q k h n m:=
 ind (λ_ _ _ _=>by kernel_rfl) λq ih k h n m=>Eq.trans (b:=FO (x21 (z16 q) a f g b) x24 a f g b k h n m) (by kernel_rfl) (by rw[fM];simp only[e21,e24,ih]<;>rfl)
theorem e16:x16=YI:=by funext a f g b k h n m;exact Eq.trans (by kernel_rfl) ((i16 a f g b Cl k h n m).trans (by rw[Ar];rfl))
theorem e15:x15=HH:=Eq.trans (b:=VI x16) (by kernel_rfl) (by simp only[e16]<;>rfl)
theorem i13(a f:Int)(g:LB)(b:Int):∀(q:Nat) (u:Int) (o:List (Int×Int×UInt64×UInt64×Unit)),z13 q (t13 a f g b u o)=HK a f g b q u o:=
 ind (λ_ _=>by kernel_rfl) λq ih u o=>Eq.trans (b:=VO x15 (λu o=>(z13 q) (t13 a f g b u o)) a f g b u o) (by kernel_rfl) (by simp only[e15,ih]<;>rfl)
theorem e13:x13=Yi:=by funext a f g b u o;exact Eq.trans (by kernel_rfl) ((i13 a f g b Cl u o).trans (by rw[Ar];rfl))
def F:=u4 KW
theorem rn x:H.u P_ x=F x:=Eq.trans (b:=u4 (KV x13) x) (by kernel_rfl) (by simp only[e13]<;>rfl)
def c:Con:=⟨H.p,H.r,F⟩
theorem ok:ConOk P_ gl 126 c:=co H func126 (.cons F201.ok (.cons F202.ok (.cons F203.ok .nil))) rn
end F126
namespace F286
abbrev R_:=(Int×LX×LX×Int)
def H:Hd:=⟨[Si,.lf (.vec 16 (.int .i32)) none],[.agg [Si,.lf (.vec 16 (.int .i32)) none,.lf (.vec 16 (.int .i32)) none],Si],(.seq .d (.seq .d (.seq (.seq .d (.blk (.cut [4,6,9,11] [] .d .d))) .d))),⟨[],gl,false⟩,[],f286⟩
def x2(a:Int)(b:LX)(f:Bool):Option R_:=H.e P_ [r,r,l,r,d,r] ⟨[(4,.ptr 0 []),(6,.ptr 1 []),(9,vi a),(11,vt f)],[.box 279 (.agg [vi 0,.val (.vec 16 (.int .i32)) (List.replicate 16 (0:Int32)),.val (.vec 16 (.int .i32)) (List.replicate 16 (0:Int32))]),.box 279 (.agg [vi 10,.val (.vec 16 (.int .i32)) b,.val (.vec 16 (.int .i32)) (List.replicate 16 (0:Int32))])],[]⟩
theorem e2:x2=uC:=by kernel_rfl
def F:=u2 qM
theorem rn x:H.u P_ x=F x:=Eq.trans (b:=u2 (uQ x2) x) (by kernel_rfl) (by simp only[e2]<;>rfl)
def c:Con:=⟨H.p,H.r,F⟩
theorem ok:ConOk P_ gl 286 c:=co H func286 .nil rn
end F286
namespace F206
def H:Hd:=⟨[Si,.lf (.vec 16 (.int .i32)) none],[.agg [Si,Sx,.agg [Si,.lf (.vec 16 (.int .i32)) none,.lf (.vec 16 (.int .i32)) none]],Si],.d,⟨[(286,F286.c)],gl,false⟩,[],f206⟩
def F:=u2 P8
theorem rn x:H.u P_ x=F x:=by kernel_rfl
def c:Con:=⟨H.p,H.r,F⟩
theorem ok:ConOk P_ gl 206 c:=co H func206 (.cons F286.ok .nil) rn
end F206
namespace F208
def H:Hd:=⟨[Su],[Sx],.d,⟨[],gl,false⟩,[],f208⟩
def F:=ES
theorem rn x:H.u P_ x=F x:=by kernel_rfl
def c:Con:=⟨H.p,H.r,F⟩
theorem ok:ConOk P_ gl 208 c:=co H func208 .nil rn
end F208
namespace F287
def H:Hd:=⟨[.agg [Si,Sx,.agg [Si,.lf (.vec 16 (.int .i32)) none,.lf (.vec 16 (.int .i32)) none]]],[Si],.d,⟨[(286,F286.c)],gl,false⟩,[],f287⟩
def F:=u5 RC
theorem rn x:H.u P_ x=F x:=by kernel_rfl
def c:Con:=⟨H.p,H.r,F⟩
theorem ok:ConOk P_ gl 287 c:=co H func287 (.cons F286.ok .nil) rn
end F287
namespace F342
def H:Hd:=⟨[Si],[Si,Si],.d,⟨[],gl,false⟩,[],f342⟩
def F:=jH
theorem rn x:H.u P_ x=F x:=by kernel_rfl
def c:Con:=⟨H.p,H.r,F⟩
theorem ok:ConOk P_ gl 342 c:=co H func342 .nil rn
end F342
namespace F343
def H:Hd:=⟨[Si,Sx],[Sx],.d,⟨[],gl,false⟩,[],f343⟩
def F:=u2 YT
theorem rn x:H.u P_ x=F x:=by kernel_rfl
def c:Con:=⟨H.p,H.r,F⟩
theorem ok:ConOk P_ gl 343 c:=co H func343 .nil rn
end F343
namespace F288
def H:Hd:=⟨[Si,Sx],[Sx,Si],.d,⟨[(342,F342.c),(343,F343.c)],gl,false⟩,[],f288⟩
def F:=u2 RE
theorem rn x:H.u P_ x=F x:=by kernel_rfl
def c:Con:=⟨H.p,H.r,F⟩
theorem ok:ConOk P_ gl 288 c:=co H func288 (.cons F342.ok (.cons F343.ok .nil)) rn
end F288
namespace F366
def H:Hd:=⟨[.agg [Si,.lf (.vec 16 (.int .i32)) none,.lf (.vec 16 (.int .i32)) none]],[Si],.d,⟨[],gl,false⟩,[],f366⟩
def F:=u3 PB
theorem rn x:H.u P_ x=F x:=by kernel_rfl
def c:Con:=⟨H.p,H.r,F⟩
theorem ok:ConOk P_ gl 366 c:=co H func366 .nil rn
end F366
namespace F344
abbrev R_:=(Int32×Int)
def H:Hd:=⟨[.agg [Si,.lf (.vec 16 (.int .i32)) none,.lf (.vec 16 (.int .i32)) none]],[Sx,Si],(.seq .d (.seq .d (.seq .d (.cut [1,5] [] (.seq .d (.blk (.loop [1,5,18,19] [] .d))) .d)))),⟨[(366,F366.c)],gl,false⟩,[],f344⟩
def t4(b:LX)(a:Int)(f:LX)(g:Int32)(h:Int):S:=⟨[(1,.ptr 0 []),(5,vx g),(18,.val (.vec 16 (.int .i32)) b),(19,vi h)],[.box 279 (.agg [vi a,.val (.vec 16 (.int .i32)) b,.val (.vec 16 (.int .i32)) f])],[]⟩
def z4:Nat->S->Option R_:=H.i P_ [r,r,r,l,r,d]
def x6(g:Int32)(a:Int)(b f:LX):Option R_:=H.e P_ [r,r,r,r] ⟨[(1,.ptr 0 []),(5,vx g)],[.box 279 (.agg [vi a,.val (.vec 16 (.int .i32)) b,.val (.vec 16 (.int .i32)) f])],[]⟩
def x4(b:LX)(a:Int)(f:LX)(g:Int32)(h:Int):Option R_:=H.e P_ [r,r,r,l,r,d] (t4 b a f g h)
theorem e6:x6=aC:=by kernel_rfl
theorem i4(b:LX)(a:Int)(f:LX):∀(q:Nat) (g:Int32) (h:Int),z4 q (t4 b a f g h)=Yz b a f q g h:=
 ind (λ_ _=>by kernel_rfl) λq ih g h=>Eq.trans (b:=QF x6 (λg h=>(z4 q) (t4 b a f g h)) b a f g h) (by kernel_rfl) (by simp only[e6,ih]<;>rfl)
theorem e4:x4=aL:=by funext b a f g h;exact Eq.trans (by kernel_rfl) ((i4 b a f Cl g h).trans (by rw[Ar];rfl))
def F:=u3 eD
theorem rn x:H.u P_ x=F x:=Eq.trans (b:=u3 (ZZ x4) x) (by kernel_rfl) (by simp only[e4]<;>rfl)
def c:Con:=⟨H.p,H.r,F⟩
theorem ok:ConOk P_ gl 344 c:=co H func344 (.cons F366.ok .nil) rn
end F344
namespace F377
def H:Hd:=⟨[Si],[Sx],.d,⟨[],gl,false⟩,[],f377⟩
def F:=bQ
theorem rn x:H.u P_ x=F x:=by kernel_rfl
def c:Con:=⟨H.p,H.r,F⟩
theorem ok:ConOk P_ gl 377 c:=co H func377 .nil rn
end F377
namespace F367
abbrev R_:=(Int×LX×LX×Int)
def H:Hd:=⟨[.agg [Si,.lf (.vec 16 (.int .i32)) none,.lf (.vec 16 (.int .i32)) none],Sx],[.agg [Si,.lf (.vec 16 (.int .i32)) none,.lf (.vec 16 (.int .i32)) none],Si],(.seq .d (.seq .d (.seq .d (.cut [2,4] [] (.seq .d (.blk (.loop [1,2,4,19,20] [] .d))) .d)))),⟨[(366,F366.c),(377,F377.c)],gl,false⟩,[],f367⟩
def t4(h:Int32)(f:LX)(g a:Int)(b:LX):S:=⟨[(1,vx h),(2,.ptr 0 []),(4,.ptr 1 []),(19,.val (.vec 16 (.int .i32)) f),(20,vi a)],[.box 279 (.agg [vi g,.val (.vec 16 (.int .i32)) b,.val (.vec 16 (.int .i32)) f]),.box 279 (.agg [vi 0,.val (.vec 16 (.int .i32)) (List.replicate 16 (0:Int32)),.val (.vec 16 (.int .i32)) (List.replicate 16 (0:Int32))])],[]⟩
def z4:Nat->S->Option R_:=H.i P_ [r,r,r,l,r,d]
def x6(g:Int)(b f:LX):Option R_:=H.e P_ [r,r,r,r] ⟨[(2,.ptr 0 []),(4,.ptr 1 [])],[.box 279 (.agg [vi g,.val (.vec 16 (.int .i32)) b,.val (.vec 16 (.int .i32)) f]),.box 279 (.agg [vi 0,.val (.vec 16 (.int .i32)) (List.replicate 16 (0:Int32)),.val (.vec 16 (.int .i32)) (List.replicate 16 (0:Int32))])],[]⟩
def x4(h:Int32)(f:LX)(g a:Int)(b:LX):Option R_:=H.e P_ [r,r,r,l,r,d] (t4 h f g a b)
theorem e6:x6=nA:=by kernel_rfl
theorem i4(h:Int32)(f:LX)(g:Int):∀(q:Nat) (a:Int) (b:LX),z4 q (t4 h f g a b)=Yv h f g q a b:=
 ind (λ_ _=>by kernel_rfl) λq ih a b=>Eq.trans (b:=QG x6 (λa b=>(z4 q) (t4 h f g a b)) h f g a b) (by kernel_rfl) (by simp only[e6,ih]<;>rfl)
theorem e4:x4=mX:=by funext h f g a b;exact Eq.trans (by kernel_rfl) ((i4 h f g Cl a b).trans (by rw[Ar];rfl))
def F:=u4 fS
theorem rn x:H.u P_ x=F x:=Eq.trans (b:=u4 (aR x4) x) (by kernel_rfl) (by simp only[e4]<;>rfl)
def c:Con:=⟨H.p,H.r,F⟩
theorem ok:ConOk P_ gl 367 c:=co H func367 (.cons F366.ok (.cons F377.ok .nil)) rn
end F367
namespace F368
def ZS(j2:Int32->Int->LX->LX->Option (Int×LX×LX×Int))(b:Int)(f a:LX)(g:Int32):Option (Int×LX×LX×Int):=
(PB b f a).bind λh=>
if(Bq h 0)then
some (0,(List.replicate 16 (0:Int32)),(List.replicate 16 (0:Int32)),h)
else
both (
(pB 16 1 16).bind λ_=>
(pB 16 0 16).bind λ_=>
j2 g b f a) [
(pB 16 0 16).bind λ_=>
(pB 16 1 16).bind λ_=>
j2 g b f a]
theorem tF: @ZS= @UL:=by
  unfold ZS UL
  repeat (refine funext λ_=>?_)
  repeat' first
    |with_reducible rfl
    |with_reducible refine Gn ?_ ?_
    |with_reducible refine Gi ?_ ?_ ?_
    |with_reducible refine Gp ?_ ?_ ?_ ?_
    |((with_reducible refine Km ?_ ?_);focus (intro h;first|(subst h;rfl)|(simp only[h];rfl)|(simp[Cz,Ac,h];done)))
    |with_reducible refine Kk λx=>?_
    |with_reducible refine Pr (λ_=>?_) (λ_=>?_)
    |(refine Du (λh=>by simp only[h,Kl,Cy,Cu,ite_self]) (λx h=>?_);(try simp only[h,Cy]))
    |(refine Et (λh=>?_) (λh=>?_)<;>simp only[h,if_true,if_false,Bool.false_eq_true])
abbrev R_:=(Int×LX×LX×Int)
def H:Hd:=⟨[.agg [Si,.lf (.vec 16 (.int .i32)) none,.lf (.vec 16 (.int .i32)) none],Sx],[.agg [Si,.lf (.vec 16 (.int .i32)) none,.lf (.vec 16 (.int .i32)) none],Si],(.seq .d (.seq .d (.cut [1,2,4] [] .d .d))),⟨[(366,F366.c)],gl,false⟩,[],f368⟩
def x2(g:Int32)(b:Int)(f a:LX):Option R_:=H.e P_ [r,r,r] ⟨[(1,vx g),(2,.ptr 0 []),(4,.ptr 1 [])],[.box 279 (.agg [vi b,.val (.vec 16 (.int .i32)) f,.val (.vec 16 (.int .i32)) (Zf a (1:Int) ((16:Int)-(1:Int)) (cC a (0:Int) ((16:Int)-(0:Int))))]),.box 279 (.agg [vi 0,.val (.vec 16 (.int .i32)) (List.replicate 16 (0:Int32)),.val (.vec 16 (.int .i32)) (List.replicate 16 (0:Int32))])],[]⟩
theorem e2:x2=eP:=by kernel_rfl
def F:=u4 mF
theorem rn x:H.u P_ x=F x:=Eq.trans (b:=u4 (ZS x2) x) (by kernel_rfl) (by unfold F;rw[tF];simp only[e2]<;>rfl)
def c:Con:=⟨H.p,H.r,F⟩
theorem ok:ConOk P_ gl 368 c:=co H func368 (.cons F366.ok .nil) rn
end F368
namespace F345
def H:Hd:=⟨[.agg [Si,.lf (.vec 16 (.int .i32)) none,.lf (.vec 16 (.int .i32)) none],Sx,Sx],[.agg [Si,.lf (.vec 16 (.int .i32)) none,.lf (.vec 16 (.int .i32)) none]],.d,⟨[(367,F367.c),(368,F368.c)],gl,false⟩,[],f345⟩
def F:=u5 nU
theorem rn x:H.u P_ x=F x:=by kernel_rfl
def c:Con:=⟨H.p,H.r,F⟩
theorem ok:ConOk P_ gl 345 c:=co H func345 (.cons F367.ok (.cons F368.ok .nil)) rn
end F345
namespace F289
def H:Hd:=⟨[.agg [Si,.lf (.vec 16 (.int .i32)) none,.lf (.vec 16 (.int .i32)) none],Sx],[Sx,.agg [Si,.lf (.vec 16 (.int .i32)) none,.lf (.vec 16 (.int .i32)) none],Si],.d,⟨[(344,F344.c),(345,F345.c)],gl,false⟩,[],f289⟩
def F:=u4 kU
theorem rn x:H.u P_ x=F x:=by kernel_rfl
def c:Con:=⟨H.p,H.r,F⟩
theorem ok:ConOk P_ gl 289 c:=co H func289 (.cons F344.ok (.cons F345.ok .nil)) rn
end F289
namespace F207
def WK(a:Int)(b:Int32)(f:Int)(g h:LX)(o:Int32):Option (Int32×Int×Int32×Int×LX×LX×Int):=
(RC a b f g h).bind λk=>
if(Bq k 0)then
some (0,0,0,0,(List.replicate 16 (0:Int32)),(List.replicate 16 (0:Int32)),k)
else
(RE a b).bind λ(m,y)=>
(kU f g h o).bind λ(n,p,u,v,w)=>
(λaa:Option (Int32×Int×Int32×Int×LX×LX×Int)=>
bo (
aa)) (
some ((Af n m),a,(Af n m),p,u,v,w))
theorem pV: @WK= @Oo:=by
  unfold WK Oo;simp only[NZ,Zd,AH]
def H:Hd:=⟨[.agg [Si,Sx,.agg [Si,.lf (.vec 16 (.int .i32)) none,.lf (.vec 16 (.int .i32)) none]],Sx],[Sx,.agg [Si,Sx,.agg [Si,.lf (.vec 16 (.int .i32)) none,.lf (.vec 16 (.int .i32)) none]],Si],(.seq .d (.seq .d (.seq .d (.seq .d (.seq (.mode false) .d))))),⟨[(287,F287.c),(288,F288.c),(289,F289.c)],gl,false⟩,[],f207⟩
def F:=u6 Oo
theorem rn x:H.u P_ x=F x:=Eq.trans (b:=u6 WK x) (by kernel_rfl) (by rw[pV];rfl)
def c:Con:=⟨H.p,H.r,F⟩
theorem ok:ConOk P_ gl 207 c:=co H func207 (.cons F287.ok (.cons F288.ok (.cons F289.ok .nil))) rn
end F207
namespace F290
def H:Hd:=⟨[Si,Sw],[Si],.d,⟨[],gl,false⟩,[],f290⟩
def F:=u2 lZ
theorem rn x:H.u P_ x=F x:=by kernel_rfl
def c:Con:=⟨H.p,H.r,F⟩
theorem ok:ConOk P_ gl 290 c:=co H func290 .nil rn
end F290
namespace F291
def Ok(a:LX):Option (LX):=
wJ a (
some ([]:LX)) (
(Cz ([]:LX) a).bind λb=>
some b)
theorem NC: @Ok= @Iz:=by
  unfold Ok Iz
  repeat (refine funext λ_=>?_)
  repeat' first
    |with_reducible rfl
    |with_reducible refine Gn ?_ ?_
    |with_reducible refine Gi ?_ ?_ ?_
    |with_reducible refine Gp ?_ ?_ ?_ ?_
    |((with_reducible refine Km ?_ ?_);focus (intro h;first|(subst h;rfl)|(simp only[h];rfl)|(simp[Cz,Ac,h];done)))
    |with_reducible refine Kk λx=>?_
    |with_reducible refine Pr (λ_=>?_) (λ_=>?_)
    |(refine Du (λh=>by simp only[h,Kl,Cy,Cu,ite_self]) (λx h=>?_);(try simp only[h,Cy]))
    |(refine Et (λh=>?_) (λh=>?_)<;>simp only[h,if_true,if_false,Bool.false_eq_true])
def H:Hd:=⟨[Sw],[Ow 21],.d,⟨[],gl,false⟩,[],f291⟩
def F:=Iz
theorem rn x:H.u P_ x=F x:=Eq.trans (b:=Ok x) (by kernel_rfl) (by rw[NC];rfl)
def c:Con:=⟨H.p,H.r,F⟩
theorem ok:ConOk P_ gl 291 c:=co H func291 .nil rn
end F291
namespace F209
abbrev R_:=(LX×Int)
abbrev K_:=S->Option R_
def H:Hd:=⟨[Si,Sw],[Ow 21,Si],(.seq .d (.seq .d (.seq .d (.cut [7] [] (.seq .d (.blk (.loop [0,7,8] [] (.seq .d (.cut [0,7,8] [] (.blk (.keep [0,7,8,24,25,26,27,28,29] true)) .d))))) .d)))),⟨[(290,F290.c),(291,F291.c)],gl,true⟩,[(292,(.seq .d (.cut [0,2] [] .d (.seq .d (.blk (.loop [0,3] [] .d))))))],f209⟩
def t18(b a g:Int)(h:LX):S:=⟨[(0,.view true 0 [] (.int .i32) a ((Af a b)-a)),(3,vi g)],[Aw 21 h],[[(0,vi b),(7,.own 0),(8,vi a),(24,.own 0),(25,vi a),(26,vi a),(27,vi b),(28,vi (Af a b)),(29,.view true 0 [] (.int .i32) a ((Af a b)-a))]]⟩
def z18(YO:K_):Nat->S->Option R_:=H.i P_ [r,r,r,l,r,d,(lp YO),r,l,d,(call 6 292),r,r,r,d]
def t12(b a:Int)(f:LX):S:=⟨[(0,vi b),(7,.own 0),(8,vi a)],[Aw 21 f],[]⟩
def z12:Nat->S->Option R_:=H.i P_ [r,r,r,l,r,d]
def x22(f:LX):Option R_:=H.e P_ [r,r,r,r] ⟨[(7,.own 0)],[Aw 21 f],[]⟩
def x20(YO:K_)(b a:Int)(h:LX):Option R_:=H.e P_ [r,r,r,l,r,d,(lp YO),r,r] ⟨[(0,vi b),(7,.own 0),(8,vi a)],[Aw 21 h],[]⟩
def x18(YO:K_)(b a g:Int)(h:LX):Option R_:=H.e P_ [r,r,r,l,r,d,(lp YO),r,l,d,(call 6 292),r,r,r,d] (t18 b a g h)
def x17(YO:K_)(b a:Int)(k:LX):Option R_:=H.e P_ [r,r,r,l,r,d,(lp YO),r,l,d,(call 6 292),r,r] ⟨[(0,.view true 0 [] (.int .i32) a ((Af a b)-a)),(2,vi (Au ((Af a b)-a) (1:Int)))],[Aw 21 k],[[(0,vi b),(7,.own 0),(8,vi a),(24,.own 0),(25,vi a),(26,vi a),(27,vi b),(28,vi (Af a b)),(29,.view true 0 [] (.int .i32) a ((Af a b)-a))]]⟩
def x12(b a:Int)(f:LX):Option R_:=H.e P_ [r,r,r,l,r,d] (t12 b a f)
theorem e22:x22=pP:=by kernel_rfl
theorem e20(YO:K_)(b:Int):x20 YO b=eK (λa f=>YO (t12 b a f)) b:=by kernel_rfl
theorem i18(YO:K_)(b a:Int):∀(q:Nat) (g:Int) (h:LX),z18 YO q (t18 b a g h)=EO (λa f=>YO (t12 b a f)) b a q g h:=
 ind (λ_ _=>by kernel_rfl) λq ih g h=>Eq.trans (b:=UG (x20 YO b) (λg h=>(z18 YO q) (t18 b a g h)) b a g h) (by kernel_rfl) (by simp only[e20,ih]<;>rfl)
theorem e18(YO:K_)(b:Int):x18 YO b=dI (λa f=>YO (t12 b a f)) b:=by funext a g h;exact Eq.trans (by kernel_rfl) ((i18 YO b a Cl g h).trans (by rw[Ar];rfl))
theorem e17(YO:K_)(b:Int):x17 YO b=UQ (λa f=>YO (t12 b a f)) b:=Eq.trans (b:=dA (x18 YO b) b) (by kernel_rfl) (by simp only[e18]<;>rfl)
theorem i12(b:Int):∀(q:Nat) (a:Int) (f:LX),z12 q (t12 b a f)=Xt b q a f:=
 ind (λ_ _=>by kernel_rfl) λq ih a f=>Eq.trans (b:=dF (x17 (z12 q) b) x22 b a f) (by kernel_rfl) (by simp only[e17,e22,ih]<;>rfl)
theorem e12:x12=eQ:=by funext b a f;exact Eq.trans (by kernel_rfl) ((i12 b Cl a f).trans (by rw[Ar];rfl))
def F:=u2 pY
theorem rn x:H.u P_ x=F x:=Eq.trans (b:=u2 (kY x12) x) (by kernel_rfl) (by simp only[e12]<;>rfl)
def c:Con:=⟨H.p,H.r,F⟩
theorem ok:ConOk P_ gl 209 c:=cr H func209 (.cons F290.ok (.cons F291.ok .nil)) (Mr.cons ent292 Mr.nil) rn
end F209
namespace F169
abbrev R_:=Int
def H:Hd:=⟨[Si,Sw],[Si],(.seq .d (.seq .d (.seq .d (.seq .d (.cut [] [] (.seq .d (.blk (.loop [5,6,22,23,24] [] .d))) .d))))),⟨[(151,F151.c)],gl,false⟩,[],f169⟩
def t4(b f:Int32)(a:LX)(g:Int):S:=⟨[(5,vx b),(6,vx f),(22,vw a),(23,vi (Ac a)),(24,vi g)],[],[]⟩
def z4:Nat->S->Option R_:=H.i P_ [r,r,r,r,l,r,d]
def x6:Option R_:=H.e P_ [r,r,r,r,r] ⟨[],[],[]⟩
def x4(b f:Int32)(a:LX)(g:Int):Option R_:=H.e P_ [r,r,r,r,l,r,d] (t4 b f a g)
theorem e6:x6=jZ:=by kernel_rfl
theorem i4(b f:Int32)(a:LX):∀(q:Nat) (g:Int),z4 q (t4 b f a g)=Wb b f a q g:=
 ind (λ_=>by kernel_rfl) λq ih g=>Eq.trans (b:=JV x6 (λg=>(z4 q) (t4 b f a g)) b f a g) (by kernel_rfl) (by simp only[e6,ih]<;>rfl)
theorem e4:x4=iC:=by funext b f a g;exact Eq.trans (by kernel_rfl) ((i4 b f a Cl g).trans (by rw[Ar];rfl))
def F:=u2 IQ
theorem rn x:H.u P_ x=F x:=Eq.trans (b:=u2 (XI x4) x) (by kernel_rfl) (by simp only[e4]<;>rfl)
def c:Con:=⟨H.p,H.r,F⟩
theorem ok:ConOk P_ gl 169 c:=co H func169 (.cons F151.ok .nil) rn
end F169
namespace F128
def DE(j16:Int->Int32->Int-> (List (Int×Int32×(Int×LX×LX×Unit)×Unit))->LX->Int->Int32->Int->LX->LX->Option (LX×Int))(j18:Int->Int->LX->Option (LX×Int))(f:LU)(a b g:Int)(h:List (Int×Int32×(Int×LX×LX×Unit)×Unit))(k:LX):Option (LX×Int):=
if(Dg g (Ac f))then
(Ao f g).bind λag=>
(Ue (Bq a 0)).bind λ_=>
(Ao h (Ko g a)).bind λ_=>
both (
(Ao h (Ko g a)).bind λm=>
both (
(ES ag).bind λae=>
(λao:Option (LX×Int)=>
bo (
ao)) (
(Oo m.1 m.2.1 m.2.2.1.1 m.2.2.1.2.1 m.2.2.1.2.2.1 ae).bind λ(w,y,v,aa,ab,ac,u)=>
j16 g w u h k y v aa ab ac)) [
(ES ag).bind λae=>
(Oo m.1 m.2.1 m.2.2.1.1 m.2.2.1.2.1 m.2.2.1.2.2.1 ae).bind λ(w,y,v,aa,ab,ac,u)=>
j16 g w u h k y v aa ab ac]) [
(ES ag).bind λaf=>
both (
(Ao h (Ko g a)).bind λad=>
(λap:Option (LX×Int)=>
bo (
ap)) (
(Oo ad.1 ad.2.1 ad.2.2.1.1 ad.2.2.1.2.1 ad.2.2.1.2.2.1 af).bind λ(w,y,v,aa,ab,ac,u)=>
j16 g w u h k y v aa ab ac)) [
(Ao h (Ko g a)).bind λad=>
(Oo ad.1 ad.2.1 ad.2.2.1.1 ad.2.2.1.2.1 ad.2.2.1.2.2.1 af).bind λ(w,y,v,aa,ab,ac,u)=>
j16 g w u h k y v aa ab ac],
both (
(Ao h (Ko g a)).bind λm=>
(ES ag).bind λae=>
(Oo m.1 m.2.1 m.2.2.1.1 m.2.2.1.2.1 m.2.2.1.2.2.1 ae).bind λ(w,y,v,aa,ab,ac,u)=>
j16 g w u h k y v aa ab ac) [
(ES ag).bind λaf=>
(Ao h (Ko g a)).bind λad=>
(Oo ad.1 ad.2.1 ad.2.2.1.1 ad.2.2.1.2.1 ad.2.2.1.2.2.1 af).bind λ(w,y,v,aa,ab,ac,u)=>
j16 g w u h k y v aa ab ac]]
else
j18 a b k
theorem bG: @DE= @Ox:=by
  unfold DE Ox
  try simp only[NZ,Zd,AH]
  all_goals
    repeat (refine funext λ_=>?_)
    repeat' first
      |with_reducible rfl
      |with_reducible refine Gn ?_ ?_
      |with_reducible refine Gi ?_ ?_ ?_
      |with_reducible refine Gp ?_ ?_ ?_ ?_
      |((with_reducible refine Km ?_ ?_);focus (intro h;first|(subst h;rfl)|(simp only[h];rfl)|(simp[Cz,Ac,h];done)))
      |with_reducible refine Kk λx=>?_
      |with_reducible refine Pr (λ_=>?_) (λ_=>?_)
      |(refine Du (λh=>by simp only[h,Kl,Cy,Cu,ite_self]) (λx h=>?_);(try simp only[h,Cy]))
      |(refine Et (λh=>?_) (λh=>?_)<;>simp only[h,if_true,if_false,Bool.false_eq_true])
abbrev R_:=(LX×Int)
abbrev K_:=S->Option R_
def H:Hd:=⟨[.agg [Si,Si],.lf (.vec 16 (.int .i32)) none,Sv],[Ow 21,Si],(.seq .d (.seq .d (.cut [2,3,8] [] (.seq .d (.blk (.loop [2,3,4,8,20] [] .d))) (.seq .d (.cut [3,10] [] (.seq .d (.blk (.loop [3,8,10,33,34,35] [⟨10,[],.own 21 (.int .i32)⟩] (.seq .d (.seq .d (.seq (.blk (.seq .d (.seq .d (.cut [3,8,10,13,14,15,16,33,34,35] [] (.mode false) .d)))) .d)))))) .d))))),⟨[(169,F169.c),(206,F206.c),(207,F207.c),(208,F208.c),(209,F209.c)],gl,false⟩,[],f128⟩
def t13(f:LU)(a b g:Int)(h:List (Int×Int32×(Int×LX×LX×Unit)×Unit))(k:LX):S:=⟨[(3,.ptr 0 []),(8,.ptr 1 []),(10,.own 2),(33,vv f),(34,vi (Ac f)),(35,vi g)],[.box 104 (.agg [vi a,vi b]),.box 282 (.val (.vec 6 (.cons (.int .i64) (.cons (.int .i32) (.cons (.cons (.int .i64) (.cons (.vec 16 (.int .i32)) (.cons (.vec 16 (.int .i32)) .nil))) .nil)))) h),Aw 21 k],[]⟩
def z13:Nat->S->Option R_:=H.i P_ [r,r,r,r,l,r,d]
def t10(f:LU)(a b:Int)(o:LX)(p:Int)(n:List (Int×Int32×(Int×LX×LX×Unit)×Unit)):S:=⟨[(2,vv f),(3,.ptr 0 []),(4,.ptr 1 []),(8,.ptr 2 []),(20,vi p)],[.box 104 (.agg [vi a,vi b]),.box 105 (.val (.vec 16 (.int .i32)) o),.box 282 (.val (.vec 6 (.cons (.int .i64) (.cons (.int .i32) (.cons (.cons (.int .i64) (.cons (.vec 16 (.int .i32)) (.cons (.vec 16 (.int .i32)) .nil))) .nil)))) n)],[]⟩
def z10:Nat->S->Option R_:=H.i P_ [r,r,l,r,d]
def x18(a b:Int)(k:LX):Option R_:=H.e P_ [r,r,r,r,r] ⟨[(3,.ptr 0 []),(10,.own 1)],[.box 104 (.agg [vi a,vi b]),Aw 21 k],[]⟩
def x16(Apo:K_)(a:Int)(f:LU)(b g:Int)(w:Int32)(u:Int)(h:List (Int×Int32×(Int×LX×LX×Unit)×Unit))(k:LX)(y:Int)(v:Int32)(aa:Int)(ab ac:LX):Option R_:=H.e P_ [r,r,r,r,l,r,d,(lp Apo),r,r,l,d,r,r,r] ⟨[(3,.ptr 0 []),(8,.ptr 1 []),(10,.own 2),(13,.ptr 1 [.idx (Ko g a) 35]),(14,vx w),(15,.ptr 3 []),(16,vi u),(33,vv f),(34,vi (Ac f)),(35,vi g)],[.box 104 (.agg [vi a,vi b]),.box 282 (.val (.vec 6 (.cons (.int .i64) (.cons (.int .i32) (.cons (.cons (.int .i64) (.cons (.vec 16 (.int .i32)) (.cons (.vec 16 (.int .i32)) .nil))) .nil)))) h),Aw 21 k,.box 281 (.agg [vi y,vx v,.agg [vi aa,.val (.vec 16 (.int .i32)) ab,.val (.vec 16 (.int .i32)) ac]])],[]⟩
def x13(f:LU)(a b g:Int)(h:List (Int×Int32×(Int×LX×LX×Unit)×Unit))(k:LX):Option R_:=H.e P_ [r,r,r,r,l,r,d] (t13 f a b g h k)
def x12(f:LU)(a b:Int)(n:List (Int×Int32×(Int×LX×LX×Unit)×Unit)):Option R_:=H.e P_ [r,r,r] ⟨[(2,vv f),(3,.ptr 0 []),(8,.ptr 1 [])],[.box 104 (.agg [vi a,vi b]),.box 282 (.val (.vec 6 (.cons (.int .i64) (.cons (.int .i32) (.cons (.cons (.int .i64) (.cons (.vec 16 (.int .i32)) (.cons (.vec 16 (.int .i32)) .nil))) .nil)))) n)],[]⟩
def x10(f:LU)(a b:Int)(o:LX)(p:Int)(n:List (Int×Int32×(Int×LX×LX×Unit)×Unit)):Option R_:=H.e P_ [r,r,l,r,d] (t10 f a b o p n)
theorem e18:x18=Oy:=by kernel_rfl
theorem e16(Apo:K_)(f:LU)(a b:Int):x16 Apo a f b=FR (λg h k=>Apo (t13 f a b g h k)) a f b:=by kernel_rfl
theorem i13(f:LU)(a b:Int):∀(q:Nat) (g:Int) (h:List (Int×Int32×(Int×LX×LX×Unit)×Unit)) (k:LX),z13 q (t13 f a b g h k)=Lo f a b q g h k:=
 ind (λ_ _ _=>by kernel_rfl) λq ih g h k=>Eq.trans (b:=DE (x16 (z13 q) a f b) x18 f a b g h k) (by kernel_rfl) (by rw[bG];simp only[e16,e18,ih]<;>rfl)
theorem e13:x13=UC:=by funext f a b g h k;exact Eq.trans (by kernel_rfl) ((i13 f a b Cl g h k).trans (by rw[Ar];rfl))
theorem e12:x12=GB:=Eq.trans (b:=TW x13) (by kernel_rfl) (by simp only[e13]<;>rfl)
theorem i10(f:LU)(a b:Int)(o:LX):∀(q:Nat) (p:Int) (n:List (Int×Int32×(Int×LX×LX×Unit)×Unit)),z10 q (t10 f a b o p n)=FZ f a b o q p n:=
 ind (λ_ _=>by kernel_rfl) λq ih p n=>Eq.trans (b:=UA x12 (λp n=>(z10 q) (t10 f a b o p n)) f a b o p n) (by kernel_rfl) (by simp only[e12,ih]<;>rfl)
theorem e10:x10=Vg:=by funext f a b o p n;exact Eq.trans (by kernel_rfl) ((i10 f a b o Cl p n).trans (by rw[Ar];rfl))
def F:=u4 Yr
theorem rn x:H.u P_ x=F x:=Eq.trans (b:=u4 (HW x10) x) (by kernel_rfl) (by simp only[e10]<;>rfl)
def c:Con:=⟨H.p,H.r,F⟩
theorem ok:ConOk P_ gl 128 c:=co H func128 (.cons F169.ok (.cons F206.ok (.cons F207.ok (.cons F208.ok (.cons F209.ok .nil))))) rn
end F128
namespace F68
def H:Hd:=⟨[.agg [Si,Si],.lf (.vec 16 (.int .i32)) none,Si,Sb],[Ow 21,Si],.d,⟨[(123,F123.c),(124,F124.c),(125,F125.c),(126,F126.c),(127,F127.c),(128,F128.c)],gl,false⟩,[],f68⟩
def F:=u5 Qj
theorem rn x:H.u P_ x=F x:=by kernel_rfl
def c:Con:=⟨H.p,H.r,F⟩
theorem ok:ConOk P_ gl 68 c:=co H func68 (.cons F123.ok (.cons F124.ok (.cons F125.ok (.cons F126.ok (.cons F127.ok (.cons F128.ok .nil)))))) rn
end F68
namespace F95
abbrev R_:=(LB×Int)
abbrev K_:=S->Option R_
def H:Hd:=⟨[Si,Sw],[Ob 5,Si],(.seq .d (.seq .d (.seq .d (.cut [7] [] (.seq .d (.blk (.loop [0,7,17,18,19] [⟨7,[],.own 5 (.int .u8)⟩] (.seq .d (.seq .d (.cut [0,7,17,18,19] [] (.blk (.seq .d (.cut [0,7,9,17,18,19] [] .d (.seq .d (.blk (.loop [0,7,9,17,18,19,28,29] [] .d)))))) .d)))))) .d)))),⟨[(169,F169.c)],gl,false⟩,[],f95⟩
def t26(b:Int)(a:LX)(k:Int32)(f m:Int)(h:LB):S:=⟨[(0,vi b),(7,.own 0),(9,vx k),(17,vw a),(18,vi (Ac a)),(19,vi f),(28,vi (By b (8:Int))),(29,vi m)],[Ab 5 h],[]⟩
def z26(Ck:K_):Nat->S->Option R_:=H.i P_ [r,r,r,l,r,d,(lp Ck),r,r,l,d,r,r,r,d]
def t16(b:Int)(a:LX)(f:Int)(g:LB):S:=⟨[(0,vi b),(7,.own 0),(17,vw a),(18,vi (Ac a)),(19,vi f)],[Ab 5 g],[]⟩
def z16:Nat->S->Option R_:=H.i P_ [r,r,r,l,r,d]
def x30(g:LB):Option R_:=H.e P_ [r,r,r,r] ⟨[(7,.own 0)],[Ab 5 g],[]⟩
def x28(Ck:K_)(b:Int)(a:LX)(f:Int)(h:LB):Option R_:=H.e P_ [r,r,r,l,r,d,(lp Ck),r,r,r] ⟨[(0,vi b),(7,.own 0),(17,vw a),(18,vi (Ac a)),(19,vi f)],[Ab 5 h],[]⟩
def x26(Ck:K_)(b:Int)(a:LX)(k:Int32)(f m:Int)(h:LB):Option R_:=H.e P_ [r,r,r,l,r,d,(lp Ck),r,r,l,d,r,r,r,d] (t26 b a k f m h)
def x25(Ck:K_)(b:Int)(a:LX)(f:Int)(g:LB)(k:Int32):Option R_:=H.e P_ [r,r,r,l,r,d,(lp Ck),r,r,l,d,r,r] ⟨[(0,vi b),(7,.own 0),(9,vx k),(17,vw a),(18,vi (Ac a)),(19,vi f)],[Ab 5 g],[]⟩
def x16(b:Int)(a:LX)(f:Int)(g:LB):Option R_:=H.e P_ [r,r,r,l,r,d] (t16 b a f g)
theorem e30:x30=gJ:=by kernel_rfl
theorem e28(Ck:K_)(b:Int)(a:LX):x28 Ck b a=SV (λf g=>Ck (t16 b a f g)) b a:=by kernel_rfl
theorem i26(Ck:K_)(b:Int)(a:LX)(k:Int32)(f:Int):∀(q:Nat) (m:Int) (h:LB),z26 Ck q (t26 b a k f m h)=Mb (λf g=>Ck (t16 b a f g)) b a k f q m h:=
 ind (λ_ _=>by kernel_rfl) λq ih m h=>Eq.trans (b:=GY (x28 Ck b a) (λm h=>(z26 Ck q) (t26 b a k f m h)) b a k f m h) (by kernel_rfl) (by simp only[e28,ih]<;>rfl)
theorem e26(Ck:K_)(b:Int)(a:LX):x26 Ck b a=TJ (λf g=>Ck (t16 b a f g)) b a:=by funext k f m h;exact Eq.trans (by kernel_rfl) ((i26 Ck b a k f Cl m h).trans (by rw[Ar];rfl))
theorem e25(Ck:K_)(b:Int)(a:LX):x25 Ck b a=Ot (λf g=>Ck (t16 b a f g)) b a:=Eq.trans (b:=SK (x26 Ck b a) b a) (by kernel_rfl) (by simp only[e26]<;>rfl)
theorem i16(b:Int)(a:LX):∀(q:Nat) (f:Int) (g:LB),z16 q (t16 b a f g)=Ho b a q f g:=
 ind (λ_ _=>by kernel_rfl) λq ih f g=>Eq.trans (b:=HD (x25 (z16 q) b a) x30 b a f g) (by kernel_rfl) (by simp only[e25,e30,ih]<;>rfl)
theorem e16:x16=gE:=by funext b a f g;exact Eq.trans (by kernel_rfl) ((i16 b a Cl f g).trans (by rw[Ar];rfl))
def F:=u2 Ma
theorem rn x:H.u P_ x=F x:=Eq.trans (b:=u2 (XJ x16) x) (by kernel_rfl) (by simp only[e16]<;>rfl)
def c:Con:=⟨H.p,H.r,F⟩
theorem ok:ConOk P_ gl 95 c:=co H func95 (.cons F169.ok .nil) rn
end F95
namespace F374
abbrev R_:=Int
def H:Hd:=⟨[Sl,Si],[Si],(.seq .d (.cut [] [] (.seq .d (.blk (.loop [0,1,7,8] [] .d))) .d)),⟨[],gl,false⟩,[],f374⟩
def t4(a:LI)(b f:Int):S:=⟨[(0,vl a),(1,vi b),(7,vi (Ac a)),(8,vi f)],[],[]⟩
def z4:Nat->S->Option R_:=H.i P_ [r,l,r,d]
def x6:Option R_:=H.e P_ [r,r] ⟨[],[],[]⟩
def x4(a:LI)(b f:Int):Option R_:=H.e P_ [r,l,r,d] (t4 a b f)
theorem e6:x6=Qa:=by kernel_rfl
theorem i4(a:LI)(b:Int):∀(q:Nat) (f:Int),z4 q (t4 a b f)=Ci a b q f:=
 ind (λ_=>by kernel_rfl) λq ih f=>Eq.trans (b:=Fj x6 (λf=>(z4 q) (t4 a b f)) a b f) (by kernel_rfl) (by simp only[e6,ih]<;>rfl)
theorem e4:x4=Ji:=by funext a b f;exact Eq.trans (by kernel_rfl) ((i4 a b Cl f).trans (by rw[Ar];rfl))
def F:=u2 La
theorem rn x:H.u P_ x=F x:=Eq.trans (b:=u2 (Je x4) x) (by kernel_rfl) (by simp only[e4]<;>rfl)
def c:Con:=⟨H.p,H.r,F⟩
theorem ok:ConOk P_ gl 374 c:=co H func374 .nil rn
end F374
namespace F359
def H:Hd:=⟨[Sl,Si],[Sz],.d,⟨[(374,F374.c)],gl,false⟩,[],f359⟩
def F:=u2 Ja
theorem rn x:H.u P_ x=F x:=by kernel_rfl
def c:Con:=⟨H.p,H.r,F⟩
theorem ok:ConOk P_ gl 359 c:=co H func359 (.cons F374.ok .nil) rn
end F359
namespace F311
def H:Hd:=⟨[Si],[Sz],.d,⟨[(359,F359.c)],gl,false⟩,[],f311⟩
def F:=Un
theorem rn x:H.u P_ x=F x:=by kernel_rfl
def c:Con:=⟨H.p,H.r,F⟩
theorem ok:ConOk P_ gl 311 c:=co H func311 (.cons F359.ok .nil) rn
end F311
namespace F237
def HG(j28:Bool->Int->Option Int)(w ah:Int)(g a:LB)(k p o u v b:Int)(m:Bool)(n:Int)(ao:LX)(f:LI)(h:LB):Option Int:=
if(Bq ah 0)then
(Al ah).bind λ(br,bs)=>
j28 br bs
else
(Ma o ao).bind λ(bt,be)=>
if(Bq be 0)then
(Al be).bind λ(bu,bv)=>
j28 bu bv
else
(Cz h bt).bind λdv=>
(λfa:Option Int=>
bo (
fa)) (
(Bp a w (Ac a)).bind λdw=>
j28 false 0)
theorem gR: @HG= @BM:=by
  unfold HG BM;simp only[NZ,Zd,AH]
def JO(j13:Bool->Int->Option Int)(j12:LB->LB->Int->Int->Int->Int->Int->Int->Bool->Int->LI->LB->Option Int)(j25:Bool->Int->Option Int)(j23:LB->LB->Int->Int->Int->Int->Int->Int->Bool->Int->LI->LB->Option Int)(j24:LB->LB->Int->Int->Int->Int->Int->Int->Bool->Int->LI->LB->Int->Option Int)(j28:Bool->Int->Option Int)(j26:Int->LB->LB->Int->Int->Int->Int->Int->Int->Bool->Int->LX->LI->LI->LB->Option Int)(j22:Bool->Option Int)(j21:Option Int)(aq ar:LB)(au av aw ax ay:Int)(az:LI)(ai:Int)(aj:LB)(ac:Bool)(y:Int):Option Int:=
if(Fb (Ac aq) 64)then
some 8
else
if((geq y 0)&&(!ac))then
(El aq ar au av aw ax ay az ai aj ac y).bind λ(g,a,k,p,o,u,v,f,b,h,m,n)=>
(ED aq ar au av aw ax ay az ai aj ac y).bind λbw=>
if bw then
if(geq k 0)then
(Kg a).bind λ(al,ba)=>
if(geq ba 24)then
j13 true 0
else
if(Bq ba 0)then
(Al ba).bind λ(bx,bz)=>
j13 bx bz
else
(Bp a al (Ac a)).bind λda=>
(Ub da).bind λan=>
if an then
j13 true 0
else
(Bp a al (Ac a)).bind λdb=>
(Ni db).bind λ(ae,af,aa,ag,ab,bb)=>
if(geq bb 24)then
j13 true 0
else
if(Bq bb 0)then
(Al bb).bind λ(dc,dd)=>
j13 dc dd
else
both (
(Bp a (Af al 22) (Ac a)).bind λak=>
(λfb:Option Int=>
bo (
fb)) (
j12 g ak ae af aa ag ab b m n f h)) [
(Bp a (Af al 22) (Ac a)).bind λak=>
j12 g ak ae af aa ag ab b m n f h]
else
if(geq (Ac f) 0)then
if(geq k 2)then
if(Dg (Ac a) 8)then
j25 true 0
else
j23 g a k p o u v b m n f h
else
j24 g a k p o u v b m n f h 0
else
if(Dg b (Ac f))then
(Ao f b).bind λ_=>
(Ao f b).bind λw=>
if(Dg (Ac a) w)then
j28 true 0
else
(FA g).bind λ(ap,am)=>
if(Bq am 0)then
(Al am).bind λ(de,df)=>
j28 de df
else
(Dy k p o u v).bind λ(ad,dg)=>
if((Bq dg 0)||(Tp b (Ac ad)))then
(Al 8).bind λ(dh,di)=>
j28 dh di
else
j26 w g a k p o u v b m n ap ad f h
else
if(Fb (Ac a) 4000)then
(Al 38).bind λ(dj,bf)=>
j22 ((dj==true)&&((geq bf 0)&&true))
else
j21
else
j22 false
else
if((geq (Ac ar) 0)&&(geq (Ac az) 0))then
if((((geq au 0)&&((geq av 0)&&((geq aw 0)&&((geq ax 0)&&((geq ay 0)&&true)))))&&(geq ai 0))&&(G4 (Ac aj) 12000))then
if(geq y 0)then
j22 true
else
if(!ac)then
(Un y).bind λdk=>
j22 dk
else
j22 false
else
j22 false
else
if((false&&(geq ai 0))&&(G4 (Ac aj) 12000))then
if(geq y 0)then
j22 true
else
if(!ac)then
(Un y).bind λdl=>
j22 dl
else
j22 false
else
j22 false
theorem kX: @JO= @EN:=by
  unfold JO EN
  try simp only[NZ,Zd,AH]
  all_goals
    repeat (refine funext λ_=>?_)
    repeat' first
      |with_reducible rfl
      |with_reducible refine Gn ?_ ?_
      |with_reducible refine Gi ?_ ?_ ?_
      |with_reducible refine Gp ?_ ?_ ?_ ?_
      |((with_reducible refine Km ?_ ?_);focus (intro h;first|(subst h;rfl)|(simp only[h];rfl)|(simp[Cz,Ac,h];done)))
      |with_reducible refine Kk λx=>?_
      |with_reducible refine Pr (λ_=>?_) (λ_=>?_)
      |(refine Du (λh=>by simp only[h,Kl,Cy,Cu,ite_self]) (λx h=>?_);(try simp only[h,Cy]))
      |(refine Et (λh=>?_) (λh=>?_)<;>simp only[h,if_true,if_false,Bool.false_eq_true])
abbrev R_:=Int
def H:Hd:=⟨[.agg [Ss,Sb,.agg [Si,Si,Si,Si,Si],Sl,Si,Sb,Sz,Si]],[Si],(.seq .d (.seq .d (.seq .d (.cut [3] [] (.seq .d (.cond (.seq .d (.keep [3,21,22,23,24,25] false)) .d)) .d)))),⟨[(49,GU),(50,F50.c),(51,F51.c),(52,F52.c),(53,F53.c),(67,F67.c),(68,F68.c),(95,F95.c),(148,F148.c),(241,F241.c),(310,F310.c),(311,F311.c),(312,F312.c),(313,F313.c),(314,F314.c)],gl,false⟩,[(147,(.seq .d (.cut [2] [] (.blk (.seq .d (.cond (.cut [2] [] (.keep [2,11] true) .d) (.seq .d (.cond (.cut [2] [] (.keep [2,20] true) .d) (.seq .d (.cond (.cut [2] [] (.keep [2,33] true) .d) .d))))))) .d))),(238,(.seq .d (.seq .d (.seq .d (.seq .d (.seq .d (.cut [0,2,5] [] (.mode false) .d))))))),(239,(.seq .d (.seq .d (.cut [0,2,3] [⟨0,[1],.ro (.int .u8)⟩] (.seq .d (.cond (.seq .d (.cut [0,2,3] [⟨0,[1],.ro (.int .u8)⟩,⟨9,[1],.ro (.int .u8)⟩,⟨10,[1],.ro (.int .u8)⟩,⟨15,[1],.ro (.int .u8)⟩,⟨16,[1],.ro (.int .u8)⟩,⟨18,[],.ro (.int .u8)⟩] .d (.cut [0,2,3,4,5] [] .d .d))) .d)) .d)))),(240,(.seq .d (.seq .d (.seq .d (.seq .d (.seq .d (.seq .d (.cut [0,2,3,4,6] [⟨0,[1],.ro (.int .u8)⟩,⟨9,[1],.ro (.int .u8)⟩,⟨10,[1],.ro (.int .u8)⟩,⟨13,[1],.ro (.int .u8)⟩,⟨14,[1],.ro (.int .u8)⟩,⟨19,[1],.ro (.int .u8)⟩,⟨20,[1],.ro (.int .u8)⟩,⟨22,[],.ro (.int .u8)⟩,⟨28,[1],.ro (.int .u8)⟩,⟨29,[1],.ro (.int .u8)⟩,⟨40,[1],.ro (.int .u8)⟩,⟨41,[1],.ro (.int .u8)⟩] .d (.cut [0,2,3,5,7] [] .d (.seq .d (.seq .d (.seq .d (.seq .d (.seq (.mode false) .d))))))))))))))],f237⟩
def x22(bi:Bool):Option R_:=H.e P_ [r,r,r,r] ⟨[(3,vt bi)],[],[]⟩
def x21:Option R_:=H.e P_ [r,r,r,l,r,l,r,(dcall 3 147 3 #[true,true,true,true,true,true,true,true] #[true,true,true,true,true,false,false,false]),r,r] ⟨[(2,.ptr 0 [])],[.box 207 (.agg [vt false,vi 0])],[[(3,vt false),(21,.cst (.bool true)),(23,.agg [vt true,vi 0])]]⟩
def x13(bj:Bool)(bk:Int):Option R_:=H.e P_ [r,r,r,l,r,l,r,(dcall 3 147 3 #[true,true,true,true,true,true,true,true] #[true,true,true,true,true,false,false,false]),r,l,d,r,l,r] ⟨[(2,.ptr 0 [])],[.box 207 (.agg [vt bj,vi bk])],[[(3,vt false),(21,.cst (.bool true)),(23,.agg [vt true,vi 0])]]⟩
def x12(g ak:LB)(ae af aa ag ab b:Int)(m:Bool)(n:Int)(f:LI)(h:LB):Option R_:=H.e P_ [r,r,r,l,r,l,r,(dcall 3 147 3 #[true,true,true,true,true,true,true,true] #[true,true,true,true,true,false,false,false]),r,l,d,r,l,l,(call 1 238),r,r,r,r,r,r] ⟨[(0,.ptr 0 []),(2,.ptr 1 []),(5,.ptr 2 [])],[.box 124 (.agg [vs g,vb ak,.agg [vi ae,vi af,vi aa,vi ag,vi ab],.own 4,vi b,.own 5,vt m,vi n]),.box 207 (.agg [vt false,vi 0]),.box 33 (.agg [vi ae,vi af,vi aa,vi ag,vi ab]),.box 207 (.agg [vt false,vi 0]),Ai 3 f,Ab 5 h],[[(2,.ptr 3 [])],[(3,vt false),(21,.cst (.bool true)),(23,.agg [vt true,vi 0])]]⟩
def x25(bl:Bool)(bm:Int):Option R_:=H.e P_ [r,r,r,l,r,l,r,(dcall 3 147 3 #[true,true,true,true,true,true,true,true] #[true,true,true,true,true,false,false,false]),r,l,d,r,r,r,l,r] ⟨[(2,.ptr 0 [])],[.box 207 (.agg [vt bl,vi bm])],[[(3,vt false),(21,.cst (.bool true)),(23,.agg [vt true,vi 0])]]⟩
def x24(g a:LB)(k p o u v b:Int)(m:Bool)(n:Int)(f:LI)(h:LB)(bg:Int):Option R_:=H.e P_ [r,r,r,l,r,l,r,(dcall 3 147 3 #[true,true,true,true,true,true,true,true] #[true,true,true,true,true,false,false,false]),r,l,d,r,r,r,l,l,(call 1 239),r,r,r] ⟨[(0,.ptr 0 []),(2,.ptr 1 []),(3,vi bg)],[.box 124 (.agg [vs g,vb a,.agg [vi k,vi p,vi o,vi u,vi v],.own 3,vi b,.own 4,vt m,vi n]),.box 207 (.agg [vt false,vi 0]),.box 207 (.agg [vt false,vi 0]),Ai 3 f,Ab 5 h],[[(2,.ptr 2 [])],[(3,vt false),(21,.cst (.bool true)),(23,.agg [vt true,vi 0])]]⟩
def x15(bd:Bool)(bc:Int)(g a:LB)(k p o u v b:Int)(m:Bool)(n:Int)(f:LI)(h:LB):Option R_:=H.e P_ [r,r,r,l,r,l,r,(dcall 3 147 3 #[true,true,true,true,true,true,true,true] #[true,true,true,true,true,false,false,false]),r,l,d,r,r,r,l,l,(call 1 239),r,r,l,r,l,r,r,r] ⟨[(0,.ptr 0 []),(2,.ptr 1 []),(3,vi 8),(4,vt bd),(5,vi bc)],[.box 124 (.agg [vs g,vb a,.agg [vi k,vi p,vi o,vi u,vi v],.own 3,vi b,.own 4,vt m,vi n]),.box 207 (.agg [vt false,vi 0]),.box 207 (.agg [vt false,vi 0]),Ai 3 f,Ab 5 h],[[(2,.ptr 2 [])],[(3,vt false),(21,.cst (.bool true)),(23,.agg [vt true,vi 0])]]⟩
def x23(g a:LB)(k p o u v b:Int)(m:Bool)(n:Int)(f:LI)(h:LB):Option R_:=H.e P_ [r,r,r,l,r,l,r,(dcall 3 147 3 #[true,true,true,true,true,true,true,true] #[true,true,true,true,true,false,false,false]),r,l,d,r,r,r,l,l,(call 1 239),r,r,l,r,l,r,r] ⟨[(0,.ptr 0 []),(2,.ptr 1 []),(3,vi 8)],[.box 124 (.agg [vs g,vb a,.agg [vi k,vi p,vi o,vi u,vi v],.own 3,vi b,.own 4,vt m,vi n]),.box 207 (.agg [vt false,vi 0]),.box 207 (.agg [vt false,vi 0]),Ai 3 f,Ab 5 h],[[(2,.ptr 2 [])],[(3,vt false),(21,.cst (.bool true)),(23,.agg [vt true,vi 0])]]⟩
def x28(bp:Bool)(bq:Int):Option R_:=H.e P_ [r,r,r,l,r,l,r,(dcall 3 147 3 #[true,true,true,true,true,true,true,true] #[true,true,true,true,true,false,false,false]),r,l,d,r,r,r,r,r,l,r] ⟨[(2,.ptr 0 [])],[.box 207 (.agg [vt bp,vi bq])],[[(3,vt false),(21,.cst (.bool true)),(23,.agg [vt true,vi 0])]]⟩
def x27(w ah:Int)(g a:LB)(k p o u v b:Int)(m:Bool)(n:Int)(ao:LX)(f:LI)(h:LB):Option R_:=H.e P_ [r,r,r,l,r,l,r,(dcall 3 147 3 #[true,true,true,true,true,true,true,true] #[true,true,true,true,true,false,false,false]),r,l,d,r,r,r,r,r,l,l,(call 1 240),r,r,r,r,r,r,r,r] ⟨[(0,.ptr 0 []),(2,.ptr 1 []),(3,vi w),(5,vi ah),(7,.own 2)],[.box 124 (.agg [vs g,vb a,.agg [vi k,vi p,vi o,vi u,vi v],.own 4,vi b,.own 5,vt m,vi n]),.box 207 (.agg [vt false,vi 0]),Aw 21 ao,.box 207 (.agg [vt false,vi 0]),Ai 3 f,Ab 5 h],[[(2,.ptr 3 [])],[(3,vt false),(21,.cst (.bool true)),(23,.agg [vt true,vi 0])]]⟩
def x26(w:Int)(g a:LB)(k p o u v b:Int)(m:Bool)(n:Int)(ap:LX)(ad f:LI)(h:LB):Option R_:=H.e P_ [r,r,r,l,r,l,r,(dcall 3 147 3 #[true,true,true,true,true,true,true,true] #[true,true,true,true,true,false,false,false]),r,l,d,r,r,r,r,r,l,l,(call 1 240),r,r,r,r,r,r,r] ⟨[(0,.ptr 0 []),(2,.ptr 1 []),(3,vi w),(4,.ptr 2 []),(6,.own 3)],[.box 124 (.agg [vs g,vb a,.agg [vi k,vi p,vi o,vi u,vi v],.own 5,vi b,.own 6,vt m,vi n]),.box 207 (.agg [vt false,vi 0]),.box 105 (.val (.vec 16 (.int .i32)) ap),Ai 3 ad,.box 207 (.agg [vt false,vi 0]),Ai 3 f,Ab 5 h],[[(2,.ptr 4 [])],[(3,vt false),(21,.cst (.bool true)),(23,.agg [vt true,vi 0])]]⟩
theorem e22:x22=Bv:=by kernel_rfl
theorem e21:x21=BF:=Eq.trans (b:=LZ x22) (by kernel_rfl) (by simp only[e22]<;>rfl)
theorem e13:x13=Fh:=Eq.trans (b:=JK x22) (by kernel_rfl) (by simp only[e22]<;>rfl)
theorem e12:x12=AV:=Eq.trans (b:=MP x13) (by kernel_rfl) (by simp only[e13]<;>rfl)
theorem e25:x25=Lb:=Eq.trans (b:=KJ x22) (by kernel_rfl) (by simp only[e22]<;>rfl)
theorem e24:x24=Ll:=Eq.trans (b:=JX x25) (by kernel_rfl) (by simp only[e25]<;>rfl)
theorem e15:x15=MF:=Eq.trans (b:=KC x25 x24) (by kernel_rfl) (by simp only[e25,e24]<;>rfl)
theorem e23:x23=AU:=Eq.trans (b:=MM x15) (by kernel_rfl) (by simp only[e15]<;>rfl)
theorem e28:x28=Ii:=Eq.trans (b:=JW x22) (by kernel_rfl) (by simp only[e22]<;>rfl)
theorem e27:x27=MW:=Eq.trans (b:=HG x28) (by kernel_rfl) (by rw[gR];simp only[e28]<;>rfl)
theorem e26:x26=AR:=Eq.trans (b:=LD x27) (by kernel_rfl) (by simp only[e27]<;>rfl)
def F:=vQ Qb
theorem rn x:H.u P_ x=F x:=Eq.trans (b:=vQ (JO x13 x12 x25 x23 x24 x28 x26 x22 x21) x) (by kernel_rfl) (by unfold F;rw[kX];simp only[e13,e12,e25,e23,e24,e28,e26,e22,e21]<;>rfl)
def c:Con:=⟨H.p,H.r,F⟩
theorem ok:ConOk P_ gl 237 c:=cr H func237 (.cons YB (.cons F50.ok (.cons F51.ok (.cons F52.ok (.cons F53.ok (.cons F67.ok (.cons F68.ok (.cons F95.ok (.cons F148.ok (.cons F241.ok (.cons F310.ok (.cons F311.ok (.cons F312.ok (.cons F313.ok (.cons F314.ok .nil))))))))))))))) (Mr.cons ent147 (Mr.cons ent238 (Mr.cons ent239 (Mr.cons ent240 Mr.nil)))) rn
end F237
namespace F146
def LK(f g:LB)(h k m n o:Int)(p:LI)(u:Int)(v:LB)(b:Bool)(a:Int):Option (LB×LB×Int×Int×Int×Int×Int×LI×Int×LB×Bool×Int×Int):=
(Qb f g h k m n o p u v b a).bind λw=>
if(Bq w 0)then
some (([]:LB),([]:LB),0,0,0,0,0,([]:LI),0,([]:LB),false,0,w)
else
if(Bq a 0)then
(λbl:Option (LB×LB×Int×Int×Int×Int×Int×LI×Int×LB×Bool×Int×Int)=>
both (
both (
(El f g h k m n o p u v b a).bind λ(y,aa,ab,ac,ad,ae,af,ag,ah,ai,aj,ak)=>
(λbm:Option (LB×LB×Int×Int×Int×Int×Int×LI×Int×LB×Bool×Int×Int)=>
bo (
bm)) (
some (y,aa,ab,ac,ad,ae,af,ag,ah,ai,aj,ak,a))) [
bl]) [
bl]) (
(El f g h k m n o p u v b a).bind λ(y,aa,ab,ac,ad,ae,af,ag,ah,ai,aj,ak)=>
some (y,aa,ab,ac,ad,ae,af,ag,ah,ai,aj,ak,a))
else
if b then
(El f g h k m n o p u v b a).bind λ(al,am,an,ao,ap,aq,ar,au,av,aw,ax,ay)=>
some (al,am,an,ao,ap,aq,ar,au,av,aw,ax,ay,36)
else
(El f g h k m n o p u v b a).bind λ(az,ba,bb,bc,bd,be,bf,bg,bh,bi,bj,bk)=>
some (az,ba,bb,bc,bd,be,bf,bg,bh,bi,bj,bk,0)
theorem kE: @LK= @Uv:=by
  unfold LK Uv
  try simp only[NZ,Zd,AH]
  all_goals
    repeat (refine funext λ_=>?_)
    repeat' first
      |with_reducible rfl
      |with_reducible refine Gn ?_ ?_
      |with_reducible refine Gi ?_ ?_ ?_
      |with_reducible refine Gp ?_ ?_ ?_ ?_
      |((with_reducible refine Km ?_ ?_);focus (intro h;first|(subst h;rfl)|(simp only[h];rfl)|(simp[Cz,Ac,h];done)))
      |with_reducible refine Kk λx=>?_
      |with_reducible refine Pr (λ_=>?_) (λ_=>?_)
      |(refine Du (λh=>by simp only[h,Kl,Cy,Cu,ite_self]) (λx h=>?_);(try simp only[h,Cy]))
      |(refine Et (λh=>?_) (λh=>?_)<;>simp only[h,if_true,if_false,Bool.false_eq_true])
def H:Hd:=⟨[.agg [Ss,Sb,.agg [Si,Si,Si,Si,Si],Sl,Si,Sb,Sz,Si]],[.agg [Ss,Ob 5,.agg [Si,Si,Si,Si,Si],Ol 3,Si,Ob 5,Sz,Si],Si],(.seq .d (.seq .d (.seq (.blk (.seq .d (.cond (.seq (.mode false) .d) .d))) .d))),⟨[(148,F148.c),(237,F237.c)],gl,false⟩,[],f146⟩
def F:=vQ Uv
theorem rn x:H.u P_ x=F x:=Eq.trans (b:=vQ LK x) (by kernel_rfl) (by rw[kE];rfl)
def c:Con:=⟨H.p,H.r,F⟩
theorem ok:ConOk P_ gl 146 c:=co H func146 (.cons F148.ok (.cons F237.ok .nil)) rn
end F146
namespace F149
def H:Hd:=⟨[.agg [Ss,Sb,.agg [Si,Si,Si,Si,Si],Sl,Si,Sb,Sz,Si],Si],[.agg [Ss,Ob 5,.agg [Si,Si,Si,Si,Si],Ol 3,Si,Sb,Sz,Si],Si],.d,⟨[],gl,false⟩,[],f149⟩
def F:=u13 US
theorem rn x:H.u P_ x=F x:=by kernel_rfl
def c:Con:=⟨H.p,H.r,F⟩
theorem ok:ConOk P_ gl 149 c:=co H func149 .nil rn
end F149
namespace F78
def MY(j78:Int->Int->Int->Int->Int->LI->Bool->Int->LB->Int->LB->Option (LB×LB×Int×Int×Int×Int×Int×LI×Int×LB×Bool×Int×Int))(a:LB)(b:Bool)(f w ag:Int)(g:LB)(m p o u v h:Int)(am:LX)(k:LI)(n:LB):Option (LB×LB×Int×Int×Int×Int×Int×LI×Int×LB×Bool×Int×Int):=
if(Bq ag 0)then
(Al ag).bind λ(dd,de)=>
j78 m p o u v k dd de g h n
else
(Ma o am).bind λ(df,aj)=>
if(Bq aj 0)then
(Al aj).bind λ(dg,dh)=>
j78 m p o u v k dg dh g h n
else
(Cz n df).bind λdi=>
(λhb:Option (LB×LB×Int×Int×Int×Int×Int×LI×Int×LB×Bool×Int×Int)=>
bo (
hb)) (
(Bp g w (Ac g)).bind λdj=>
j78 m p o u v k false 0 dj (Af h 1) di)
theorem iP: @MY= @EL:=by
  unfold MY EL;simp only[NZ,Zd,AH]
def JN(j62:Int->LI->LB->Bool->Int->LB->Int->Int->Int->Int->Int->Option (LB×LB×Int×Int×Int×Int×Int×LI×Int×LB×Bool×Int×Int))(j61:LB->Int->Int->Int->Int->Int->Int->LI->LB->Option (LB×LB×Int×Int×Int×Int×Int×LI×Int×LB×Bool×Int×Int))(j75:Int->Int->Int->Int->Int->Int->LB->Bool->Int->LB->LI->Option (LB×LB×Int×Int×Int×Int×Int×LI×Int×LB×Bool×Int×Int))(j73:LB->Int->Int->Int->Int->Int->Int->LI->LB->Option (LB×LB×Int×Int×Int×Int×Int×LI×Int×LB×Bool×Int×Int))(j74:LB->Int->Int->Int->Int->Int->Int->LI->LB->Int->Option (LB×LB×Int×Int×Int×Int×Int×LI×Int×LB×Bool×Int×Int))(j78:Int->Int->Int->Int->Int->LI->Bool->Int->LB->Int->LB->Option (LB×LB×Int×Int×Int×Int×Int×LI×Int×LB×Bool×Int×Int))(j76:Int->LB->Int->Int->Int->Int->Int->Int->LX->LI->LI->LB->Option (LB×LB×Int×Int×Int×Int×Int×LI×Int×LB×Bool×Int×Int))(j71:LB->Int->Int->Int->Int->Int->Int->Bool->Int->LI->LB->Option (LB×LB×Int×Int×Int×Int×Int×LI×Int×LB×Bool×Int×Int))(j70:LB->Int->Int->Int->Int->Int->Int->LI->LB->Option (LB×LB×Int×Int×Int×Int×Int×LI×Int×LB×Bool×Int×Int))(a:LB)(b:Bool)(f:Int)(g:LB)(m p o u v h:Int)(k:LI)(n:LB):Option (LB×LB×Int×Int×Int×Int×Int×LI×Int×LB×Bool×Int×Int):=
if(geq m 0)then
(Kg g).bind λ(ah,ao)=>
if(geq ao 24)then
j62 h k n true 0 g m p o u v
else
if(Bq ao 0)then
(Al ao).bind λ(dk,dl)=>
j62 h k n dk dl g m p o u v
else
(Bp g ah (Ac g)).bind λdm=>
(Ub dm).bind λal=>
if al then
j62 h k n true 0 g m p o u v
else
(Bp g ah (Ac g)).bind λdn=>
(Ni dn).bind λ(ab,ac,y,ad,aa,ap)=>
if(geq ap 24)then
j62 h k n true 0 g m p o u v
else
if(Bq ap 0)then
(Al ap).bind λ(dp,dq)=>
j62 h k n dp dq g m p o u v
else
both (
(Bp g (Af ah 22) (Ac g)).bind λaf=>
bo (
j61 af ab ac y ad aa h k n)) [
(Bp g (Af ah 22) (Ac g)).bind λaf=>
j61 af ab ac y ad aa h k n]
else
if(geq (Ac k) 0)then
if(geq m 2)then
if(Dg (Ac g) 8)then
j75 m p o u v h n true 0 g k
else
j73 g m p o u v h k n
else
j74 g m p o u v h k n 0
else
if(Dg h (Ac k))then
(Ao k h).bind λ_=>
(Ao k h).bind λw=>
if(Dg (Ac g) w)then
j78 m p o u v k true 0 g h n
else
(FA a).bind λ(an,ak)=>
if(Bq ak 0)then
(Al ak).bind λ(dr,ds)=>
j78 m p o u v k dr ds g h n
else
(Dy m p o u v).bind λ(ae,dt)=>
if((Bq dt 0)||(Tp h (Ac ae)))then
(Al 8).bind λ(du,bc)=>
j78 m p o u v k du bc g h n
else
j76 w g m p o u v h an ae k n
else
if(Fb (Ac g) 4000)then
(Al 38).bind λ(dv,ai)=>
j71 g m p o u v h dv ai k n
else
j70 g m p o u v h k n
theorem kM: @JN= @Jw:=by
  unfold JN Jw
  repeat (refine funext λ_=>?_)
  repeat' first
    |with_reducible rfl
    |with_reducible refine Gn ?_ ?_
    |with_reducible refine Gi ?_ ?_ ?_
    |with_reducible refine Gp ?_ ?_ ?_ ?_
    |((with_reducible refine Km ?_ ?_);focus (intro h;first|(subst h;rfl)|(simp only[h];rfl)|(simp[Cz,Ac,h];done)))
    |with_reducible refine Kk λx=>?_
    |with_reducible refine Pr (λ_=>?_) (λ_=>?_)
    |(refine Du (λh=>by simp only[h,Kl,Cy,Cu,ite_self]) (λx h=>?_);(try simp only[h,Cy]))
    |(refine Et (λh=>?_) (λh=>?_)<;>simp only[h,if_true,if_false,Bool.false_eq_true])
abbrev R_:=(LB×LB×Int×Int×Int×Int×Int×LI×Int×LB×Bool×Int×Int)
abbrev K_:=S->Option R_
def H:Hd:=⟨[.agg [Ss,Sb,.agg [Si,Si,Si,Si,Si],Sl,Si,Sb,Sz,Si],Sb],[.agg [Ss,Ob 5,.agg [Si,Si,Si,Si,Si],Ol 3,Si,Sb,Sz,Si],Si],(.seq .d (.seq .d (.seq .d (.seq .d (.blk (.loop [2,4] [⟨2,[1],.ro (.int .u8)⟩] (.blk (.cut [2,4,7] [] (.keep [2,4,7,22] true) .d)))))))),⟨[(49,GU),(50,F50.c),(51,F51.c),(52,F52.c),(53,F53.c),(67,F67.c),(68,F68.c),(95,F95.c),(146,F146.c),(148,F148.c),(149,F149.c),(241,F241.c),(312,F312.c),(313,F313.c),(314,F314.c)],gl,false⟩,[(147,(.seq .d (.cut [2] [] (.blk (.seq .d (.cond (.cut [2] [] (.keep [2,11] true) .d) (.seq .d (.cond (.cut [2] [] (.keep [2,20] true) .d) (.seq .d (.cond (.cut [2] [] (.keep [2,33] true) .d) .d))))))) .d))),(238,(.seq .d (.seq .d (.seq .d (.seq .d (.seq .d (.cut [0,2,5] [] (.mode false) .d))))))),(239,(.seq .d (.seq .d (.cut [0,2,3] [] (.seq .d (.cond (.seq .d (.cut [0,2,3] [⟨0,[1],.ro (.int .u8)⟩,⟨9,[1],.ro (.int .u8)⟩,⟨10,[1],.ro (.int .u8)⟩,⟨15,[1],.ro (.int .u8)⟩,⟨16,[1],.ro (.int .u8)⟩,⟨18,[],.ro (.int .u8)⟩] .d (.cut [0,2,3,4,5] [] .d .d))) .d)) .d)))),(240,(.seq .d (.seq .d (.seq .d (.seq .d (.seq .d (.seq .d (.cut [0,2,3,4,6] [⟨0,[1],.ro (.int .u8)⟩,⟨9,[1],.ro (.int .u8)⟩,⟨10,[1],.ro (.int .u8)⟩,⟨13,[1],.ro (.int .u8)⟩,⟨14,[1],.ro (.int .u8)⟩,⟨19,[1],.ro (.int .u8)⟩,⟨20,[1],.ro (.int .u8)⟩,⟨22,[],.ro (.int .u8)⟩,⟨28,[1],.ro (.int .u8)⟩,⟨29,[1],.ro (.int .u8)⟩,⟨40,[1],.ro (.int .u8)⟩,⟨41,[1],.ro (.int .u8)⟩] .d (.cut [0,2,3,5,7] [] .d (.seq .d (.seq .d (.seq .d (.seq .d (.seq (.mode false) .d))))))))))))))],f78⟩
def t37(a:LB)(b:Bool)(f:Int)(g:LB)(m p o u v h:Int)(k:LI)(n:LB):S:=⟨[(2,.ptr 0 []),(4,.ptr 1 [])],[.box 124 (.agg [vs a,vb g,.agg [vi m,vi p,vi o,vi u,vi v],.own 2,vi h,.own 3,vt b,vi f]),.box 124 (.agg [vs ([]:LB),.nils,.agg [vi 0,vi 0,vi 0,vi 0,vi 0],.nils,vi 0,.nils,vt false,vi 0]),Ai 3 k,Ab 5 n],[]⟩
def z37:Nat->S->Option R_:=H.i P_ [r,r,r,r,d]
def x71(Jj:K_)(a:LB)(b:Bool)(f:Int)(ar:LB)(au av aw ax ay az:Int)(bh:Bool)(be:Int)(ba:LI)(bb:LB):Option R_:=H.e P_ [r,r,r,r,d,(lp Jj),d,r] ⟨[(2,.ptr 0 []),(4,.ptr 1 []),(7,.ptr 2 [])],[.box 124 (.agg [vs a,vb ar,.agg [vi au,vi av,vi aw,vi ax,vi ay],.own 3,vi az,.own 4,vt b,vi f]),.box 124 (.agg [vs ([]:LB),.nils,.agg [vi 0,vi 0,vi 0,vi 0,vi 0],.nils,vi 0,.nils,vt false,vi 0]),.box 207 (.agg [vt bh,vi be]),Ai 3 ba,Ab 5 bb],[]⟩
def x70(Jj:K_)(a:LB)(b:Bool)(f:Int)(g:LB)(m p o u v h:Int)(k:LI)(n:LB):Option R_:=H.e P_ [r,r,r,r,d,(lp Jj),d,l,(call 0 147),r,r] ⟨[(2,.ptr 0 [])],[.box 207 (.agg [vt false,vi 0]),.box 124 (.agg [vs a,vb g,.agg [vi m,vi p,vi o,vi u,vi v],.own 3,vi h,.own 4,vt b,vi f]),.box 124 (.agg [vs ([]:LB),.nils,.agg [vi 0,vi 0,vi 0,vi 0,vi 0],.nils,vi 0,.nils,vt false,vi 0]),Ai 3 k,Ab 5 n],[[(2,.ptr 1 []),(4,.ptr 2 [])]]⟩
def x62(Jj:K_)(a:LB)(b:Bool)(f h:Int)(k:LI)(n:LB)(bj:Bool)(bk:Int)(bl:LB)(bm bn bp bq br:Int):Option R_:=H.e P_ [r,r,r,r,d,(lp Jj),d,l,(call 0 147),r,l,d,r,l,r] ⟨[(2,.ptr 0 [])],[.box 207 (.agg [vt bj,vi bk]),.box 124 (.agg [vs a,vb bl,.agg [vi bm,vi bn,vi bp,vi bq,vi br],.own 3,vi h,.own 4,vt b,vi f]),.box 124 (.agg [vs ([]:LB),.nils,.agg [vi 0,vi 0,vi 0,vi 0,vi 0],.nils,vi 0,.nils,vt false,vi 0]),Ai 3 k,Ab 5 n],[[(2,.ptr 1 []),(4,.ptr 2 [])]]⟩
def x61(Jj:K_)(a:LB)(b:Bool)(f:Int)(af:LB)(ab ac y ad aa h:Int)(k:LI)(n:LB):Option R_:=H.e P_ [r,r,r,r,d,(lp Jj),d,l,(call 0 147),r,l,d,r,l,l,(call 1 238),r,r,r,r,r,r] ⟨[(0,.ptr 0 []),(2,.ptr 1 []),(5,.ptr 2 [])],[.box 124 (.agg [vs a,vb af,.agg [vi ab,vi ac,vi y,vi ad,vi aa],.own 5,vi h,.own 6,vt b,vi f]),.box 207 (.agg [vt false,vi 0]),.box 33 (.agg [vi ab,vi ac,vi y,vi ad,vi aa]),.box 207 (.agg [vt false,vi 0]),.box 124 (.agg [vs ([]:LB),.nils,.agg [vi 0,vi 0,vi 0,vi 0,vi 0],.nils,vi 0,.nils,vt false,vi 0]),Ai 3 k,Ab 5 n],[[(2,.ptr 3 [])],[(2,.ptr 0 []),(4,.ptr 4 [])]]⟩
def x75(Jj:K_)(a:LB)(b:Bool)(f m p o u v h:Int)(n:LB)(bs:Bool)(bt:Int)(bu:LB)(bv:LI):Option R_:=H.e P_ [r,r,r,r,d,(lp Jj),d,l,(call 0 147),r,l,d,r,r,r,l,r] ⟨[(2,.ptr 0 [])],[.box 207 (.agg [vt bs,vi bt]),.box 124 (.agg [vs a,vb bu,.agg [vi m,vi p,vi o,vi u,vi v],.own 3,vi h,.own 4,vt b,vi f]),.box 124 (.agg [vs ([]:LB),.nils,.agg [vi 0,vi 0,vi 0,vi 0,vi 0],.nils,vi 0,.nils,vt false,vi 0]),Ai 3 bv,Ab 5 n],[[(2,.ptr 1 []),(4,.ptr 2 [])]]⟩
def x74(Jj:K_)(a:LB)(b:Bool)(f:Int)(g:LB)(m p o u v h:Int)(k:LI)(n:LB)(bf:Int):Option R_:=H.e P_ [r,r,r,r,d,(lp Jj),d,l,(call 0 147),r,l,d,r,r,r,l,l,(call 1 239),r,r,r] ⟨[(0,.ptr 0 []),(2,.ptr 1 []),(3,vi bf)],[.box 124 (.agg [vs a,vb g,.agg [vi m,vi p,vi o,vi u,vi v],.own 4,vi h,.own 5,vt b,vi f]),.box 207 (.agg [vt false,vi 0]),.box 207 (.agg [vt false,vi 0]),.box 124 (.agg [vs ([]:LB),.nils,.agg [vi 0,vi 0,vi 0,vi 0,vi 0],.nils,vi 0,.nils,vt false,vi 0]),Ai 3 k,Ab 5 n],[[(2,.ptr 2 [])],[(2,.ptr 0 []),(4,.ptr 3 [])]]⟩
def x64(Jj:K_)(a:LB)(b:Bool)(f:Int)(bd:Bool)(aq:Int)(g:LB)(m p o u v h:Int)(k:LI)(n:LB):Option R_:=H.e P_ [r,r,r,r,d,(lp Jj),d,l,(call 0 147),r,l,d,r,r,r,l,l,(call 1 239),r,r,l,r,l,r,r,r] ⟨[(0,.ptr 0 []),(2,.ptr 1 []),(3,vi 8),(4,vt bd),(5,vi aq)],[.box 124 (.agg [vs a,vb g,.agg [vi m,vi p,vi o,vi u,vi v],.own 4,vi h,.own 5,vt b,vi f]),.box 207 (.agg [vt false,vi 0]),.box 207 (.agg [vt false,vi 0]),.box 124 (.agg [vs ([]:LB),.nils,.agg [vi 0,vi 0,vi 0,vi 0,vi 0],.nils,vi 0,.nils,vt false,vi 0]),Ai 3 k,Ab 5 n],[[(2,.ptr 2 [])],[(2,.ptr 0 []),(4,.ptr 3 [])]]⟩
def x73(Jj:K_)(a:LB)(b:Bool)(f:Int)(g:LB)(m p o u v h:Int)(k:LI)(n:LB):Option R_:=H.e P_ [r,r,r,r,d,(lp Jj),d,l,(call 0 147),r,l,d,r,r,r,l,l,(call 1 239),r,r,l,r,l,r,r] ⟨[(0,.ptr 0 []),(2,.ptr 1 []),(3,vi 8)],[.box 124 (.agg [vs a,vb g,.agg [vi m,vi p,vi o,vi u,vi v],.own 4,vi h,.own 5,vt b,vi f]),.box 207 (.agg [vt false,vi 0]),.box 207 (.agg [vt false,vi 0]),.box 124 (.agg [vs ([]:LB),.nils,.agg [vi 0,vi 0,vi 0,vi 0,vi 0],.nils,vi 0,.nils,vt false,vi 0]),Ai 3 k,Ab 5 n],[[(2,.ptr 2 [])],[(2,.ptr 0 []),(4,.ptr 3 [])]]⟩
def x78(Jj:K_)(a:LB)(b:Bool)(f m p o u v:Int)(k:LI)(bx:Bool)(bz:Int)(da:LB)(db:Int)(dc:LB):Option R_:=H.e P_ [r,r,r,r,d,(lp Jj),d,l,(call 0 147),r,l,d,r,r,r,r,r,l,r] ⟨[(2,.ptr 0 [])],[.box 207 (.agg [vt bx,vi bz]),.box 124 (.agg [vs a,vb da,.agg [vi m,vi p,vi o,vi u,vi v],.own 3,vi db,.own 4,vt b,vi f]),.box 124 (.agg [vs ([]:LB),.nils,.agg [vi 0,vi 0,vi 0,vi 0,vi 0],.nils,vi 0,.nils,vt false,vi 0]),Ai 3 k,Ab 5 dc],[[(2,.ptr 1 []),(4,.ptr 2 [])]]⟩
def x77(Jj:K_)(a:LB)(b:Bool)(f w ag:Int)(g:LB)(m p o u v h:Int)(am:LX)(k:LI)(n:LB):Option R_:=H.e P_ [r,r,r,r,d,(lp Jj),d,l,(call 0 147),r,l,d,r,r,r,r,r,l,l,(call 1 240),r,r,r,r,r,r,r,r] ⟨[(0,.ptr 0 []),(2,.ptr 1 []),(3,vi w),(5,vi ag),(7,.own 2)],[.box 124 (.agg [vs a,vb g,.agg [vi m,vi p,vi o,vi u,vi v],.own 5,vi h,.own 6,vt b,vi f]),.box 207 (.agg [vt false,vi 0]),Aw 21 am,.box 207 (.agg [vt false,vi 0]),.box 124 (.agg [vs ([]:LB),.nils,.agg [vi 0,vi 0,vi 0,vi 0,vi 0],.nils,vi 0,.nils,vt false,vi 0]),Ai 3 k,Ab 5 n],[[(2,.ptr 3 [])],[(2,.ptr 0 []),(4,.ptr 4 [])]]⟩
def x76(Jj:K_)(a:LB)(b:Bool)(f w:Int)(g:LB)(m p o u v h:Int)(an:LX)(ae k:LI)(n:LB):Option R_:=H.e P_ [r,r,r,r,d,(lp Jj),d,l,(call 0 147),r,l,d,r,r,r,r,r,l,l,(call 1 240),r,r,r,r,r,r,r] ⟨[(0,.ptr 0 []),(2,.ptr 1 []),(3,vi w),(4,.ptr 2 []),(6,.own 3)],[.box 124 (.agg [vs a,vb g,.agg [vi m,vi p,vi o,vi u,vi v],.own 6,vi h,.own 7,vt b,vi f]),.box 207 (.agg [vt false,vi 0]),.box 105 (.val (.vec 16 (.int .i32)) an),Ai 3 ae,.box 207 (.agg [vt false,vi 0]),.box 124 (.agg [vs ([]:LB),.nils,.agg [vi 0,vi 0,vi 0,vi 0,vi 0],.nils,vi 0,.nils,vt false,vi 0]),Ai 3 k,Ab 5 n],[[(2,.ptr 4 [])],[(2,.ptr 0 []),(4,.ptr 5 [])]]⟩
def x37(a:LB)(b:Bool)(f:Int)(g:LB)(m p o u v h:Int)(k:LI)(n:LB):Option R_:=H.e P_ [r,r,r,r,d] (t37 a b f g m p o u v h k n)
theorem e71(Jj:K_)(a:LB)(b:Bool)(f:Int):x71 Jj a b f=Cr (λg m p o u v h k n=>Jj (t37 a b f g m p o u v h k n)) a b f:=by kernel_rfl
theorem e70(Jj:K_)(a:LB)(b:Bool)(f:Int):x70 Jj a b f=ER (λg m p o u v h k n=>Jj (t37 a b f g m p o u v h k n)) a b f:=Eq.trans (b:=cT (x71 Jj a b f) a b f) (by kernel_rfl) (by simp only[e71]<;>rfl)
theorem e62(Jj:K_)(a:LB)(b:Bool)(f:Int):x62 Jj a b f=Qh (λg m p o u v h k n=>Jj (t37 a b f g m p o u v h k n)) a b f:=Eq.trans (b:=cG (x71 Jj a b f) a b f) (by kernel_rfl) (by simp only[e71]<;>rfl)
theorem e61(Jj:K_)(a:LB)(b:Bool)(f:Int):x61 Jj a b f=Wa (λg m p o u v h k n=>Jj (t37 a b f g m p o u v h k n)) a b f:=Eq.trans (b:=PT (x62 Jj a b f) a b f) (by kernel_rfl) (by simp only[e62]<;>rfl)
theorem e75(Jj:K_)(a:LB)(b:Bool)(f:Int):x75 Jj a b f=Mv (λg m p o u v h k n=>Jj (t37 a b f g m p o u v h k n)) a b f:=Eq.trans (b:=cD (x71 Jj a b f) a b f) (by kernel_rfl) (by simp only[e71]<;>rfl)
theorem e74(Jj:K_)(a:LB)(b:Bool)(f:Int):x74 Jj a b f=Mx (λg m p o u v h k n=>Jj (t37 a b f g m p o u v h k n)) a b f:=Eq.trans (b:=PY (x75 Jj a b f) a b f) (by kernel_rfl) (by simp only[e75]<;>rfl)
theorem e64(Jj:K_)(a:LB)(b:Bool)(f:Int):x64 Jj a b f=OE (λg m p o u v h k n=>Jj (t37 a b f g m p o u v h k n)) a b f:=Eq.trans (b:=PR (x75 Jj a b f) (x74 Jj a b f) a b f) (by kernel_rfl) (by simp only[e75,e74]<;>rfl)
theorem e73(Jj:K_)(a:LB)(b:Bool)(f:Int):x73 Jj a b f=Wc (λg m p o u v h k n=>Jj (t37 a b f g m p o u v h k n)) a b f:=Eq.trans (b:=ON (x64 Jj a b f) a b f) (by kernel_rfl) (by simp only[e64]<;>rfl)
theorem e78(Jj:K_)(a:LB)(b:Bool)(f:Int):x78 Jj a b f=Qg (λg m p o u v h k n=>Jj (t37 a b f g m p o u v h k n)) a b f:=Eq.trans (b:=bX (x71 Jj a b f) a b f) (by kernel_rfl) (by simp only[e71]<;>rfl)
theorem e77(Jj:K_)(a:LB)(b:Bool)(f:Int):x77 Jj a b f=OZ (λg m p o u v h k n=>Jj (t37 a b f g m p o u v h k n)) a b f:=Eq.trans (b:=MY (x78 Jj a b f) a b f) (by kernel_rfl) (by rw[iP];simp only[e78]<;>rfl)
theorem e76(Jj:K_)(a:LB)(b:Bool)(f:Int):x76 Jj a b f=Wz (λg m p o u v h k n=>Jj (t37 a b f g m p o u v h k n)) a b f:=Eq.trans (b:=OM (x77 Jj a b f) a b f) (by kernel_rfl) (by simp only[e77]<;>rfl)
theorem i37(a:LB)(b:Bool)(f:Int):∀(q:Nat) (g:LB) (m p o u v h:Int) (k:LI) (n:LB),z37 q (t37 a b f g m p o u v h k n)=Bf a b f q g m p o u v h k n:=
 ind (λ_ _ _ _ _ _ _ _ _=>by kernel_rfl) λq ih g m p o u v h k n=>Eq.trans (b:=JN (x62 (z37 q) a b f) (x61 (z37 q) a b f) (x75 (z37 q) a b f) (x73 (z37 q) a b f) (x74 (z37 q) a b f) (x78 (z37 q) a b f) (x76 (z37 q) a b f) (x71 (z37 q) a b f) (x70 (z37 q) a b f) a b f g m p o u v h k n) (by kernel_rfl) (by rw[kM];simp only[e62,e61,e75,e73,e74,e78,e76,e71,e70,ih]<;>rfl)
theorem e37:x37=bY:=by funext a b f g m p o u v h k n;exact Eq.trans (by kernel_rfl) ((i37 a b f Cl g m p o u v h k n).trans (by rw[Ar];rfl))
def F:=u13 Kz
theorem rn x:H.u P_ x=F x:=Eq.trans (b:=u13 (Yt x37) x) (by kernel_rfl) (by simp only[e37]<;>rfl)
def c:Con:=⟨H.p,H.r,F⟩
theorem ok:ConOk P_ gl 78 c:=cr H func78 (.cons YB (.cons F50.ok (.cons F51.ok (.cons F52.ok (.cons F53.ok (.cons F67.ok (.cons F68.ok (.cons F95.ok (.cons F146.ok (.cons F148.ok (.cons F149.ok (.cons F241.ok (.cons F312.ok (.cons F313.ok (.cons F314.ok .nil))))))))))))))) (Mr.cons ent147 (Mr.cons ent238 (Mr.cons ent239 (Mr.cons ent240 Mr.nil)))) rn
end F78
namespace F118
abbrev R_:=(Int×Int)
def H:Hd:=⟨[Sb],[Si,Si],(.seq .d (.seq .d (.cut [0,4] [] .d .d))),⟨[(113,F113.c),(196,F196.c),(197,F197.c),(198,F198.c)],gl,false⟩,[],f118⟩
def x2(a:LB):Option R_:=H.e P_ [r,r,r] ⟨[(0,vb a),(4,vi (Au (Ac a) (32:Int)))],[],[]⟩
theorem e2:x2=gW:=by kernel_rfl
def F:=pS
theorem rn x:H.u P_ x=F x:=Eq.trans (b:=jQ x2 x) (by kernel_rfl) (by simp only[e2]<;>rfl)
def c:Con:=⟨H.p,H.r,F⟩
theorem ok:ConOk P_ gl 118 c:=co H func118 (.cons F113.ok (.cons F196.ok (.cons F197.ok (.cons F198.ok .nil)))) rn
end F118
namespace F55
abbrev R_:=(Int×Int)
abbrev K_:=S->Option R_
def H:Hd:=⟨[Sb],[Si,Si],(.seq .d (.seq .d (.seq .d (.seq .d (.cut [5] [] (.blk (.loop [1,4,5] [] (.seq .d (.cut [1,4,5] [] (.blk (.cut [1,4,5,6] [] (.keep [1,4,5,6,16,17] true) .d)) .d)))) .d))))),⟨[(118,F118.c)],gl,false⟩,[(117,.d)],f55⟩
def t8(a:Int)(b:LB):S:=⟨[(1,.ptr 0 []),(4,.fn 117 [.ptr 0 []]),(5,vi a)],[.box 22 (vb b)],[]⟩
def z8:Nat->S->Option R_:=H.i P_ [r,r,r,r,l,d]
def x14(a:Int):Option R_:=H.e P_ [r,r,r,r,r] ⟨[(5,vi a)],[],[]⟩
def x12(kn8:K_)(a:Int)(g:LB):Option R_:=H.e P_ [r,r,r,r,l,d,(lp kn8),r,r] ⟨[(1,.ptr 0 []),(4,.fn 117 [.ptr 0 []]),(5,vi a)],[.box 22 (vb g)],[]⟩
def x11(kn8:K_)(a f:Int)(b:LB):Option R_:=H.e P_ [r,r,r,r,l,d,(lp kn8),r,l,d,r] ⟨[(1,.ptr 0 []),(4,.fn 117 [.ptr 0 []]),(5,vi a),(6,vi f)],[.box 22 (vb b)],[]⟩
def x8(a:Int)(b:LB):Option R_:=H.e P_ [r,r,r,r,l,d] (t8 a b)
theorem e14:x14=cN:=by kernel_rfl
theorem e12(kn8:K_):x12 kn8=PW (λa b=>kn8 (t8 a b)):=by kernel_rfl
theorem e11(kn8:K_):x11 kn8=OY (λa b=>kn8 (t8 a b)):=Eq.trans (b:=PU (x12 kn8)) (by kernel_rfl) (by simp only[e12]<;>rfl)
theorem i8:∀(q:Nat) (a:Int) (b:LB),z8 q (t8 a b)=Yp q a b:=
 ind (λ_ _=>by kernel_rfl) λq ih a b=>Eq.trans (b:=TH (x11 (z8 q)) x14 a b) (by kernel_rfl) (by simp only[e11,e14,ih]<;>rfl)
theorem e8:x8=gD:=by funext a b;exact Eq.trans (by kernel_rfl) ((i8 Cl a b).trans (by rw[Ar];rfl))
def F:=KM
theorem rn x:H.u P_ x=F x:=Eq.trans (b:=TC x8 x) (by kernel_rfl) (by simp only[e8]<;>rfl)
def c:Con:=⟨H.p,H.r,F⟩
theorem ok:ConOk P_ gl 55 c:=cr H func55 (.cons F118.ok .nil) (Mr.cons ent117 Mr.nil) rn
end F55
namespace F150
def H:Hd:=⟨[.agg [Ss,Sb,.agg [Si,Si,Si,Si,Si],Sl,Si,Sb,Sz,Si]],[Si],.d,⟨[(49,GU),(50,F50.c),(55,F55.c)],gl,false⟩,[],f150⟩
def F:=vQ KH
theorem rn x:H.u P_ x=F x:=by kernel_rfl
def c:Con:=⟨H.p,H.r,F⟩
theorem ok:ConOk P_ gl 150 c:=co H func150 (.cons YB (.cons F50.ok (.cons F55.ok .nil))) rn
end F150
namespace F79
def H:Hd:=⟨[.agg [Ss,Sb,.agg [Si,Si,Si,Si,Si],Sl,Si,Sb,Sz,Si]],[.agg [Ss,Ob 5,.agg [Si,Si,Si,Si,Si],Ol 3,Si,Sb,Sz,Si],Si],.d,⟨[(146,F146.c),(149,F149.c),(150,F150.c)],gl,false⟩,[],f79⟩
def F:=vQ Fg
theorem rn x:H.u P_ x=F x:=by kernel_rfl
def c:Con:=⟨H.p,H.r,F⟩
theorem ok:ConOk P_ gl 79 c:=co H func79 (.cons F146.ok (.cons F149.ok (.cons F150.ok .nil))) rn
end F79
namespace F80
abbrev R_:=(LX×Int)
abbrev K_:=S->Option R_
def H:Hd:=⟨[Si,Sb],[Ow 21,Si],(.seq .d (.seq .d (.seq .d (.seq .d (.seq .d (.seq .d (.cut [10] [] (.seq .d (.blk (.loop [0,1,9,10,11] [⟨10,[],.own 21 (.int .i32)⟩] (.seq .d (.cut [0,1,9,10,11] [] (.blk (.seq .d (.seq .d (.cut [0,1,9,10,11,12] [] (.seq .d (.blk (.loop [0,1,9,10,11,12,53,54] [] .d))) .d)))) .d))))) .d))))))),⟨[(151,F151.c)],gl,false⟩,[],f80⟩
def t25(a:Int)(b:LB)(f:Int)(g:LX)(h:Int32)(k:Int):S:=⟨[(0,vi a),(1,vb b),(9,vi (By a (8:Int))),(10,.own 0),(11,vi f),(12,vx h),(53,vi (By a (8:Int))),(54,vi k)],[Aw 21 g],[]⟩
def z25(Ck:K_):Nat->S->Option R_:=H.i P_ [r,r,r,r,r,r,l,r,d,(lp Ck),r,l,d,r,r,l,r,d]
def t16(a:Int)(b:LB)(f:Int)(g:LX):S:=⟨[(0,vi a),(1,vb b),(9,vi (By a (8:Int))),(10,.own 0),(11,vi f)],[Aw 21 g],[]⟩
def z16:Nat->S->Option R_:=H.i P_ [r,r,r,r,r,r,l,r,d]
def x30(g:LX):Option R_:=H.e P_ [r,r,r,r,r,r,r] ⟨[(10,.own 0)],[Aw 21 g],[]⟩
def x28(Ck:K_)(a:Int)(b:LB)(f:Int)(m:LX):Option R_:=H.e P_ [r,r,r,r,r,r,l,r,d,(lp Ck),r,r] ⟨[(0,vi a),(1,vb b),(9,vi (By a (8:Int))),(10,.own 0),(11,vi f)],[Aw 21 m],[]⟩
def x27(Ck:K_)(a:Int)(b:LB)(f:Int)(h:Int32)(g:LX):Option R_:=H.e P_ [r,r,r,r,r,r,l,r,d,(lp Ck),r,l,d,r,r,r] ⟨[(0,vi a),(1,vb b),(9,vi (By a (8:Int))),(10,.own 0),(11,vi f),(12,vx h)],[Aw 21 g],[]⟩
def x25(Ck:K_)(a:Int)(b:LB)(f:Int)(g:LX)(h:Int32)(k:Int):Option R_:=H.e P_ [r,r,r,r,r,r,l,r,d,(lp Ck),r,l,d,r,r,l,r,d] (t25 a b f g h k)
def x16(a:Int)(b:LB)(f:Int)(g:LX):Option R_:=H.e P_ [r,r,r,r,r,r,l,r,d] (t16 a b f g)
theorem e30:x30=ZJ:=by kernel_rfl
theorem e28(Ck:K_)(a:Int)(b:LB):x28 Ck a b=Kx (λf g=>Ck (t16 a b f g)) a b:=by kernel_rfl
theorem e27(Ck:K_)(a:Int)(b:LB):x27 Ck a b=BE (λf g=>Ck (t16 a b f g)) a b:=Eq.trans (b:=AQ (x28 Ck a b) a b) (by kernel_rfl) (by simp only[e28]<;>rfl)
theorem i25(Ck:K_)(a:Int)(b:LB)(f:Int)(g:LX):∀(q:Nat) (h:Int32) (k:Int),z25 Ck q (t25 a b f g h k)=Fi (λf g=>Ck (t16 a b f g)) a b f g q h k:=
 ind (λ_ _=>by kernel_rfl) λq ih h k=>Eq.trans (b:=Gk (x27 Ck a b) (λh k=>(z25 Ck q) (t25 a b f g h k)) a b f g h k) (by kernel_rfl) (by simp only[e27,ih]<;>rfl)
theorem e25(Ck:K_)(a:Int)(b:LB):x25 Ck a b=Oj (λf g=>Ck (t16 a b f g)) a b:=by funext f g h k;exact Eq.trans (by kernel_rfl) ((i25 Ck a b f g Cl h k).trans (by rw[Ar];rfl))
theorem i16(a:Int)(b:LB):∀(q:Nat) (f:Int) (g:LX),z16 q (t16 a b f g)=En a b q f g:=
 ind (λ_ _=>by kernel_rfl) λq ih f g=>Eq.trans (b:=Gq (x28 (z16 q) a b) (x25 (z16 q) a b) x30 a b f g) (by kernel_rfl) (by simp only[e28,e25,e30,ih]<;>rfl)
theorem e16:x16=ML:=by funext a b f g;exact Eq.trans (by kernel_rfl) ((i16 a b Cl f g).trans (by rw[Ar];rfl))
def F:=u2 GG
theorem rn x:H.u P_ x=F x:=Eq.trans (b:=u2 (PG x16) x) (by kernel_rfl) (by simp only[e16]<;>rfl)
def c:Con:=⟨H.p,H.r,F⟩
theorem ok:ConOk P_ gl 80 c:=co H func80 (.cons F151.ok .nil) rn
end F80
namespace F31
def H:Hd:=⟨[Sb,Ss],[.agg [Si,Si,Si,Ow 21],Si],.d,⟨[(77,F77.c),(78,F78.c),(79,F79.c),(80,F80.c)],gl,false⟩,[],f31⟩
def F:=u2 Jf
theorem rn x:H.u P_ x=F x:=by kernel_rfl
def c:Con:=⟨H.p,H.r,F⟩
theorem ok:ConOk P_ gl 31 c:=co H func31 (.cons F77.ok (.cons F78.ok (.cons F79.ok (.cons F80.ok .nil)))) rn
end F31
namespace F81
def H:Hd:=⟨[Ss],[.agg [Ss,Ob 5,.agg [Si,Si,Si,Si,Si],Ol 3,Si,Ob 5,Sz,Si],Si],.d,⟨[],gl,false⟩,[],f81⟩
def F:=Wo
theorem rn x:H.u P_ x=F x:=by kernel_rfl
def c:Con:=⟨H.p,H.r,F⟩
theorem ok:ConOk P_ gl 81 c:=co H func81 .nil rn
end F81
namespace F213
def H:Hd:=⟨[.agg [Si,Si,Si,Si,Si]],[Sz],.d,⟨[],gl,false⟩,[],f213⟩
def F:=u5 Ig
theorem rn x:H.u P_ x=F x:=by kernel_rfl
def c:Con:=⟨H.p,H.r,F⟩
theorem ok:ConOk P_ gl 213 c:=co H func213 .nil rn
end F213
namespace F133
def H:Hd:=⟨[Si],[Si],.d,⟨[],gl,false⟩,[],f133⟩
def F:=Tk
theorem rn x:H.u P_ x=F x:=by kernel_rfl
def c:Con:=⟨H.p,H.r,F⟩
theorem ok:ConOk P_ gl 133 c:=co H func133 .nil rn
end F133
namespace F72
abbrev R_:=LI
def H:Hd:=⟨[Si,Si],[Ol 3],(.seq .d (.seq .d (.cut [5] [] (.seq .d (.blk (.loop [0,5,6] [⟨5,[],.own 3 (.int .i64)⟩] .d))) .d))),⟨[(133,F133.c)],gl,false⟩,[],f72⟩
def t4(b f:Int)(a:LI):S:=⟨[(0,vi b),(5,.own 0),(6,vi f)],[Ai 3 a],[]⟩
def z4:Nat->S->Option R_:=H.i P_ [r,r,l,r,d]
def x6(a:LI):Option R_:=H.e P_ [r,r,r] ⟨[(5,.own 0)],[Ai 3 a],[]⟩
def x4(b f:Int)(a:LI):Option R_:=H.e P_ [r,r,l,r,d] (t4 b f a)
theorem e6:x6=Mq:=by kernel_rfl
theorem i4(b:Int):∀(q:Nat) (f:Int) (a:LI),z4 q (t4 b f a)=Ev b q f a:=
 ind (λ_ _=>by kernel_rfl) λq ih f a=>Eq.trans (b:=Iu x6 (λf a=>(z4 q) (t4 b f a)) b f a) (by kernel_rfl) (by simp only[e6,ih]<;>rfl)
theorem e4:x4=Zh:=by funext b f a;exact Eq.trans (by kernel_rfl) ((i4 b Cl f a).trans (by rw[Ar];rfl))
def F:=u2 Ec
theorem rn x:H.u P_ x=F x:=Eq.trans (b:=u2 (Zy x4) x) (by kernel_rfl) (by simp only[e4]<;>rfl)
def c:Con:=⟨H.p,H.r,F⟩
theorem ok:ConOk P_ gl 72 c:=co H func72 (.cons F133.ok .nil) rn
end F72
namespace F214
def Zg(h a k f b:Int):Option Bool:=
(λm:Option Bool=>
(λn:Option Bool=>
bo (
n)) (
(Ue (Bq a 0)).bind λ_=>
bo (
m))) (
if(Fb b (By 4000 a))then
some true
else
(Ec f b).bind λg=>
some (Fb (Ac g) 1000))
theorem aV: @Zg= @Lh:=by
  unfold Zg Lh;simp only[NZ,Zd,AH]
def H:Hd:=⟨[.agg [Si,Si,Si,Si,Si]],[Sz],(.seq .d (.seq (.mode false) .d)),⟨[(72,F72.c)],gl,false⟩,[],f214⟩
def F:=u5 Lh
theorem rn x:H.u P_ x=F x:=Eq.trans (b:=u5 Zg x) (by kernel_rfl) (by rw[aV];rfl)
def c:Con:=⟨H.p,H.r,F⟩
theorem ok:ConOk P_ gl 214 c:=co H func214 (.cons F72.ok .nil) rn
end F214
namespace F315
def H:Hd:=⟨[.agg [Si,Si,Si,Si,Si]],[Si],.d,⟨[(213,F213.c),(214,F214.c)],gl,false⟩,[],f315⟩
def F:=u5 Jt
theorem rn x:H.u P_ x=F x:=by kernel_rfl
def c:Con:=⟨H.p,H.r,F⟩
theorem ok:ConOk P_ gl 315 c:=co H func315 (.cons F213.ok (.cons F214.ok .nil)) rn
end F315
namespace F246
def H:Hd:=⟨[.agg [Si,Si,Si,Si,Si],Ss],[Si],.d,⟨[],gl,false⟩,[],f246⟩
def F:=u6 Eb
theorem rn x:H.u P_ x=F x:=by kernel_rfl
def c:Con:=⟨H.p,H.r,F⟩
theorem ok:ConOk P_ gl 246 c:=co H func246 .nil rn
end F246
namespace F217
abbrev R_:=Int
abbrev K_:=S->Option R_
def H:Hd:=⟨[Sl],[Si],(.seq .d (.seq .d (.seq .d (.cut [3] [] (.seq .d (.blk (.loop [0,3,4] [] (.seq .d (.seq (.blk (.cut [0,3,4] [] .d .d)) .d))))) .d)))),⟨[],gl,false⟩,[],f217⟩
def t6(a:LI)(b f:Int):S:=⟨[(0,vl a),(3,vi b),(4,vi f)],[],[]⟩
def z6:Nat->S->Option R_:=H.i P_ [r,r,r,l,r,d]
def x10(b:Int):Option R_:=H.e P_ [r,r,r,r] ⟨[(3,vi b)],[],[]⟩
def x8(kn6:K_)(a:LI)(b f:Int):Option R_:=H.e P_ [r,r,r,l,r,d,(lp kn6),r,l,d,r] ⟨[(0,vl a),(3,vi b),(4,vi f)],[],[]⟩
def x6(a:LI)(b f:Int):Option R_:=H.e P_ [r,r,r,l,r,d] (t6 a b f)
theorem e10:x10=Yb:=by kernel_rfl
theorem e8(kn6:K_)(a:LI):x8 kn6 a=AB (λb f=>kn6 (t6 a b f)) a:=by kernel_rfl
theorem i6(a:LI):∀(q:Nat) (b f:Int),z6 q (t6 a b f)=Ix a q b f:=
 ind (λ_ _=>by kernel_rfl) λq ih b f=>Eq.trans (b:=Rn (x8 (z6 q) a) x10 a b f) (by kernel_rfl) (by simp only[e8,e10,ih]<;>rfl)
theorem e6:x6=AI:=by funext a b f;exact Eq.trans (by kernel_rfl) ((i6 a Cl b f).trans (by rw[Ar];rfl))
def F:=Ha
theorem rn x:H.u P_ x=F x:=Eq.trans (b:=Ra x6 x) (by kernel_rfl) (by simp only[e6]<;>rfl)
def c:Con:=⟨H.p,H.r,F⟩
theorem ok:ConOk P_ gl 217 c:=co H func217 .nil rn
end F217
namespace F316
def H:Hd:=⟨[.agg [Si,Si,Si,Si,Si]],[Ol 3],.d,⟨[(72,F72.c)],gl,false⟩,[],f316⟩
def F:=u5 Fo
theorem rn x:H.u P_ x=F x:=by kernel_rfl
def c:Con:=⟨H.p,H.r,F⟩
theorem ok:ConOk P_ gl 316 c:=co H func316 (.cons F72.ok .nil) rn
end F316
namespace F319
def H:Hd:=⟨[.agg [Si,Si,Si,Si,Si]],[.agg [Si,Si]],.d,⟨[],gl,false⟩,[],f319⟩
def F:=u5 Es
theorem rn x:H.u P_ x=F x:=by kernel_rfl
def c:Con:=⟨H.p,H.r,F⟩
theorem ok:ConOk P_ gl 319 c:=co H func319 .nil rn
end F319
namespace F360
def H:Hd:=⟨[.agg [Si,Si]],[Si],.d,⟨[],gl,false⟩,[],f360⟩
def F:=u2 FV
theorem rn x:H.u P_ x=F x:=by kernel_rfl
def c:Con:=⟨H.p,H.r,F⟩
theorem ok:ConOk P_ gl 360 c:=co H func360 .nil rn
end F360
namespace F317
abbrev R_:=Int
def H:Hd:=⟨[.agg [Si,Si,Si,Si,Si],Si],[Si],(.seq .d (.seq .d (.seq .d (.cut [2,6] [] (.seq .d (.blk (.loop [1,2,5,6,7] [] .d))) .d)))),⟨[(316,F316.c),(319,F319.c),(360,F360.c)],gl,false⟩,[],f317⟩
def t4(n a b f g h:Int)(m:LI)(k o:Int):S:=⟨[(1,vi n),(2,.ptr 0 []),(5,.own 1),(6,vi k),(7,vi o)],[.box 33 (.agg [vi a,vi b,vi f,vi g,vi h]),Ai 3 m],[]⟩
def z4:Nat->S->Option R_:=H.i P_ [r,r,r,l,r,d]
def x6(k a b f g h:Int):Option R_:=H.e P_ [r,r,r,r] ⟨[(2,.ptr 0 []),(6,vi k)],[.box 33 (.agg [vi a,vi b,vi f,vi g,vi h])],[]⟩
def x4(n a b f g h:Int)(m:LI)(k o:Int):Option R_:=H.e P_ [r,r,r,l,r,d] (t4 n a b f g h m k o)
theorem e6:x6=BU:=by kernel_rfl
theorem i4(n a b f g h:Int)(m:LI):∀(q:Nat) (k o:Int),z4 q (t4 n a b f g h m k o)=Ke n a b f g h m q k o:=
 ind (λ_ _=>by kernel_rfl) λq ih k o=>Eq.trans (b:=Te x6 (λk o=>(z4 q) (t4 n a b f g h m k o)) n a b f g h m k o) (by kernel_rfl) (by simp only[e6,ih]<;>rfl)
theorem e4:x4=QP:=by funext n a b f g h m k o;exact Eq.trans (by kernel_rfl) ((i4 n a b f g h m Cl k o).trans (by rw[Ar];rfl))
def F:=u6 Tq
theorem rn x:H.u P_ x=F x:=Eq.trans (b:=u6 (DC x4) x) (by kernel_rfl) (by simp only[e4]<;>rfl)
def c:Con:=⟨H.p,H.r,F⟩
theorem ok:ConOk P_ gl 317 c:=co H func317 (.cons F316.ok (.cons F319.ok (.cons F360.ok .nil))) rn
end F317
namespace F346
abbrev R_:=(Int×Int)
def H:Hd:=⟨[Sb],[Si,Si],(.seq .d (.seq .d (.seq .d (.cut [4] [] (.seq .d (.blk (.loop [0,4,5] [] .d))) .d)))),⟨[],gl,false⟩,[],f346⟩
def t4(b:LB)(a f:Int):S:=⟨[(0,vb b),(4,vi a),(5,vi f)],[],[]⟩
def z4:Nat->S->Option R_:=H.i P_ [r,r,r,l,r,d]
def x6(a:Int):Option R_:=H.e P_ [r,r,r,r] ⟨[(4,vi a)],[],[]⟩
def x4(b:LB)(a f:Int):Option R_:=H.e P_ [r,r,r,l,r,d] (t4 b a f)
theorem e6:x6=NY:=by kernel_rfl
theorem i4(b:LB):∀(q:Nat) (a f:Int),z4 q (t4 b a f)=Iw b q a f:=
 ind (λ_ _=>by kernel_rfl) λq ih a f=>Eq.trans (b:=Rm x6 (λa f=>(z4 q) (t4 b a f)) b a f) (by kernel_rfl) (by simp only[e6,ih]<;>rfl)
theorem e4:x4=Zq:=by funext b a f;exact Eq.trans (by kernel_rfl) ((i4 b Cl a f).trans (by rw[Ar];rfl))
def F:=Yd
theorem rn x:H.u P_ x=F x:=Eq.trans (b:=AF x4 x) (by kernel_rfl) (by simp only[e4]<;>rfl)
def c:Con:=⟨H.p,H.r,F⟩
theorem ok:ConOk P_ gl 346 c:=co H func346 .nil rn
end F346
namespace F293
abbrev R_:=(Int×Int)
def H:Hd:=⟨[Sb],[Si,Si],(.seq .d (.cut [0] [] .d (.seq .d (.seq .d (.cut [0,4] [] .d (.seq .d (.cut [0,6] [] .d .d))))))),⟨[(346,F346.c)],gl,false⟩,[],f293⟩
def x6(a:LB)(g:Int):Option R_:=H.e P_ [r,r,r,r,r,r,r] ⟨[(0,vb a),(6,vi g)],[],[]⟩
def x5(a:LB)(b:Int):Option R_:=H.e P_ [r,r,r,r,r] ⟨[(0,vb a),(4,vi b)],[],[]⟩
def x4(a:LB):Option R_:=H.e P_ [r,r] ⟨[(0,vb a)],[],[]⟩
theorem e6:x6=So:=by kernel_rfl
theorem e5:x5=Tc:=Eq.trans (b:=CD x6) (by kernel_rfl) (by simp only[e6]<;>rfl)
theorem e4:x4=DW:=Eq.trans (b:=CX x5) (by kernel_rfl) (by simp only[e5]<;>rfl)
def F:=AY
theorem rn x:H.u P_ x=F x:=Eq.trans (b:=CK x4 x) (by kernel_rfl) (by simp only[e4]<;>rfl)
def c:Con:=⟨H.p,H.r,F⟩
theorem ok:ConOk P_ gl 293 c:=co H func293 (.cons F346.ok .nil) rn
end F293
namespace F211
abbrev R_:=UInt64
def H:Hd:=⟨[Sb],[Sq],(.seq .d (.seq .d (.cut [3] [] (.seq .d (.blk (.loop [0,3,4] [] .d))) .d))),⟨[],gl,false⟩,[],f211⟩
def t4(b:LB)(a:UInt64)(f:Int):S:=⟨[(0,vb b),(3,vq a),(4,vi f)],[],[]⟩
def z4:Nat->S->Option R_:=H.i P_ [r,r,l,r,d]
def x6(a:UInt64):Option R_:=H.e P_ [r,r,r] ⟨[(3,vq a)],[],[]⟩
def x4(b:LB)(a:UInt64)(f:Int):Option R_:=H.e P_ [r,r,l,r,d] (t4 b a f)
theorem e6:x6=HQ:=by kernel_rfl
theorem i4(b:LB):∀(q:Nat) (a:UInt64) (f:Int),z4 q (t4 b a f)=Mw b q a f:=
 ind (λ_ _=>by kernel_rfl) λq ih a f=>Eq.trans (b:=Yj x6 (λa f=>(z4 q) (t4 b a f)) b a f) (by kernel_rfl) (by simp only[e6,ih]<;>rfl)
theorem e4:x4=HM:=by funext b a f;exact Eq.trans (by kernel_rfl) ((i4 b Cl a f).trans (by rw[Ar];rfl))
def F:=Az
theorem rn x:H.u P_ x=F x:=Eq.trans (b:=HL x4 x) (by kernel_rfl) (by simp only[e4]<;>rfl)
def c:Con:=⟨H.p,H.r,F⟩
theorem ok:ConOk P_ gl 211 c:=co H func211 .nil rn
end F211
namespace F229
def H:Hd:=⟨[Sb],[Si,Si,Sz],.d,⟨[(211,F211.c)],gl,false⟩,[],f229⟩
def F:=Nt
theorem rn x:H.u P_ x=F x:=by kernel_rfl
def c:Con:=⟨H.p,H.r,F⟩
theorem ok:ConOk P_ gl 229 c:=co H func229 (.cons F211.ok .nil) rn
end F229
namespace F215
abbrev R_:=LB
def H:Hd:=⟨[Sq,Si],[Ob 5],(.seq .d (.seq .d (.cut [5] [] (.seq .d (.blk (.loop [0,1,5,6] [⟨5,[],.own 5 (.int .u8)⟩] .d))) .d))),⟨[],gl,false⟩,[],f215⟩
def t4(b:Int)(f:UInt64)(g:Int)(a:LB):S:=⟨[(0,vq f),(1,vi b),(5,.own 0),(6,vi g)],[Ab 5 a],[]⟩
def z4:Nat->S->Option R_:=H.i P_ [r,r,l,r,d]
def x6(a:LB):Option R_:=H.e P_ [r,r,r] ⟨[(5,.own 0)],[Ab 5 a],[]⟩
def x4(b:Int)(f:UInt64)(g:Int)(a:LB):Option R_:=H.e P_ [r,r,l,r,d] (t4 b f g a)
theorem e6:x6=Vr:=by kernel_rfl
theorem i4(b:Int):∀(q:Nat) (f:UInt64) (g:Int) (a:LB),z4 q (t4 b f g a)=Gt b q f g a:=
 ind (λ_ _ _=>by kernel_rfl) λq ih f g a=>Eq.trans (b:=Oh x6 (λf g a=>(z4 q) (t4 b f g a)) b f g a) (by kernel_rfl) (by simp only[e6,ih]<;>rfl)
theorem e4:x4=Wg:=by funext b f g a;exact Eq.trans (by kernel_rfl) ((i4 b Cl f g a).trans (by rw[Ar];rfl))
def F:=u2 Bd
theorem rn x:H.u P_ x=F x:=Eq.trans (b:=u2 (Ws x4) x) (by kernel_rfl) (by simp only[e4]<;>rfl)
def c:Con:=⟨H.p,H.r,F⟩
theorem ok:ConOk P_ gl 215 c:=co H func215 .nil rn
end F215
namespace F308
def H:Hd:=⟨[Si,Si,Sq],[Ob 5],.d,⟨[(215,F215.c)],gl,false⟩,[],f308⟩
def F:=u3 Qe
theorem rn x:H.u P_ x=F x:=by kernel_rfl
def c:Con:=⟨H.p,H.r,F⟩
theorem ok:ConOk P_ gl 308 c:=co H func308 (.cons F215.ok .nil) rn
end F308
namespace F231
def H:Hd:=⟨[Si,Si],[Ob 5],.d,⟨[(308,F308.c)],gl,false⟩,[],f231⟩
def F:=u2 Th
theorem rn x:H.u P_ x=F x:=by kernel_rfl
def c:Con:=⟨H.p,H.r,F⟩
theorem ok:ConOk P_ gl 231 c:=co H func231 (.cons F308.ok .nil) rn
end F231
namespace F230
def H:Hd:=⟨[Si,Si,Sz],[Ob 5],.d,⟨[(308,F308.c)],gl,false⟩,[],f230⟩
def F:=u3 Fl
theorem rn x:H.u P_ x=F x:=by kernel_rfl
def c:Con:=⟨H.p,H.r,F⟩
theorem ok:ConOk P_ gl 230 c:=co H func230 (.cons F308.ok .nil) rn
end F230
namespace F294
abbrev R_:=(Int×Int)
def H:Hd:=⟨[Sb],[Si,Si],(.seq .d (.cut [0] [] .d (.seq .d (.seq .d (.cut [0,4,5] [] .d .d))))),⟨[(229,F229.c),(230,F230.c),(231,F231.c)],gl,false⟩,[],f294⟩
def x4(a:LB)(b f:Int):Option R_:=H.e P_ [r,r,r,r,r] ⟨[(0,vb a),(4,vi b),(5,vi f)],[],[]⟩
def x3(a:LB):Option R_:=H.e P_ [r,r] ⟨[(0,vb a)],[],[]⟩
theorem e4:x4=AP:=by kernel_rfl
theorem e3:x3=AA:=Eq.trans (b:=Zr x4) (by kernel_rfl) (by simp only[e4]<;>rfl)
def F:=Xs
theorem rn x:H.u P_ x=F x:=Eq.trans (b:=Zi x3 x) (by kernel_rfl) (by simp only[e3]<;>rfl)
def c:Con:=⟨H.p,H.r,F⟩
theorem ok:ConOk P_ gl 294 c:=co H func294 (.cons F229.ok (.cons F230.ok (.cons F231.ok .nil))) rn
end F294
namespace F210
abbrev R_:=(LI×Int)
abbrev K_:=S->Option R_
def H:Hd:=⟨[Sb],[Ol 3,Si],(.seq .d (.seq .d (.seq .d (.blk (.loop [0,4,5] [⟨4,[],.own 3 (.int .i64)⟩] (.blk (.seq .d (.cut [0,4,5,6,7] [] .d .d)))))))),⟨[(293,F293.c),(294,F294.c)],gl,false⟩,[],f210⟩
def t6(a:LB)(b:Int)(f:LI):S:=⟨[(0,vb a),(4,.own 0),(5,vi b)],[Ai 3 f],[]⟩
def z6:Nat->S->Option R_:=H.i P_ [r,r,r,d]
def x9(kn6:K_)(a:LB)(b:Int)(f:LI)(g h:Int):Option R_:=H.e P_ [r,r,r,d,(lp kn6),d,r,r] ⟨[(0,vb a),(4,.own 0),(5,vi b),(6,vi g),(7,vi h)],[Ai 3 f],[]⟩
def x6(a:LB)(b:Int)(f:LI):Option R_:=H.e P_ [r,r,r,d] (t6 a b f)
theorem e9(kn6:K_)(a:LB):x9 kn6 a=Mo (λb f=>kn6 (t6 a b f)) a:=by kernel_rfl
theorem i6(a:LB):∀(q:Nat) (b:Int) (f:LI),z6 q (t6 a b f)=Mi a q b f:=
 ind (λ_ _=>by kernel_rfl) λq ih b f=>Eq.trans (b:=Rq (x9 (z6 q) a) a b f) (by kernel_rfl) (by simp only[e9,ih]<;>rfl)
theorem e6:x6=OB:=by funext a b f;exact Eq.trans (by kernel_rfl) ((i6 a Cl b f).trans (by rw[Ar];rfl))
def F:=HJ
theorem rn x:H.u P_ x=F x:=Eq.trans (b:=NI x6 x) (by kernel_rfl) (by simp only[e6]<;>rfl)
def c:Con:=⟨H.p,H.r,F⟩
theorem ok:ConOk P_ gl 210 c:=co H func210 (.cons F293.ok (.cons F294.ok .nil)) rn
end F210
namespace F129
abbrev R_:=(Int×Int)
def H:Hd:=⟨[Sb],[Si,Si],(.seq .d (.seq .d (.seq .d (.cut [5,6] [] (.seq .d (.blk (.loop [4,5,6,7] [] .d))) .d)))),⟨[(210,F210.c)],gl,false⟩,[],f129⟩
def t4(a:Int)(f:LI)(b g:Int):S:=⟨[(4,.own 0),(5,vi a),(6,vi b),(7,vi g)],[Ai 3 f],[]⟩
def z4:Nat->S->Option R_:=H.i P_ [r,r,r,l,r,d]
def x6(a b:Int):Option R_:=H.e P_ [r,r,r,r] ⟨[(5,vi a),(6,vi b)],[],[]⟩
def x4(a:Int)(f:LI)(b g:Int):Option R_:=H.e P_ [r,r,r,l,r,d] (t4 a f b g)
theorem e6:x6=AO:=by kernel_rfl
theorem i4(a:Int)(f:LI):∀(q:Nat) (b g:Int),z4 q (t4 a f b g)=Iq a f q b g:=
 ind (λ_ _=>by kernel_rfl) λq ih b g=>Eq.trans (b:=Qz x6 (λb g=>(z4 q) (t4 a f b g)) a f b g) (by kernel_rfl) (by simp only[e6,ih]<;>rfl)
theorem e4:x4=Ri:=by funext a f b g;exact Eq.trans (by kernel_rfl) ((i4 a f Cl b g).trans (by rw[Ar];rfl))
def F:=Ju
theorem rn x:H.u P_ x=F x:=Eq.trans (b:=Zz x4 x) (by kernel_rfl) (by simp only[e4]<;>rfl)
def c:Con:=⟨H.p,H.r,F⟩
theorem ok:ConOk P_ gl 129 c:=co H func129 (.cons F210.ok .nil) rn
end F129
namespace F318
def H:Hd:=⟨[Sb,Ss],[Sz],.d,⟨[],gl,false⟩,[],f318⟩
def F:=u2 Pg
theorem rn x:H.u P_ x=F x:=by kernel_rfl
def c:Con:=⟨H.p,H.r,F⟩
theorem ok:ConOk P_ gl 318 c:=co H func318 .nil rn
end F318
namespace F369
abbrev R_:=UInt32
def H:Hd:=⟨[Su,Si],[Su],(.seq .d (.seq .d (.cut [0,5] [] .d .d))),⟨[],gl,false⟩,[],f369⟩
def x2(a:UInt32)(b:Bool):Option R_:=H.e P_ [r,r,r] ⟨[(0,vu a),(5,vt b)],[],[]⟩
theorem e2:x2=CG:=by kernel_rfl
def F:=u2 BK
theorem rn x:H.u P_ x=F x:=Eq.trans (b:=u2 (BP x2) x) (by kernel_rfl) (by simp only[e2]<;>rfl)
def c:Con:=⟨H.p,H.r,F⟩
theorem ok:ConOk P_ gl 369 c:=co H func369 .nil rn
end F369
namespace F347
abbrev R_:=UInt32
def H:Hd:=⟨[Su,Sc],[Su],(.seq .d (.cut [0] [] (.seq .d (.blk (.loop [0,1,5] [] .d))) .d)),⟨[(369,F369.c)],gl,false⟩,[],f347⟩
def t4(a:UInt32)(b:UInt8)(f:Int):S:=⟨[(0,vu a),(1,vc b),(5,vi f)],[],[]⟩
def z4:Nat->S->Option R_:=H.i P_ [r,l,r,d]
def x6(a:UInt32):Option R_:=H.e P_ [r,r] ⟨[(0,vu a)],[],[]⟩
def x4(a:UInt32)(b:UInt8)(f:Int):Option R_:=H.e P_ [r,l,r,d] (t4 a b f)
theorem e6:x6=DX:=by kernel_rfl
theorem i4:∀(q:Nat) (a:UInt32) (b:UInt8) (f:Int),z4 q (t4 a b f)=Ka q a b f:=
 ind (λ_ _ _=>by kernel_rfl) λq ih a b f=>Eq.trans (b:=Tw x6 (λa b f=>(z4 q) (t4 a b f)) a b f) (by kernel_rfl) (by simp only[e6,ih]<;>rfl)
theorem e4:x4=QW:=by funext a b f;exact Eq.trans (by kernel_rfl) ((i4 Cl a b f).trans (by rw[Ar];rfl))
def F:=u2 MB
theorem rn x:H.u P_ x=F x:=Eq.trans (b:=u2 (SD x4) x) (by kernel_rfl) (by simp only[e4]<;>rfl)
def c:Con:=⟨H.p,H.r,F⟩
theorem ok:ConOk P_ gl 347 c:=co H func347 (.cons F369.ok .nil) rn
end F347
namespace F295
abbrev R_:=UInt32
def H:Hd:=⟨[Su,Sb],[Su],(.seq .d (.cut [0] [] (.seq .d (.blk (.loop [0,1,5] [] .d))) .d)),⟨[(347,F347.c)],gl,false⟩,[],f295⟩
def t4(b:LB)(a:UInt32)(f:Int):S:=⟨[(0,vu a),(1,vb b),(5,vi f)],[],[]⟩
def z4:Nat->S->Option R_:=H.i P_ [r,l,r,d]
def x6(a:UInt32):Option R_:=H.e P_ [r,r] ⟨[(0,vu a)],[],[]⟩
def x4(b:LB)(a:UInt32)(f:Int):Option R_:=H.e P_ [r,l,r,d] (t4 b a f)
theorem e6:x6=Ym:=by kernel_rfl
theorem i4(b:LB):∀(q:Nat) (a:UInt32) (f:Int),z4 q (t4 b a f)=Hv b q a f:=
 ind (λ_ _=>by kernel_rfl) λq ih a f=>Eq.trans (b:=Pn x6 (λa f=>(z4 q) (t4 b a f)) b a f) (by kernel_rfl) (by simp only[e6,ih]<;>rfl)
theorem e4:x4=Xw:=by funext b a f;exact Eq.trans (by kernel_rfl) ((i4 b Cl a f).trans (by rw[Ar];rfl))
def F:=u2 FH
theorem rn x:H.u P_ x=F x:=Eq.trans (b:=u2 (Xn x4) x) (by kernel_rfl) (by simp only[e4]<;>rfl)
def c:Con:=⟨H.p,H.r,F⟩
theorem ok:ConOk P_ gl 295 c:=co H func295 (.cons F347.ok .nil) rn
end F295
namespace F212
def H:Hd:=⟨[Sb],[Su],.d,⟨[(295,F295.c)],gl,false⟩,[],f212⟩
def F:=Sk
theorem rn x:H.u P_ x=F x:=by kernel_rfl
def c:Con:=⟨H.p,H.r,F⟩
theorem ok:ConOk P_ gl 212 c:=co H func212 (.cons F295.ok .nil) rn
end F212
namespace F130
def AM(j6:UInt64->UInt64->UInt64->UInt64->UInt64->Option (Int×Int×Int×Int×Int×Int))(a:LB):Option (Int×Int×Int×Int×Int×Int):=
(Bp a 4 6).bind λu=>
(Bp a 6 8).bind λp=>
(Bp a 8 10).bind λo=>
(Bp a 10 14).bind λn=>
(Bp a 14 18).bind λm=>
both (
(Az u).bind λk=>
both (
(Az p).bind λh=>
both (
(Az o).bind λg=>
both (
(Az n).bind λf=>
both (
(Az m).bind λb=>
bo (
j6 k h g f b)) [
(Az m).bind λb=>
j6 k h g f b]) [
(Az n).bind λf=>
(Az m).bind λb=>
j6 k h g f b]) [
(Az o).bind λg=>
(Az n).bind λf=>
(Az m).bind λb=>
j6 k h g f b]) [
(Az p).bind λh=>
(Az o).bind λg=>
(Az n).bind λf=>
(Az m).bind λb=>
j6 k h g f b]) [
(Az u).bind λk=>
(Az p).bind λh=>
(Az o).bind λg=>
(Az n).bind λf=>
(Az m).bind λb=>
j6 k h g f b]
theorem ZY: @AM= @Tn:=by
  unfold AM Tn
  repeat (refine funext λ_=>?_)
  repeat' first
    |with_reducible rfl
    |with_reducible refine Gn ?_ ?_
    |with_reducible refine Gi ?_ ?_ ?_
    |with_reducible refine Gp ?_ ?_ ?_ ?_
    |((with_reducible refine Km ?_ ?_);focus (intro h;first|(subst h;rfl)|(simp only[h];rfl)|(simp[Cz,Ac,h];done)))
    |with_reducible refine Kk λx=>?_
    |with_reducible refine Pr (λ_=>?_) (λ_=>?_)
    |(refine Du (λh=>by simp only[h,Kl,Cy,Cu,ite_self]) (λx h=>?_);(try simp only[h,Cy]))
    |(refine Et (λh=>?_) (λh=>?_)<;>simp only[h,if_true,if_false,Bool.false_eq_true])
abbrev R_:=(Int×Int×Int×Int×Int×Int)
def H:Hd:=⟨[Sb],[.agg [Si,Si,Si,Si,Si],Si],(.seq .d (.seq .d (.cut [0,2] [] .d (.seq .d (.cut [0,2] [] .d (.cut [2,5] [] .d .d)))))),⟨[(211,F211.c),(212,F212.c),(213,F213.c),(214,F214.c)],gl,false⟩,[],f130⟩
def x6(k h g f b:UInt64):Option R_:=H.e P_ [r,r,r,r,r,r] ⟨[(2,.ptr 0 []),(5,.ptr 1 [])],[.box 33 (.agg [vi 0,vi 0,vi 0,vi 0,vi 0]),.box 33 (.agg [vi (Ad k:Int),vi (Ad h:Int),vi (Ad g:Int),vi (Ad f:Int),vi (Ad b:Int)])],[]⟩
def x5(a:LB):Option R_:=H.e P_ [r,r,r,r,r] ⟨[(0,vb a),(2,.ptr 0 [])],[.box 33 (.agg [vi 0,vi 0,vi 0,vi 0,vi 0])],[]⟩
def x4(a:LB):Option R_:=H.e P_ [r,r,r] ⟨[(0,vb a),(2,.ptr 0 [])],[.box 33 (.agg [vi 0,vi 0,vi 0,vi 0,vi 0])],[]⟩
theorem e6:x6=DI:=by kernel_rfl
theorem e5:x5=DM:=Eq.trans (b:=AM x6) (by kernel_rfl) (by rw[ZY];simp only[e6]<;>rfl)
theorem e4:x4=DK:=Eq.trans (b:=CW x5) (by kernel_rfl) (by simp only[e5]<;>rfl)
def F:=Ld
theorem rn x:H.u P_ x=F x:=Eq.trans (b:=CP x4 x) (by kernel_rfl) (by simp only[e4]<;>rfl)
def c:Con:=⟨H.p,H.r,F⟩
theorem ok:ConOk P_ gl 130 c:=co H func130 (.cons F211.ok (.cons F212.ok (.cons F213.ok (.cons F214.ok .nil)))) rn
end F130
namespace F245
abbrev R_:=(Int×Int×Int×Int×Int×Int×Int)
def H:Hd:=⟨[Sb],[Si,.agg [Si,Si,Si,Si,Si],Si],(.seq .d (.seq .d (.seq .d (.seq .d (.seq .d (.cut [3,5,7] [] .d (.seq .d (.seq .d (.seq (.mode false) .d))))))))),⟨[(129,F129.c),(130,F130.c),(318,F318.c)],gl,false⟩,[],f245⟩
def x2(b:Int)(a:LB):Option R_:=H.e P_ [r,r,r,r,r,r] ⟨[(3,.ptr 0 []),(5,vi b),(7,vb a)],[.box 33 (.agg [vi 0,vi 0,vi 0,vi 0,vi 0])],[]⟩
theorem e2:x2=Vo:=by kernel_rfl
def F:=Nk
theorem rn x:H.u P_ x=F x:=Eq.trans (b:=Vs x2 x) (by kernel_rfl) (by simp only[e2]<;>rfl)
def c:Con:=⟨H.p,H.r,F⟩
theorem ok:ConOk P_ gl 245 c:=co H func245 (.cons F129.ok (.cons F130.ok (.cons F318.ok .nil))) rn
end F245
namespace F370
abbrev R_:=UInt64
def H:Hd:=⟨[Sq,Si],[Sq],(.seq .d (.seq .d (.cut [0,5] [] .d .d))),⟨[],gl,false⟩,[],f370⟩
def x2(a:UInt64)(b:Bool):Option R_:=H.e P_ [r,r,r] ⟨[(0,vq a),(5,vt b)],[],[]⟩
theorem e2:x2=Sp:=by kernel_rfl
def F:=u2 BL
theorem rn x:H.u P_ x=F x:=Eq.trans (b:=u2 (DB x2) x) (by kernel_rfl) (by simp only[e2]<;>rfl)
def c:Con:=⟨H.p,H.r,F⟩
theorem ok:ConOk P_ gl 370 c:=co H func370 .nil rn
end F370
namespace F348
abbrev R_:=UInt64
def H:Hd:=⟨[Sq,Sc],[Sq],(.seq .d (.cut [0] [] (.seq .d (.blk (.loop [0,1,5] [] .d))) .d)),⟨[(370,F370.c)],gl,false⟩,[],f348⟩
def t4(b:UInt8)(a:UInt64)(f:Int):S:=⟨[(0,vq a),(1,vc b),(5,vi f)],[],[]⟩
def z4:Nat->S->Option R_:=H.i P_ [r,l,r,d]
def x6(a:UInt64):Option R_:=H.e P_ [r,r] ⟨[(0,vq a)],[],[]⟩
def x4(b:UInt8)(a:UInt64)(f:Int):Option R_:=H.e P_ [r,l,r,d] (t4 b a f)
theorem e6:x6=BR:=by kernel_rfl
theorem i4(b:UInt8):∀(q:Nat) (a:UInt64) (f:Int),z4 q (t4 b a f)=Kb b q a f:=
 ind (λ_ _=>by kernel_rfl) λq ih a f=>Eq.trans (b:=Uc x6 (λa f=>(z4 q) (t4 b a f)) b a f) (by kernel_rfl) (by simp only[e6,ih]<;>rfl)
theorem e4:x4=QT:=by funext b a f;exact Eq.trans (by kernel_rfl) ((i4 b Cl a f).trans (by rw[Ar];rfl))
def F:=u2 JR
theorem rn x:H.u P_ x=F x:=Eq.trans (b:=u2 (QZ x4) x) (by kernel_rfl) (by simp only[e4]<;>rfl)
def c:Con:=⟨H.p,H.r,F⟩
theorem ok:ConOk P_ gl 348 c:=co H func348 (.cons F370.ok .nil) rn
end F348
namespace F296
abbrev R_:=UInt64
def H:Hd:=⟨[Sq,Sb],[Sq],(.seq .d (.cut [0] [] (.seq .d (.blk (.loop [0,1,5] [] .d))) .d)),⟨[(348,F348.c)],gl,false⟩,[],f296⟩
def t4(b:LB)(a:UInt64)(f:Int):S:=⟨[(0,vq a),(1,vb b),(5,vi f)],[],[]⟩
def z4:Nat->S->Option R_:=H.i P_ [r,l,r,d]
def x6(a:UInt64):Option R_:=H.e P_ [r,r] ⟨[(0,vq a)],[],[]⟩
def x4(b:LB)(a:UInt64)(f:Int):Option R_:=H.e P_ [r,l,r,d] (t4 b a f)
theorem e6:x6=Xv:=by kernel_rfl
theorem i4(b:LB):∀(q:Nat) (a:UInt64) (f:Int),z4 q (t4 b a f)=Hu b q a f:=
 ind (λ_ _=>by kernel_rfl) λq ih a f=>Eq.trans (b:=Ps x6 (λa f=>(z4 q) (t4 b a f)) b a f) (by kernel_rfl) (by simp only[e6,ih]<;>rfl)
theorem e4:x4=LM:=by funext b a f;exact Eq.trans (by kernel_rfl) ((i4 b Cl a f).trans (by rw[Ar];rfl))
def F:=u2 Vb
theorem rn x:H.u P_ x=F x:=Eq.trans (b:=u2 (JT x4) x) (by kernel_rfl) (by simp only[e4]<;>rfl)
def c:Con:=⟨H.p,H.r,F⟩
theorem ok:ConOk P_ gl 296 c:=co H func296 (.cons F348.ok .nil) rn
end F296
namespace F216
def H:Hd:=⟨[Ss],[Sq],.d,⟨[(296,F296.c)],gl,false⟩,[],f216⟩
def F:=LH
theorem rn x:H.u P_ x=F x:=by kernel_rfl
def c:Con:=⟨H.p,H.r,F⟩
theorem ok:ConOk P_ gl 216 c:=co H func216 (.cons F296.ok .nil) rn
end F216
namespace F131
def H:Hd:=⟨[Ss],[Ob 5],.d,⟨[(215,F215.c),(216,F216.c)],gl,false⟩,[],f131⟩
def F:=Kh
theorem rn x:H.u P_ x=F x:=by kernel_rfl
def c:Con:=⟨H.p,H.r,F⟩
theorem ok:ConOk P_ gl 131 c:=co H func131 (.cons F215.ok (.cons F216.ok .nil)) rn
end F131
namespace F132
abbrev R_:=(LI×Int)
def H:Hd:=⟨[Sb,Si],[Ol 3,Si],(.seq .d (.seq .d (.seq .d (.cut [0,1] [] .d (.seq .d (.cut [6] [] (.seq .d (.blk (.loop [0,1,6,7] [⟨6,[],.own 3 (.int .i64)⟩] .d))) .d)))))),⟨[(211,F211.c),(212,F212.c),(217,F217.c)],gl,false⟩,[],f132⟩
def t6(b:LB)(a g:Int)(f:LI):S:=⟨[(0,vb b),(1,vi a),(6,.own 0),(7,vi g)],[Ai 3 f],[]⟩
def z6:Nat->S->Option R_:=H.i P_ [r,r,r,r,r,l,r,d]
def x8(f:LI):Option R_:=H.e P_ [r,r,r,r,r,r] ⟨[(6,.own 0)],[Ai 3 f],[]⟩
def x6(b:LB)(a g:Int)(f:LI):Option R_:=H.e P_ [r,r,r,r,r,l,r,d] (t6 b a g f)
def x5(b:LB)(a:Int):Option R_:=H.e P_ [r,r,r,r] ⟨[(0,vb b),(1,vi a)],[],[]⟩
theorem e8:x8=Ti:=by kernel_rfl
theorem i6(b:LB)(a:Int):∀(q:Nat) (g:Int) (f:LI),z6 q (t6 b a g f)=Jz b a q g f:=
 ind (λ_ _=>by kernel_rfl) λq ih g f=>Eq.trans (b:=Tg x8 (λg f=>(z6 q) (t6 b a g f)) b a g f) (by kernel_rfl) (by simp only[e8,ih]<;>rfl)
theorem e6:x6=DO:=by funext b a g f;exact Eq.trans (by kernel_rfl) ((i6 b a Cl g f).trans (by rw[Ar];rfl))
theorem e5:x5=CT:=Eq.trans (b:=BW x6) (by kernel_rfl) (by simp only[e6]<;>rfl)
def F:=u2 Oi
theorem rn x:H.u P_ x=F x:=Eq.trans (b:=u2 (CA x5) x) (by kernel_rfl) (by simp only[e5]<;>rfl)
def c:Con:=⟨H.p,H.r,F⟩
theorem ok:ConOk P_ gl 132 c:=co H func132 (.cons F211.ok (.cons F212.ok (.cons F217.ok .nil))) rn
end F132
namespace F247
abbrev R_:=(Int×LI×Int)
def H:Hd:=⟨[Sb,.agg [Si,Si,Si,Si,Si],Ss],[Si,Ol 3,Si],(.seq .d (.seq .d (.cut [0,4,9] [] .d (.cut [9,10,11] [] .d .d)))),⟨[(131,F131.c),(132,F132.c),(316,F316.c)],gl,false⟩,[],f247⟩
def x4(b g:Int)(h:LI):Option R_:=H.e P_ [r,r,r,r] ⟨[(9,vi b),(10,.own 0),(11,vi g)],[Ai 3 h],[]⟩
def x3(a:LB)(f k m n o b:Int):Option R_:=H.e P_ [r,r,r] ⟨[(0,vb a),(4,.ptr 0 []),(9,vi b)],[.box 33 (.agg [vi f,vi k,vi m,vi n,vi o])],[]⟩
theorem e4:x4=Xy:=by kernel_rfl
theorem e3:x3=Dk:=Eq.trans (b:=Yl x4) (by kernel_rfl) (by simp only[e4]<;>rfl)
def F:=u7 Dt
theorem rn x:H.u P_ x=F x:=Eq.trans (b:=u7 (Fu x3) x) (by kernel_rfl) (by simp only[e3]<;>rfl)
def c:Con:=⟨H.p,H.r,F⟩
theorem ok:ConOk P_ gl 247 c:=co H func247 (.cons F131.ok (.cons F132.ok (.cons F316.ok .nil))) rn
end F247
namespace F218
def H:Hd:=⟨[Sq,Sb],[Sq,Si],.d,⟨[(296,F296.c)],gl,false⟩,[],f218⟩
def F:=u2 KY
theorem rn x:H.u P_ x=F x:=by kernel_rfl
def c:Con:=⟨H.p,H.r,F⟩
theorem ok:ConOk P_ gl 218 c:=co H func218 (.cons F296.ok .nil) rn
end F218
namespace F134
def H:Hd:=⟨[Sb],[Sq,Si],.d,⟨[(218,F218.c)],gl,false⟩,[],f134⟩
def F:=PO
theorem rn x:H.u P_ x=F x:=by kernel_rfl
def c:Con:=⟨H.p,H.r,F⟩
theorem ok:ConOk P_ gl 134 c:=co H func134 (.cons F218.ok .nil) rn
end F134
namespace F135
abbrev R_:=LX
abbrev K_:=S->Option R_
def H:Hd:=⟨[Sq],[.lf (.vec 16 (.int .i32)) none],(.seq .d (.seq .d (.cut [2,3] [] (.seq .d (.blk (.loop [0,2,3,4] [] (.seq .d (.seq (.blk (.seq .d (.cut [0,2,3,4,5] [] .d .d))) .d))))) .d))),⟨[],gl,false⟩,[],f135⟩
def t6(b:UInt64)(f:Int)(a:LX):S:=⟨[(0,vq b),(2,.ptr 0 []),(3,.ptr 1 []),(4,vi f)],[.box 105 (.val (.vec 16 (.int .i32)) (List.replicate 16 (0:Int32))),.box 105 (.val (.vec 16 (.int .i32)) a)],[]⟩
def z6:Nat->S->Option R_:=H.i P_ [r,r,l,r,d]
def x10(a:LX):Option R_:=H.e P_ [r,r,r] ⟨[(2,.ptr 0 []),(3,.ptr 1 [])],[.box 105 (.val (.vec 16 (.int .i32)) (List.replicate 16 (0:Int32))),.box 105 (.val (.vec 16 (.int .i32)) a)],[]⟩
def x8(kn6:K_)(b:UInt64)(f:Int)(a:LX)(g:Int32):Option R_:=H.e P_ [r,r,l,r,d,(lp kn6),r,l,d,r,r] ⟨[(0,vq b),(2,.ptr 0 []),(3,.ptr 1 []),(4,vi f),(5,vx g)],[.box 105 (.val (.vec 16 (.int .i32)) (List.replicate 16 (0:Int32))),.box 105 (.val (.vec 16 (.int .i32)) a)],[]⟩
def x6(b:UInt64)(f:Int)(a:LX):Option R_:=H.e P_ [r,r,l,r,d] (t6 b f a)
theorem e10:x10=TO:=by kernel_rfl
theorem e8(kn6:K_):x8 kn6=Xx (λb f a=>kn6 (t6 b f a)):=by kernel_rfl
theorem i6:∀(q:Nat) (b:UInt64) (f:Int) (a:LX),z6 q (t6 b f a)=Jv q b f a:=
 ind (λ_ _ _=>by kernel_rfl) λq ih b f a=>Eq.trans (b:=Xl (x8 (z6 q)) x10 b f a) (by kernel_rfl) (by simp only[e8,e10,ih]<;>rfl)
theorem e6:x6=VM:=by funext b f a;exact Eq.trans (by kernel_rfl) ((i6 Cl b f a).trans (by rw[Ar];rfl))
def F:=SU
theorem rn x:H.u P_ x=F x:=Eq.trans (b:=YD x6 x) (by kernel_rfl) (by simp only[e6]<;>rfl)
def c:Con:=⟨H.p,H.r,F⟩
theorem ok:ConOk P_ gl 135 c:=co H func135 .nil rn
end F135
namespace F73
def H:Hd:=⟨[Ss],[.lf (.vec 16 (.int .i32)) none,Si],.d,⟨[(134,F134.c),(135,F135.c)],gl,false⟩,[],f73⟩
def F:=Kv
theorem rn x:H.u P_ x=F x:=by kernel_rfl
def c:Con:=⟨H.p,H.r,F⟩
theorem ok:ConOk P_ gl 73 c:=co H func73 (.cons F134.ok (.cons F135.ok .nil)) rn
end F73
namespace F159
def H:Hd:=⟨[Si],[Si],.d,⟨[],gl,false⟩,[],f159⟩
def F:=Ik
theorem rn x:H.u P_ x=F x:=by kernel_rfl
def c:Con:=⟨H.p,H.r,F⟩
theorem ok:ConOk P_ gl 159 c:=co H func159 .nil rn
end F159
namespace F165
def H:Hd:=⟨[.agg [Si,Si]],[Si],.d,⟨[(159,F159.c)],gl,false⟩,[],f165⟩
def F:=u2 Di
theorem rn x:H.u P_ x=F x:=by kernel_rfl
def c:Con:=⟨H.p,H.r,F⟩
theorem ok:ConOk P_ gl 165 c:=co H func165 (.cons F159.ok .nil) rn
end F165
namespace F136
def H:Hd:=⟨[.agg [Si,Si],Si],[Si],.d,⟨[(165,F165.c)],gl,false⟩,[],f136⟩
def F:=u3 Ed
theorem rn x:H.u P_ x=F x:=by kernel_rfl
def c:Con:=⟨H.p,H.r,F⟩
theorem ok:ConOk P_ gl 136 c:=co H func136 (.cons F165.ok .nil) rn
end F136
namespace F219
def H:Hd:=⟨[Sb],[Ob 5],.d,⟨[(212,F212.c)],gl,false⟩,[],f219⟩
def F:=Vd
theorem rn x:H.u P_ x=F x:=by kernel_rfl
def c:Con:=⟨H.p,H.r,F⟩
theorem ok:ConOk P_ gl 219 c:=co H func219 (.cons F212.ok .nil) rn
end F219
namespace F137
def H:Hd:=⟨[Sb],[Si],.d,⟨[(219,F219.c)],gl,false⟩,[],f137⟩
def F:=Pb
theorem rn x:H.u P_ x=F x:=by kernel_rfl
def c:Con:=⟨H.p,H.r,F⟩
theorem ok:ConOk P_ gl 137 c:=co H func137 (.cons F219.ok .nil) rn
end F137
namespace F220
def H:Hd:=⟨[],[.agg [Si,Si,Sq,Sq]],.d,⟨[],gl,false⟩,[],f220⟩
noncomputable def F(x:Unit):=Ms
theorem rn x:H.u P_ x=F x:=by kernel_rfl
def c:Con:=⟨H.p,H.r,F⟩
theorem ok:ConOk P_ gl 220 c:=co H func220 .nil rn
end F220
namespace F301
abbrev R_:=UInt64
def H:Hd:=⟨[Si],[Sq],(.seq .d (.seq .d (.cut [3] [] (.seq .d (.blk (.loop [0,3,4] [] .d))) .d))),⟨[],gl,false⟩,[],f301⟩
def t4(b:Int)(a:UInt64)(f:Int):S:=⟨[(0,vi b),(3,vq a),(4,vi f)],[],[]⟩
def z4:Nat->S->Option R_:=H.i P_ [r,r,l,r,d]
def x6(a:UInt64):Option R_:=H.e P_ [r,r,r] ⟨[(3,vq a)],[],[]⟩
def x4(b:Int)(a:UInt64)(f:Int):Option R_:=H.e P_ [r,r,l,r,d] (t4 b a f)
theorem e6:x6=NG:=by kernel_rfl
theorem i4(b:Int):∀(q:Nat) (a:UInt64) (f:Int),z4 q (t4 b a f)=Io b q a f:=
 ind (λ_ _=>by kernel_rfl) λq ih a f=>Eq.trans (b:=Ro x6 (λa f=>(z4 q) (t4 b a f)) b a f) (by kernel_rfl) (by simp only[e6,ih]<;>rfl)
theorem e4:x4=NP:=by funext b a f;exact Eq.trans (by kernel_rfl) ((i4 b Cl a f).trans (by rw[Ar];rfl))
def F:=Ft
theorem rn x:H.u P_ x=F x:=Eq.trans (b:=ND x4 x) (by kernel_rfl) (by simp only[e4]<;>rfl)
def c:Con:=⟨H.p,H.r,F⟩
theorem ok:ConOk P_ gl 301 c:=co H func301 .nil rn
end F301
namespace F349
def H:Hd:=⟨[.agg [Si,Si,Sq,Sq],Su],[Sz],.d,⟨[(301,F301.c)],gl,false⟩,[],f349⟩
def F:=u5 Wk
theorem rn x:H.u P_ x=F x:=by kernel_rfl
def c:Con:=⟨H.p,H.r,F⟩
theorem ok:ConOk P_ gl 349 c:=co H func349 (.cons F301.ok .nil) rn
end F349
namespace F351
def H:Hd:=⟨[.agg [Si,Si,Sq,Sq],Su],[Su],.d,⟨[(301,F301.c)],gl,false⟩,[],f351⟩
def F:=u5 Od
theorem rn x:H.u P_ x=F x:=by kernel_rfl
def c:Con:=⟨H.p,H.r,F⟩
theorem ok:ConOk P_ gl 351 c:=co H func351 (.cons F301.ok .nil) rn
end F351
namespace F350
abbrev R_:=(Int×UInt64)
def H:Hd:=⟨[Si,Sq,Sq],[Si,Sq],(.seq .d (.seq .d (.cut [0,1] [] .d .d))),⟨[(301,F301.c)],gl,false⟩,[],f350⟩
def x2(b:Int)(a f:UInt64):Option R_:=H.e P_ [r,r,r] ⟨[(0,vi b),(1,vq (Au (Af a f) (By a (16:UInt64))))],[],[]⟩
theorem e2:x2=Sy:=by kernel_rfl
def F:=u3 Kw
theorem rn x:H.u P_ x=F x:=Eq.trans (b:=u3 (CZ x2) x) (by kernel_rfl) (by simp only[e2]<;>rfl)
def c:Con:=⟨H.p,H.r,F⟩
theorem ok:ConOk P_ gl 350 c:=co H func350 (.cons F301.ok .nil) rn
end F350
namespace F297
def Vp(j2:UInt32->Int->Int->UInt64->UInt64->Int->UInt64->Option (Int×Int×UInt64×UInt64))(f a:Int)(g b:UInt64)(h:UInt32):Option (Int×Int×UInt64×UInt64):=
(Wk f a g b h).bind λu=>
if(!u)then
(λw:Option (Int×Int×UInt64×UInt64)=>
(λv:Option (Int×Int×UInt64×UInt64)=>
(λy:Option (Int×Int×UInt64×UInt64)=>
both (
y) [
y,
both (
v) [
v,
(Od f a g b h).bind λk=>
(λac:Option (Int×Int×UInt64×UInt64)=>
bo (
ac)) (
(Kw a b (Ad k:UInt64)).bind λ(m,n)=>
j2 h f a g b m n)]]) (
both (
w) [
v])) (
bo (
w))) (
(Od f a g b h).bind λk=>
(Kw a b (Ad k:UInt64)).bind λ(m,n)=>
j2 h f a g b m n)
else
j2 h f a g b a b
theorem XX: @Vp= @Pp:=by
  unfold Vp Pp
  try simp only[NZ,Zd,AH]
  all_goals
    repeat (refine funext λ_=>?_)
    repeat' first
      |with_reducible rfl
      |with_reducible refine Gn ?_ ?_
      |with_reducible refine Gi ?_ ?_ ?_
      |with_reducible refine Gp ?_ ?_ ?_ ?_
      |((with_reducible refine Km ?_ ?_);focus (intro h;first|(subst h;rfl)|(simp only[h];rfl)|(simp[Cz,Ac,h];done)))
      |with_reducible refine Kk λx=>?_
      |with_reducible refine Pr (λ_=>?_) (λ_=>?_)
      |(refine Du (λh=>by simp only[h,Kl,Cy,Cu,ite_self]) (λx h=>?_);(try simp only[h,Cy]))
      |(refine Et (λh=>?_) (λh=>?_)<;>simp only[h,if_true,if_false,Bool.false_eq_true])
abbrev R_:=(Int×Int×UInt64×UInt64)
def H:Hd:=⟨[.agg [Si,Si,Sq,Sq],Su],[.agg [Si,Si,Sq,Sq]],(.seq .d (.seq .d (.cut [1,2,4,5] [] (.seq .d (.cond (.mode false) .d)) .d))),⟨[(349,F349.c),(350,F350.c),(351,F351.c)],gl,false⟩,[],f297⟩
def x2(h:UInt32)(f a:Int)(g b:UInt64)(o:Int)(p:UInt64):Option R_:=H.e P_ [r,r,r] ⟨[(1,vu h),(2,.ptr 0 []),(4,.ptr 1 []),(5,.ptr 2 [])],[.box 254 (.agg [vi f,vi a,vq g,vq b]),.box 254 (.agg [vi 0,vi 0,vq 0,vq 0]),.box 254 (.agg [vi f,vi o,vq g,vq p])],[]⟩
theorem e2:x2=Pq:=by kernel_rfl
def F:=u5 Uz
theorem rn x:H.u P_ x=F x:=Eq.trans (b:=u5 (Vp x2) x) (by kernel_rfl) (by unfold F;rw[XX];simp only[e2]<;>rfl)
def c:Con:=⟨H.p,H.r,F⟩
theorem ok:ConOk P_ gl 297 c:=co H func297 (.cons F349.ok (.cons F350.ok (.cons F351.ok .nil))) rn
end F297
namespace F221
abbrev R_:=(Int×Int×UInt64×UInt64)
def H:Hd:=⟨[Si,Sv],[.agg [Si,Si,Sq,Sq]],(.seq .d (.seq .d (.cut [4,5] [] (.seq .d (.blk (.loop [0,1,4,5,6] [] .d))) .d))),⟨[(220,F220.c),(297,F297.c)],gl,false⟩,[],f221⟩
def t4(h:Int)(k:LU)(m a b:Int)(f g:UInt64):S:=⟨[(0,vi h),(1,vv k),(4,.ptr 0 []),(5,.ptr 1 []),(6,vi m)],[.box 254 (.agg [vi 0,vi 0,vq 0,vq 0]),.box 254 (.agg [vi a,vi b,vq f,vq g])],[]⟩
def z4:Nat->S->Option R_:=H.i P_ [r,r,l,r,d]
def x6(a b:Int)(f g:UInt64):Option R_:=H.e P_ [r,r,r] ⟨[(4,.ptr 0 []),(5,.ptr 1 [])],[.box 254 (.agg [vi 0,vi 0,vq 0,vq 0]),.box 254 (.agg [vi a,vi b,vq f,vq g])],[]⟩
def x4(h:Int)(k:LU)(m a b:Int)(f g:UInt64):Option R_:=H.e P_ [r,r,l,r,d] (t4 h k m a b f g)
theorem e6:x6=JS:=by kernel_rfl
theorem i4(h:Int)(k:LU):∀(q:Nat) (m a b:Int) (f g:UInt64),z4 q (t4 h k m a b f g)=Lf h k q m a b f g:=
 ind (λ_ _ _ _ _=>by kernel_rfl) λq ih m a b f g=>Eq.trans (b:=Yc x6 (λm a b f g=>(z4 q) (t4 h k m a b f g)) h k m a b f g) (by kernel_rfl) (by simp only[e6,ih]<;>rfl)
theorem e4:x4=MS:=by funext h k m a b f g;exact Eq.trans (by kernel_rfl) ((i4 h k Cl m a b f g).trans (by rw[Ar];rfl))
def F:=u2 Pa
theorem rn x:H.u P_ x=F x:=Eq.trans (b:=u2 (Xm x4) x) (by kernel_rfl) (by simp only[e4]<;>rfl)
def c:Con:=⟨H.p,H.r,F⟩
theorem ok:ConOk P_ gl 221 c:=co H func221 (.cons F220.ok (.cons F297.ok .nil)) rn
end F221
namespace F224
abbrev R_:=Int
def H:Hd:=⟨[.agg [Sb,Si],Si],[Si],(.seq .d (.seq .d (.cut [5] [] (.seq .d (.blk (.loop [1,5,6] [] .d))) .d))),⟨[],gl,false⟩,[],f224⟩
def t4(b a f:Int):S:=⟨[(1,vi b),(5,vi a),(6,vi f)],[],[]⟩
def z4:Nat->S->Option R_:=H.i P_ [r,r,l,r,d]
def x6(a:Int):Option R_:=H.e P_ [r,r,r] ⟨[(5,vi a)],[],[]⟩
def x4(b a f:Int):Option R_:=H.e P_ [r,r,l,r,d] (t4 b a f)
theorem e6:x6=IA:=by kernel_rfl
theorem i4(b:Int):∀(q:Nat) (a f:Int),z4 q (t4 b a f)=My b q a f:=
 ind (λ_ _=>by kernel_rfl) λq ih a f=>Eq.trans (b:=Ya x6 (λa f=>(z4 q) (t4 b a f)) b a f) (by kernel_rfl) (by simp only[e6,ih]<;>rfl)
theorem e4:x4=HS:=by funext b a f;exact Eq.trans (by kernel_rfl) ((i4 b Cl a f).trans (by rw[Ar];rfl))
def F:=u3 Ly
theorem rn x:H.u P_ x=F x:=Eq.trans (b:=u3 (HU x4) x) (by kernel_rfl) (by simp only[e4]<;>rfl)
def c:Con:=⟨H.p,H.r,F⟩
theorem ok:ConOk P_ gl 224 c:=co H func224 .nil rn
end F224
namespace F298
abbrev R_:=(LB×Int)
def H:Hd:=⟨[.agg [Ob 5,Si],Si],[.agg [Ob 5,Si]],(.seq .d (.cut [1,2,4] [] .d (.seq .d (.cut [1,2,4,5] [] (.seq .d (.blk (.loop [1,2,4,5,6] [] .d))) .d)))),⟨[],gl,false⟩,[],f298⟩
def t6(b a:Int)(f:LB)(g h:Int):S:=⟨[(1,vi b),(2,.ptr 0 []),(4,.ptr 1 []),(5,vi g),(6,vi h)],[.box 183 (.agg [.own 2,vi a]),.box 183 (.agg [.nils,vi 0]),Ab 5 f],[]⟩
def z6:Nat->S->Option R_:=H.i P_ [r,r,r,l,r,d]
def x8(b g a:Int)(f:LB):Option R_:=H.e P_ [r,r,r,r] ⟨[(1,vi b),(2,.ptr 0 []),(4,.ptr 1 []),(5,vi g)],[.box 183 (.agg [.own 2,vi a]),.box 183 (.agg [.nils,vi 0]),Ab 5 f],[]⟩
def x6(b a:Int)(f:LB)(g h:Int):Option R_:=H.e P_ [r,r,r,l,r,d] (t6 b a f g h)
def x5(b a:Int)(f:LB):Option R_:=H.e P_ [r,r] ⟨[(1,vi b),(2,.ptr 0 []),(4,.ptr 1 [])],[.box 183 (.agg [.own 2,vi a]),.box 183 (.agg [.nils,vi 0]),Ab 5 f],[]⟩
theorem e8:x8=Va:=by kernel_rfl
theorem i6(b a:Int)(f:LB):∀(q:Nat) (g h:Int),z6 q (t6 b a f g h)=Lt b a f q g h:=
 ind (λ_ _=>by kernel_rfl) λq ih g h=>Eq.trans (b:=Vn x8 (λg h=>(z6 q) (t6 b a f g h)) b a f g h) (by kernel_rfl) (by simp only[e8,ih]<;>rfl)
theorem e6:x6=FL:=by funext b a f g h;exact Eq.trans (by kernel_rfl) ((i6 b a f Cl g h).trans (by rw[Ar];rfl))
theorem e5:x5=Vc:=Eq.trans (b:=FY x6) (by kernel_rfl) (by simp only[e6]<;>rfl)
def F:=u3 Wf
theorem rn x:H.u P_ x=F x:=Eq.trans (b:=u3 (FM x5) x) (by kernel_rfl) (by simp only[e5]<;>rfl)
def c:Con:=⟨H.p,H.r,F⟩
theorem ok:ConOk P_ gl 298 c:=co H func298 .nil rn
end F298
namespace F222
abbrev R_:=(LB×Int)
def H:Hd:=⟨[.agg [Sb,Si],Si,Si],[.agg [Ob 5,Si]],(.seq .d (.seq .d (.cut [6,7] [] (.seq .d (.blk (.loop [2,3,6,7,8] [⟨7,[0],.own 5 (.int .u8)⟩] .d))) .d))),⟨[(224,F224.c),(298,F298.c)],gl,false⟩,[],f222⟩
def t4(f:Int)(g:LB)(h k a:Int)(b:LB):S:=⟨[(2,vi f),(3,.ptr 0 []),(6,.ptr 1 []),(7,.ptr 2 []),(8,vi k)],[.box 183 (.agg [vb g,vi h]),.box 183 (.agg [.nils,vi 0]),.box 183 (.agg [.own 3,vi a]),Ab 5 b],[]⟩
def z4:Nat->S->Option R_:=H.i P_ [r,r,l,r,d]
def x6(a:Int)(b:LB):Option R_:=H.e P_ [r,r,r] ⟨[(6,.ptr 0 []),(7,.ptr 1 [])],[.box 183 (.agg [.nils,vi 0]),.box 183 (.agg [.own 2,vi a]),Ab 5 b],[]⟩
def x4(f:Int)(g:LB)(h k a:Int)(b:LB):Option R_:=H.e P_ [r,r,l,r,d] (t4 f g h k a b)
theorem e6:x6=JE:=by kernel_rfl
theorem i4(f:Int)(g:LB)(h:Int):∀(q:Nat) (k a:Int) (b:LB),z4 q (t4 f g h k a b)=Gv f g h q k a b:=
 ind (λ_ _ _=>by kernel_rfl) λq ih k a b=>Eq.trans (b:=Og x6 (λk a b=>(z4 q) (t4 f g h k a b)) f g h k a b) (by kernel_rfl) (by simp only[e6,ih]<;>rfl)
theorem e4:x4=JD:=by funext f g h k a b;exact Eq.trans (by kernel_rfl) ((i4 f g h Cl k a b).trans (by rw[Ar];rfl))
def F:=u4 DD
theorem rn x:H.u P_ x=F x:=Eq.trans (b:=u4 (JH x4) x) (by kernel_rfl) (by simp only[e4]<;>rfl)
def c:Con:=⟨H.p,H.r,F⟩
theorem ok:ConOk P_ gl 222 c:=co H func222 (.cons F224.ok (.cons F298.ok .nil)) rn
end F222
namespace F299
abbrev R_:=UInt64
def H:Hd:=⟨[.agg [Sb,Si],Si,Si],[Sq],(.seq .d (.seq .d (.cut [7] [] (.seq .d (.blk (.loop [1,3,7,8] [] .d))) .d))),⟨[(224,F224.c)],gl,false⟩,[],f299⟩
def t4(b:Int)(f:LB)(g:Int)(a:UInt64)(h:Int):S:=⟨[(1,vi b),(3,.ptr 0 []),(7,vq a),(8,vi h)],[.box 183 (.agg [vb f,vi g])],[]⟩
def z4:Nat->S->Option R_:=H.i P_ [r,r,l,r,d]
def x6(a:UInt64):Option R_:=H.e P_ [r,r,r] ⟨[(7,vq a)],[],[]⟩
def x4(b:Int)(f:LB)(g:Int)(a:UInt64)(h:Int):Option R_:=H.e P_ [r,r,l,r,d] (t4 b f g a h)
theorem e6:x6=NM:=by kernel_rfl
theorem i4(b:Int)(f:LB)(g:Int):∀(q:Nat) (a:UInt64) (h:Int),z4 q (t4 b f g a h)=Ip b f g q a h:=
 ind (λ_ _=>by kernel_rfl) λq ih a h=>Eq.trans (b:=Rl x6 (λa h=>(z4 q) (t4 b f g a h)) b f g a h) (by kernel_rfl) (by simp only[e6,ih]<;>rfl)
theorem e4:x4=Zw:=by funext b f g a h;exact Eq.trans (by kernel_rfl) ((i4 b f g Cl a h).trans (by rw[Ar];rfl))
def F:=u4 Qv
theorem rn x:H.u P_ x=F x:=Eq.trans (b:=u4 (AD x4) x) (by kernel_rfl) (by simp only[e4]<;>rfl)
def c:Con:=⟨H.p,H.r,F⟩
theorem ok:ConOk P_ gl 299 c:=co H func299 (.cons F224.ok .nil) rn
end F299
namespace F352
abbrev R_:=(Int×Int)
def H:Hd:=⟨[.agg [Sb,Si],Si],[Si,Si],(.seq .d (.seq .d (.cut [1,2,6] [] (.blk (.loop [1,2,6] [] .d)) .d))),⟨[(224,F224.c)],gl,false⟩,[],f352⟩
def t4(b:Int)(g:LB)(f a:Int):S:=⟨[(1,vi b),(2,.ptr 0 []),(6,vi a)],[.box 183 (.agg [vb g,vi f])],[]⟩
def z4:Nat->S->Option R_:=H.i P_ [r,r,l,d]
def x6(b a:Int)(g:LB)(f:Int):Option R_:=H.e P_ [r,r,r] ⟨[(1,vi b),(2,.ptr 0 []),(6,vi a)],[.box 183 (.agg [vb g,vi f])],[]⟩
def x4(b:Int)(g:LB)(f a:Int):Option R_:=H.e P_ [r,r,l,d] (t4 b g f a)
theorem e6:x6=Vm:=by kernel_rfl
theorem i4(b:Int)(g:LB)(f:Int):∀(q:Nat) (a:Int),z4 q (t4 b g f a)=Ln b g f q a:=
 ind (λ_=>by kernel_rfl) λq ih a=>Eq.trans (b:=Vi x6 (λa=>(z4 q) (t4 b g f a)) b g f a) (by kernel_rfl) (by simp only[e6,ih]<;>rfl)
theorem e4:x4=TN:=by funext b g f a;exact Eq.trans (by kernel_rfl) ((i4 b g f Cl a).trans (by rw[Ar];rfl))
def F:=u3 OQ
theorem rn x:H.u P_ x=F x:=Eq.trans (b:=u3 (TZ x4) x) (by kernel_rfl) (by simp only[e4]<;>rfl)
def c:Con:=⟨H.p,H.r,F⟩
theorem ok:ConOk P_ gl 352 c:=co H func352 (.cons F224.ok .nil) rn
end F352
namespace F353
def H:Hd:=⟨[Su,Si],[Si],.d,⟨[(301,F301.c)],gl,false⟩,[],f353⟩
def F:=u2 AS
theorem rn x:H.u P_ x=F x:=by kernel_rfl
def c:Con:=⟨H.p,H.r,F⟩
theorem ok:ConOk P_ gl 353 c:=co H func353 (.cons F301.ok .nil) rn
end F353
namespace F300
abbrev R_:=(UInt32×Int×Int)
def H:Hd:=⟨[.agg [Sb,Si],Si,Si],[Su,Si,Si],(.seq .d (.seq .d (.seq .d (.seq .d (.cut [2,3,9,10,11] [] .d .d))))),⟨[(299,F299.c),(301,F301.c),(352,F352.c),(353,F353.c)],gl,false⟩,[],f300⟩
def x2(g a b:Int)(h:LB)(f k:Int):Option R_:=H.e P_ [r,r,r,r,r] ⟨[(2,vi g),(3,.ptr 0 []),(9,vi a),(10,vi b),(11,vi k)],[.box 183 (.agg [vb h,vi f])],[]⟩
theorem e2:x2=Vk:=by kernel_rfl
def F:=u4 EM
theorem rn x:H.u P_ x=F x:=Eq.trans (b:=u4 (FI x2) x) (by kernel_rfl) (by simp only[e2]<;>rfl)
def c:Con:=⟨H.p,H.r,F⟩
theorem ok:ConOk P_ gl 300 c:=co H func300 (.cons F299.ok (.cons F301.ok (.cons F352.ok (.cons F353.ok .nil)))) rn
end F300
namespace F223
def H:Hd:=⟨[.agg [Sb,Si],Si,.agg [Si,Si,Sq,Sq]],[Su,Si,Si],.d,⟨[(224,F224.c),(299,F299.c),(300,F300.c),(301,F301.c)],gl,false⟩,[],f223⟩
def F:=u7 EK
theorem rn x:H.u P_ x=F x:=by kernel_rfl
def c:Con:=⟨H.p,H.r,F⟩
theorem ok:ConOk P_ gl 223 c:=co H func223 (.cons F224.ok (.cons F299.ok (.cons F300.ok (.cons F301.ok .nil)))) rn
end F223
namespace F138
abbrev R_:=(LU×Int)
abbrev K_:=S->Option R_
def H:Hd:=⟨[Si,Si,Sb],[Ov 43,Si],(.seq .d (.seq .d (.seq .d (.seq .d (.cut [8,9,10] [] (.seq .d (.blk (.loop [0,1,8,9,10,11] [⟨9,[],.own 43 (.int .u32)⟩] (.seq .d (.seq (.blk (.seq .d (.cut [0,1,8,9,10,11,12] [] .d .d))) .d))))) (.seq .d (.cut [9] [] (.blk (.loop [8,9,10] [] .d)) .d))))))),⟨[(220,F220.c),(221,F221.c),(222,F222.c),(223,F223.c),(224,F224.c)],gl,false⟩,[],f138⟩
def t16(a:LB)(b:LU)(m:Int):S:=⟨[(8,.ptr 0 []),(9,.own 1),(10,vi m)],[.box 183 (.agg [vb a,vi (Bm (8:Int) (Ac a))]),Av 43 b],[]⟩
def z16:Nat->S->Option R_:=H.i P_ [r,r,r,r,r,r,l,d]
def t10(g h:Int)(a:LB)(f k:Int)(b:LU):S:=⟨[(0,vi g),(1,vi h),(8,.ptr 0 []),(9,.own 1),(10,vi f),(11,vi k)],[.box 183 (.agg [vb a,vi (Bm (8:Int) (Ac a))]),Av 43 b],[]⟩
def z10:Nat->S->Option R_:=H.i P_ [r,r,r,r,l,r,d]
def x18(b:LU):Option R_:=H.e P_ [r,r,r,r,r,r,r] ⟨[(9,.own 0)],[Av 43 b],[]⟩
def x16(a:LB)(b:LU)(m:Int):Option R_:=H.e P_ [r,r,r,r,r,r,l,d] (t16 a b m)
def x15(f:Int)(a:LB)(b:LU):Option R_:=H.e P_ [r,r,r,r,r] ⟨[(8,.ptr 0 []),(9,.own 1),(10,vi f)],[.box 183 (.agg [vb a,vi (Bm (8:Int) (Ac a))]),Av 43 b],[]⟩
def x13(Apq:K_)(g h:Int)(a:LB)(f k:Int)(b:LU)(o p:Int)(u v:UInt64):Option R_:=H.e P_ [r,r,r,r,l,r,d,(lp Apq),r,l,d,r,r] ⟨[(0,vi g),(1,vi h),(8,.ptr 0 []),(9,.own 1),(10,vi f),(11,vi k),(12,.ptr 2 [])],[.box 183 (.agg [vb a,vi (Bm (8:Int) (Ac a))]),Av 43 b,.box 254 (.agg [vi o,vi p,vq u,vq v])],[]⟩
def x10(g h:Int)(a:LB)(f k:Int)(b:LU):Option R_:=H.e P_ [r,r,r,r,l,r,d] (t10 g h a f k b)
theorem e18:x18=NN:=by kernel_rfl
theorem i16(a:LB)(b:LU):∀(q:Nat) (m:Int),z16 q (t16 a b m)=Is a b q m:=
 ind (λ_=>by kernel_rfl) λq ih m=>Eq.trans (b:=Rj x18 (λm=>(z16 q) (t16 a b m)) a b m) (by kernel_rfl) (by simp only[e18,ih]<;>rfl)
theorem e16:x16=Zx:=by funext a b m;exact Eq.trans (by kernel_rfl) ((i16 a b Cl m).trans (by rw[Ar];rfl))
theorem e15:x15=Rs:=Eq.trans (b:=Zm x16) (by kernel_rfl) (by simp only[e16]<;>rfl)
theorem e13(Apq:K_)(g h:Int)(a:LB):x13 Apq g h a=Ir (λf k b=>Apq (t10 g h a f k b)) g h a:=by kernel_rfl
theorem i10(g h:Int)(a:LB):∀(q:Nat) (f k:Int) (b:LU),z10 q (t10 g h a f k b)=Ew g h a q f k b:=
 ind (λ_ _ _=>by kernel_rfl) λq ih f k b=>Eq.trans (b:=AJ (x13 (z10 q) g h a) x15 g h a f k b) (by kernel_rfl) (by simp only[e13,e15,ih]<;>rfl)
theorem e10:x10=NL:=by funext g h a f k b;exact Eq.trans (by kernel_rfl) ((i10 g h a Cl f k b).trans (by rw[Ar];rfl))
def F:=u3 AT
theorem rn x:H.u P_ x=F x:=Eq.trans (b:=u3 (DJ x10) x) (by kernel_rfl) (by simp only[e10]<;>rfl)
def c:Con:=⟨H.p,H.r,F⟩
theorem ok:ConOk P_ gl 138 c:=co H func138 (.cons F220.ok (.cons F221.ok (.cons F222.ok (.cons F223.ok (.cons F224.ok .nil))))) rn
end F138
namespace F354
def H:Hd:=⟨[Si],[Si,Si],.d,⟨[],gl,false⟩,[],f354⟩
def F:=YE
theorem rn x:H.u P_ x=F x:=by kernel_rfl
def c:Con:=⟨H.p,H.r,F⟩
theorem ok:ConOk P_ gl 354 c:=co H func354 .nil rn
end F354
namespace F302
def H:Hd:=⟨[Si,.lf (.vec 16 (.int .i32)) none],[.agg [Si,.lf (.vec 16 (.int .i32)) none,.lf (.vec 16 (.int .i32)) none],Si],.d,⟨[(354,F354.c)],gl,false⟩,[],f302⟩
def F:=u2 bH
theorem rn x:H.u P_ x=F x:=by kernel_rfl
def c:Con:=⟨H.p,H.r,F⟩
theorem ok:ConOk P_ gl 302 c:=co H func302 (.cons F354.ok .nil) rn
end F302
namespace F225
def H:Hd:=⟨[Si,.lf (.vec 16 (.int .i32)) none],[.agg [Si,Sx,.agg [Si,.lf (.vec 16 (.int .i32)) none,.lf (.vec 16 (.int .i32)) none]],Si],.d,⟨[(302,F302.c)],gl,false⟩,[],f225⟩
def F:=u2 OD
theorem rn x:H.u P_ x=F x:=by kernel_rfl
def c:Con:=⟨H.p,H.r,F⟩
theorem ok:ConOk P_ gl 225 c:=co H func225 (.cons F302.ok .nil) rn
end F225
namespace F227
def H:Hd:=⟨[Su],[Sx],.d,⟨[],gl,false⟩,[],f227⟩
def F:=Oa
theorem rn x:H.u P_ x=F x:=by kernel_rfl
def c:Con:=⟨H.p,H.r,F⟩
theorem ok:ConOk P_ gl 227 c:=co H func227 .nil rn
end F227
namespace F304
def H:Hd:=⟨[Si],[Sx],.d,⟨[],gl,false⟩,[],f304⟩
def F:=Df
theorem rn x:H.u P_ x=F x:=by kernel_rfl
def c:Con:=⟨H.p,H.r,F⟩
theorem ok:ConOk P_ gl 304 c:=co H func304 .nil rn
end F304
namespace F371
abbrev R_:=Int32
def H:Hd:=⟨[.agg [Si,.lf (.vec 16 (.int .i32)) none,.lf (.vec 16 (.int .i32)) none]],[Sx],(.seq .d (.seq .d (.cut [3] [] (.seq .d (.blk (.loop [1,3,4] [] .d))) .d))),⟨[(304,F304.c)],gl,false⟩,[],f371⟩
def t4(h:Int)(f g:LX)(a b:Int):S:=⟨[(1,.ptr 0 []),(3,vi a),(4,vi b)],[.box 279 (.agg [vi h,.val (.vec 16 (.int .i32)) f,.val (.vec 16 (.int .i32)) g])],[]⟩
def z4:Nat->S->Option R_:=H.i P_ [r,r,l,r,d]
def x6(a:Int):Option R_:=H.e P_ [r,r,r] ⟨[(3,vi a)],[],[]⟩
def x4(h:Int)(f g:LX)(a b:Int):Option R_:=H.e P_ [r,r,l,r,d] (t4 h f g a b)
theorem e6:x6=FJ:=by kernel_rfl
theorem i4(h:Int)(f g:LX):∀(q:Nat) (a b:Int),z4 q (t4 h f g a b)=Lp h f g q a b:=
 ind (λ_ _=>by kernel_rfl) λq ih a b=>Eq.trans (b:=Uy x6 (λa b=>(z4 q) (t4 h f g a b)) h f g a b) (by kernel_rfl) (by simp only[e6,ih]<;>rfl)
theorem e4:x4=TK:=by funext h f g a b;exact Eq.trans (by kernel_rfl) ((i4 h f g Cl a b).trans (by rw[Ar];rfl))
def F:=u3 OH
theorem rn x:H.u P_ x=F x:=Eq.trans (b:=u3 (TY x4) x) (by kernel_rfl) (by simp only[e4]<;>rfl)
def c:Con:=⟨H.p,H.r,F⟩
theorem ok:ConOk P_ gl 371 c:=co H func371 (.cons F304.ok .nil) rn
end F371
namespace F355
abbrev R_:=Int32
def H:Hd:=⟨[.agg [Si,.lf (.vec 16 (.int .i32)) none,.lf (.vec 16 (.int .i32)) none]],[Sx],(.seq .d (.seq .d (.cut [1,3] [] .d .d))),⟨[(304,F304.c),(371,F371.c)],gl,false⟩,[],f355⟩
def x2(b:Int)(f g:LX)(a:Int):Option R_:=H.e P_ [r,r,r] ⟨[(1,.ptr 0 []),(3,vi a)],[.box 279 (.agg [vi b,.val (.vec 16 (.int .i32)) f,.val (.vec 16 (.int .i32)) g])],[]⟩
theorem e2:x2=Ty:=by kernel_rfl
def F:=u3 BC
theorem rn x:H.u P_ x=F x:=Eq.trans (b:=u3 (CI x2) x) (by kernel_rfl) (by simp only[e2]<;>rfl)
def c:Con:=⟨H.p,H.r,F⟩
theorem ok:ConOk P_ gl 355 c:=co H func355 (.cons F304.ok (.cons F371.ok .nil)) rn
end F355
namespace F372
def H:Hd:=⟨[Si],[Sx],.d,⟨[],gl,false⟩,[],f372⟩
def F:=BN
theorem rn x:H.u P_ x=F x:=by kernel_rfl
def c:Con:=⟨H.p,H.r,F⟩
theorem ok:ConOk P_ gl 372 c:=co H func372 .nil rn
end F372
namespace F373
def H:Hd:=⟨[Sx],[Sx],.d,⟨[],gl,false⟩,[],f373⟩
def F:=Sr
theorem rn x:H.u P_ x=F x:=by kernel_rfl
def c:Con:=⟨H.p,H.r,F⟩
theorem ok:ConOk P_ gl 373 c:=co H func373 .nil rn
end F373
namespace F357
abbrev R_:=(Int×LX×LX)
def H:Hd:=⟨[.agg [Si,.lf (.vec 16 (.int .i32)) none,.lf (.vec 16 (.int .i32)) none],Sx],[.agg [Si,.lf (.vec 16 (.int .i32)) none,.lf (.vec 16 (.int .i32)) none]],(.seq .d (.cut [2,4] [] (.seq .d (.blk (.loop [1,2,4,5] [] .d))) .d)),⟨[(372,F372.c),(373,F373.c)],gl,false⟩,[],f357⟩
def t4(h:Int32)(g:Int)(a:LX)(f:Int)(b:LX):S:=⟨[(1,vx h),(2,.ptr 0 []),(4,.ptr 1 []),(5,vi f)],[.box 279 (.agg [vi g,.val (.vec 16 (.int .i32)) b,.val (.vec 16 (.int .i32)) a]),.box 279 (.agg [vi 0,.val (.vec 16 (.int .i32)) (List.replicate 16 (0:Int32)),.val (.vec 16 (.int .i32)) (List.replicate 16 (0:Int32))])],[]⟩
def z4:Nat->S->Option R_:=H.i P_ [r,l,r,d]
def x6(g:Int)(b a:LX):Option R_:=H.e P_ [r,r] ⟨[(2,.ptr 0 []),(4,.ptr 1 [])],[.box 279 (.agg [vi g,.val (.vec 16 (.int .i32)) b,.val (.vec 16 (.int .i32)) a]),.box 279 (.agg [vi 0,.val (.vec 16 (.int .i32)) (List.replicate 16 (0:Int32)),.val (.vec 16 (.int .i32)) (List.replicate 16 (0:Int32))])],[]⟩
def x4(h:Int32)(g:Int)(a:LX)(f:Int)(b:LX):Option R_:=H.e P_ [r,l,r,d] (t4 h g a f b)
theorem e6:x6=JG:=by kernel_rfl
theorem i4(h:Int32)(g:Int)(a:LX):∀(q:Nat) (f:Int) (b:LX),z4 q (t4 h g a f b)=Gy h g a q f b:=
 ind (λ_ _=>by kernel_rfl) λq ih f b=>Eq.trans (b:=Nw x6 (λf b=>(z4 q) (t4 h g a f b)) h g a f b) (by kernel_rfl) (by simp only[e6,ih]<;>rfl)
theorem e4:x4=JB:=by funext h g a f b;exact Eq.trans (by kernel_rfl) ((i4 h g a Cl f b).trans (by rw[Ar];rfl))
def F:=u4 CB
theorem rn x:H.u P_ x=F x:=Eq.trans (b:=u4 (IX x4) x) (by kernel_rfl) (by simp only[e4]<;>rfl)
def c:Con:=⟨H.p,H.r,F⟩
theorem ok:ConOk P_ gl 357 c:=co H func357 (.cons F372.ok (.cons F373.ok .nil)) rn
end F357
namespace F356
abbrev R_:=(Int×LX×LX)
def H:Hd:=⟨[.agg [Si,.lf (.vec 16 (.int .i32)) none,.lf (.vec 16 (.int .i32)) none],Sx],[.agg [Si,.lf (.vec 16 (.int .i32)) none,.lf (.vec 16 (.int .i32)) none]],(.seq .d (.cut [1,2,4] [] (.seq .d (.blk (.loop [1,2,4,5] [] .d))) .d)),⟨[],gl,false⟩,[],f356⟩
def t4(b:Int32)(f:Int)(g:LX)(h:Int)(a:LX):S:=⟨[(1,vx b),(2,.ptr 0 []),(4,.ptr 1 []),(5,vi h)],[.box 279 (.agg [vi f,.val (.vec 16 (.int .i32)) g,.val (.vec 16 (.int .i32)) a]),.box 279 (.agg [vi 0,.val (.vec 16 (.int .i32)) (List.replicate 16 (0:Int32)),.val (.vec 16 (.int .i32)) (List.replicate 16 (0:Int32))])],[]⟩
def z4:Nat->S->Option R_:=H.i P_ [r,l,r,d]
def x6(b:Int32)(f:Int)(g a:LX):Option R_:=H.e P_ [r,r] ⟨[(1,vx b),(2,.ptr 0 []),(4,.ptr 1 [])],[.box 279 (.agg [vi f,.val (.vec 16 (.int .i32)) g,.val (.vec 16 (.int .i32)) a]),.box 279 (.agg [vi 0,.val (.vec 16 (.int .i32)) (List.replicate 16 (0:Int32)),.val (.vec 16 (.int .i32)) (List.replicate 16 (0:Int32))])],[]⟩
def x4(b:Int32)(f:Int)(g:LX)(h:Int)(a:LX):Option R_:=H.e P_ [r,l,r,d] (t4 b f g h a)
theorem e6:x6=Xh:=by kernel_rfl
theorem i4(b:Int32)(f:Int)(g:LX):∀(q:Nat) (h:Int) (a:LX),z4 q (t4 b f g h a)=Hw b f g q h a:=
 ind (λ_ _=>by kernel_rfl) λq ih h a=>Eq.trans (b:=Px x6 (λh a=>(z4 q) (t4 b f g h a)) b f g h a) (by kernel_rfl) (by simp only[e6,ih]<;>rfl)
theorem e4:x4=LR:=by funext b f g h a;exact Eq.trans (by kernel_rfl) ((i4 b f g Cl h a).trans (by rw[Ar];rfl))
def F:=u4 FG
theorem rn x:H.u P_ x=F x:=Eq.trans (b:=u4 (KI x4) x) (by kernel_rfl) (by simp only[e4]<;>rfl)
def c:Con:=⟨H.p,H.r,F⟩
theorem ok:ConOk P_ gl 356 c:=co H func356 .nil rn
end F356
namespace F303
def H:Hd:=⟨[.agg [Si,.lf (.vec 16 (.int .i32)) none,.lf (.vec 16 (.int .i32)) none],Sx],[Sx,.agg [Si,.lf (.vec 16 (.int .i32)) none,.lf (.vec 16 (.int .i32)) none]],.d,⟨[(304,F304.c),(355,F355.c),(356,F356.c),(357,F357.c)],gl,false⟩,[],f303⟩
def F:=u4 Td
theorem rn x:H.u P_ x=F x:=by kernel_rfl
def c:Con:=⟨H.p,H.r,F⟩
theorem ok:ConOk P_ gl 303 c:=co H func303 (.cons F304.ok (.cons F355.ok (.cons F356.ok (.cons F357.ok .nil)))) rn
end F303
namespace F358
abbrev R_:=Int32
def H:Hd:=⟨[Si,Sx],[Sx],(.seq .d (.seq .d (.cut [1,5] [] .d .d))),⟨[],gl,false⟩,[],f358⟩
def x2(b:Int32)(a:Int):Option R_:=H.e P_ [r,r,r] ⟨[(1,vx b),(5,vi a)],[],[]⟩
theorem e2:x2=Pv:=by kernel_rfl
def F:=u2 Pf
theorem rn x:H.u P_ x=F x:=Eq.trans (b:=u2 (Yf x2) x) (by kernel_rfl) (by simp only[e2]<;>rfl)
def c:Con:=⟨H.p,H.r,F⟩
theorem ok:ConOk P_ gl 358 c:=co H func358 .nil rn
end F358
namespace F305
def H:Hd:=⟨[.agg [Si,Sx,.agg [Si,.lf (.vec 16 (.int .i32)) none,.lf (.vec 16 (.int .i32)) none]]],[Si],.d,⟨[(358,F358.c)],gl,false⟩,[],f305⟩
def F:=u5 Vf
theorem rn x:H.u P_ x=F x:=by kernel_rfl
def c:Con:=⟨H.p,H.r,F⟩
theorem ok:ConOk P_ gl 305 c:=co H func305 (.cons F358.ok .nil) rn
end F305
namespace F226
def H:Hd:=⟨[.agg [Si,Sx,.agg [Si,.lf (.vec 16 (.int .i32)) none,.lf (.vec 16 (.int .i32)) none]],Sx],[Sx,.agg [Si,Sx,.agg [Si,.lf (.vec 16 (.int .i32)) none,.lf (.vec 16 (.int .i32)) none]]],.d,⟨[(303,F303.c),(304,F304.c),(305,F305.c)],gl,false⟩,[],f226⟩
def F:=u6 Jy
theorem rn x:H.u P_ x=F x:=by kernel_rfl
def c:Con:=⟨H.p,H.r,F⟩
theorem ok:ConOk P_ gl 226 c:=co H func226 (.cons F303.ok (.cons F304.ok (.cons F305.ok .nil))) rn
end F226
namespace F306
def H:Hd:=⟨[Si,Sw],[Si],.d,⟨[],gl,false⟩,[],f306⟩
def F:=u2 Qp
theorem rn x:H.u P_ x=F x:=by kernel_rfl
def c:Con:=⟨H.p,H.r,F⟩
theorem ok:ConOk P_ gl 306 c:=co H func306 .nil rn
end F306
namespace F307
abbrev R_:=LX
def H:Hd:=⟨[Sw],[Ow 21],(.seq .d (.seq .d (.seq .d (.seq .d (.cut [0,3,4] [] .d (.cut [4] [] (.seq .d (.blk (.loop [0,4,5] [] .d))) .d)))))),⟨[(304,F304.c)],gl,false⟩,[],f307⟩
def t6(a:LX)(f:Int)(b:LX):S:=⟨[(0,vw a),(4,.own 0),(5,vi f)],[Aw 21 b],[]⟩
def z6:Nat->S->Option R_:=H.i P_ [r,r,r,r,r,l,r,d]
def x8(b:LX):Option R_:=H.e P_ [r,r,r,r,r,r] ⟨[(4,.own 0)],[Aw 21 b],[]⟩
def x6(a:LX)(f:Int)(b:LX):Option R_:=H.e P_ [r,r,r,r,r,l,r,d] (t6 a f b)
def x5(a g:LX):Option R_:=H.e P_ [r,r,r,r,r] ⟨[(0,vw a),(3,vi (Ac a)),(4,.own 0)],[Aw 21 g],[]⟩
theorem e8:x8=JC:=by kernel_rfl
theorem i6(a:LX):∀(q:Nat) (f:Int) (b:LX),z6 q (t6 a f b)=Gu a q f b:=
 ind (λ_ _=>by kernel_rfl) λq ih f b=>Eq.trans (b:=Oe x8 (λf b=>(z6 q) (t6 a f b)) a f b) (by kernel_rfl) (by simp only[e8,ih]<;>rfl)
theorem e6:x6=ID:=by funext a f b;exact Eq.trans (by kernel_rfl) ((i6 a Cl f b).trans (by rw[Ar];rfl))
theorem e5:x5=Nz:=Eq.trans (b:=Wx x6) (by kernel_rfl) (by simp only[e6]<;>rfl)
def F:=Ts
theorem rn x:H.u P_ x=F x:=Eq.trans (b:=Vx x5 x) (by kernel_rfl) (by simp only[e5]<;>rfl)
def c:Con:=⟨H.p,H.r,F⟩
theorem ok:ConOk P_ gl 307 c:=co H func307 (.cons F304.ok .nil) rn
end F307
namespace F228
abbrev R_:=(LX×Int)
def H:Hd:=⟨[Si,Sw],[Ow 21,Si],(.seq .d (.seq .d (.seq .d (.cut [6] [] (.seq .d (.blk (.loop [0,1,6,7] [⟨6,[],.own 21 (.int .i32)⟩] .d))) .d)))),⟨[(306,F306.c),(307,F307.c)],gl,false⟩,[],f228⟩
def t4(a:Int)(b:LX)(g:Int)(f:LX):S:=⟨[(0,vi a),(1,vw b),(6,.own 0),(7,vi g)],[Aw 21 f],[]⟩
def z4:Nat->S->Option R_:=H.i P_ [r,r,r,l,r,d]
def x6(f:LX):Option R_:=H.e P_ [r,r,r,r] ⟨[(6,.own 0)],[Aw 21 f],[]⟩
def x4(a:Int)(b:LX)(g:Int)(f:LX):Option R_:=H.e P_ [r,r,r,l,r,d] (t4 a b g f)
theorem e6:x6=SA:=by kernel_rfl
theorem i4(a:Int)(b:LX):∀(q:Nat) (g:Int) (f:LX),z4 q (t4 a b g f)=Nj a b q g f:=
 ind (λ_ _=>by kernel_rfl) λq ih g f=>Eq.trans (b:=DS x6 (λg f=>(z4 q) (t4 a b g f)) a b g f) (by kernel_rfl) (by simp only[e6,ih]<;>rfl)
theorem e4:x4=RL:=by funext a b g f;exact Eq.trans (by kernel_rfl) ((i4 a b Cl g f).trans (by rw[Ar];rfl))
def F:=u2 BA
theorem rn x:H.u P_ x=F x:=Eq.trans (b:=u2 (CE x4) x) (by kernel_rfl) (by simp only[e4]<;>rfl)
def c:Con:=⟨H.p,H.r,F⟩
theorem ok:ConOk P_ gl 228 c:=co H func228 (.cons F306.ok (.cons F307.ok .nil)) rn
end F228
namespace F140
def Uk(j29:Int->Int32->LX->Int->Int32->Int->LX->LX->Int->Int32->Int->LX->LX->Option (LX))(j32:Int->LX->Option (LX))(b:LU)(a f:Int)(g:LX)(h k:Int)(m:LX)(n:Int)(o:Int32)(p:Int)(u v:LX):Option (LX):=
if(Dg k (Ac b))then
(Ao b k).bind λah=>
both (
(Oa ah).bind λag=>
(λap:Option (LX)=>
bo (
ap)) (
(Jy n o p u v ag).bind λ(ae,y,aa,ab,ac,ad)=>
j29 k ae m n o p u v y aa ab ac ad)) [
(Oa ah).bind λag=>
(Jy n o p u v ag).bind λ(ae,y,aa,ab,ac,ad)=>
j29 k ae m n o p u v y aa ab ac ad]
else
j32 h m
theorem UP: @Uk= @Oc:=by
  unfold Uk Oc
  try simp only[NZ,Zd,AH]
  all_goals
    repeat (refine funext λ_=>?_)
    repeat' first
      |with_reducible rfl
      |with_reducible refine Gn ?_ ?_
      |with_reducible refine Gi ?_ ?_ ?_
      |with_reducible refine Gp ?_ ?_ ?_ ?_
      |((with_reducible refine Km ?_ ?_);focus (intro h;first|(subst h;rfl)|(simp only[h];rfl)|(simp[Cz,Ac,h];done)))
      |with_reducible refine Kk λx=>?_
      |with_reducible refine Pr (λ_=>?_) (λ_=>?_)
      |(refine Du (λh=>by simp only[h,Kl,Cy,Cu,ite_self]) (λx h=>?_);(try simp only[h,Cy]))
      |(refine Et (λh=>?_) (λh=>?_)<;>simp only[h,if_true,if_false,Bool.false_eq_true])
abbrev R_:=LX
abbrev K_:=S->Option R_
def H:Hd:=⟨[.agg [Si,Si],.lf (.vec 16 (.int .i32)) none,Sv],[Ow 21],(.seq .d (.seq .d (.cut [3,7] [] (.seq .d (.blk (.loop [2,3,4,7,8] [] (.seq .d (.cut [2,3,4,7,8] [] (.blk (.seq .d (.seq .d (.blk (.loop [2,3,4,7,8,9,11] [] (.seq .d (.cut [2,3,4,7,8,9,11] [] (.blk (.cut [2,3,4,7,8,9,11,12,13] [] .d .d)) .d))))))) .d))))) .d))),⟨[(225,F225.c),(226,F226.c),(227,F227.c),(228,F228.c)],gl,false⟩,[],f140⟩
def t26(b:LU)(a f:Int)(g:LX)(h k:Int)(m:LX)(n:Int)(o:Int32)(p:Int)(u v:LX):S:=⟨[(2,vv b),(3,.ptr 0 []),(4,.ptr 1 []),(7,.own 2),(8,vi h),(9,.ptr 3 []),(11,vi k)],[.box 104 (.agg [vi a,vi f]),.box 105 (.val (.vec 16 (.int .i32)) g),Aw 21 m,.box 281 (.agg [vi n,vx o,.agg [vi p,.val (.vec 16 (.int .i32)) u,.val (.vec 16 (.int .i32)) v]])],[]⟩
def z26(PZ:K_):Nat->S->Option R_:=H.i P_ [r,r,l,r,d,(lp PZ),r,l,d,r,r,d]
def t18(b:LU)(a f:Int)(g:LX)(h:Int)(w:LX):S:=⟨[(2,vv b),(3,.ptr 0 []),(4,.ptr 1 []),(7,.own 2),(8,vi h)],[.box 104 (.agg [vi a,vi f]),.box 105 (.val (.vec 16 (.int .i32)) g),Aw 21 w],[]⟩
def z18:Nat->S->Option R_:=H.i P_ [r,r,l,r,d]
def x34(a f:Int)(w:LX):Option R_:=H.e P_ [r,r,r] ⟨[(3,.ptr 0 []),(7,.own 1)],[.box 104 (.agg [vi a,vi f]),Aw 21 w],[]⟩
def x32(PZ:K_)(b:LU)(a f:Int)(g:LX)(h:Int)(m:LX):Option R_:=H.e P_ [r,r,l,r,d,(lp PZ),r,r] ⟨[(2,vv b),(3,.ptr 0 []),(4,.ptr 1 []),(7,.own 2),(8,vi h)],[.box 104 (.agg [vi a,vi f]),.box 105 (.val (.vec 16 (.int .i32)) g),Aw 21 m],[]⟩
def x30(PZ I4:K_)(b:LU)(h a f:Int)(g:LX)(k:Int)(af:LX)(y:Int)(aa:Int32)(ab:Int)(ac ad:LX):Option R_:=H.e P_ [r,r,l,r,d,(lp PZ),r,l,d,r,r,d,(lp I4),r,r] ⟨[(2,vv b),(3,.ptr 0 []),(4,.ptr 1 []),(7,.own 2),(8,vi h),(9,.ptr 3 []),(11,vi k)],[.box 104 (.agg [vi a,vi f]),.box 105 (.val (.vec 16 (.int .i32)) g),Aw 21 af,.box 281 (.agg [vi y,vx aa,.agg [vi ab,.val (.vec 16 (.int .i32)) ac,.val (.vec 16 (.int .i32)) ad]])],[]⟩
def x29(PZ I4:K_)(b:LU)(h a f:Int)(g:LX)(k:Int)(ae:Int32)(m:LX)(n:Int)(o:Int32)(p:Int)(u v:LX)(y:Int)(aa:Int32)(ab:Int)(ac ad:LX):Option R_:=H.e P_ [r,r,l,r,d,(lp PZ),r,l,d,r,r,d,(lp I4),r,l,d,r] ⟨[(2,vv b),(3,.ptr 0 []),(4,.ptr 1 []),(7,.own 2),(8,vi h),(9,.ptr 3 []),(11,vi k),(12,vx ae),(13,.ptr 4 [])],[.box 104 (.agg [vi a,vi f]),.box 105 (.val (.vec 16 (.int .i32)) g),Aw 21 m,.box 281 (.agg [vi n,vx o,.agg [vi p,.val (.vec 16 (.int .i32)) u,.val (.vec 16 (.int .i32)) v]]),.box 281 (.agg [vi y,vx aa,.agg [vi ab,.val (.vec 16 (.int .i32)) ac,.val (.vec 16 (.int .i32)) ad]])],[]⟩
def x26(PZ:K_)(b:LU)(a f:Int)(g:LX)(h k:Int)(m:LX)(n:Int)(o:Int32)(p:Int)(u v:LX):Option R_:=H.e P_ [r,r,l,r,d,(lp PZ),r,l,d,r,r,d] (t26 b a f g h k m n o p u v)
def x18(b:LU)(a f:Int)(g:LX)(h:Int)(w:LX):Option R_:=H.e P_ [r,r,l,r,d] (t18 b a f g h w)
theorem e34:x34=Nx:=by kernel_rfl
theorem e32(PZ:K_)(b:LU)(a f:Int)(g:LX):x32 PZ b a f g=Vz (λh w=>PZ (t18 b a f g h w)) b a f g:=by kernel_rfl
theorem e30(PZ I4:K_)(b:LU)(a f:Int)(g:LX)(h:Int):x30 PZ I4 b h a f g=Vq (λk m n o p u v=>I4 (t26 b a f g h k m n o p u v)) b h a f g:=by kernel_rfl
theorem e29(PZ I4:K_)(b:LU)(a f:Int)(g:LX)(h:Int):x29 PZ I4 b h a f g=Wv (λk m n o p u v=>I4 (t26 b a f g h k m n o p u v)) b h a f g:=Eq.trans (b:=Wp (x30 PZ I4 b h a f g) b h a f g) (by kernel_rfl) (by simp only[e30]<;>rfl)
theorem i26(PZ:K_)(b:LU)(a f:Int)(g:LX)(h:Int):∀(q:Nat) (k:Int) (m:LX) (n:Int) (o:Int32) (p:Int) (u v:LX),z26 PZ q (t26 b a f g h k m n o p u v)=Kj (λh w=>PZ (t18 b a f g h w)) b a f g h q k m n o p u v:=
 ind (λ_ _ _ _ _ _ _=>by kernel_rfl) λq ih k m n o p u v=>Eq.trans (b:=Uk (x29 PZ (z26 PZ q) b h a f g) (x32 PZ b a f g) b a f g h k m n o p u v) (by kernel_rfl) (by rw[UP];simp only[e29,e32,ih]<;>rfl)
theorem e26(PZ:K_)(b:LU)(a f:Int)(g:LX):x26 PZ b a f g=Wq (λh w=>PZ (t18 b a f g h w)) b a f g:=by funext h k m n o p u v;exact Eq.trans (by kernel_rfl) ((i26 PZ b a f g h Cl k m n o p u v).trans (by rw[Ar];rfl))
theorem i18(b:LU)(a f:Int)(g:LX):∀(q:Nat) (h:Int) (w:LX),z18 q (t18 b a f g h w)=Ff b a f g q h w:=
 ind (λ_ _=>by kernel_rfl) λq ih h w=>Eq.trans (b:=Ny (x26 (z18 q) b a f g) x34 b a f g h w) (by kernel_rfl) (by simp only[e26,e34,ih]<;>rfl)
theorem e18:x18=Wy:=by funext b a f g h w;exact Eq.trans (by kernel_rfl) ((i18 b a f g Cl h w).trans (by rw[Ar];rfl))
def F:=u4 Lr
theorem rn x:H.u P_ x=F x:=Eq.trans (b:=u4 (Xk x18) x) (by kernel_rfl) (by simp only[e18]<;>rfl)
def c:Con:=⟨H.p,H.r,F⟩
theorem ok:ConOk P_ gl 140 c:=co H func140 (.cons F225.ok (.cons F226.ok (.cons F227.ok (.cons F228.ok .nil)))) rn
end F140
namespace F166
abbrev R_:=Int
def H:Hd:=⟨[Si,Sw],[Si],(.seq .d (.seq .d (.seq .d (.seq .d (.cut [] [] (.seq .d (.blk (.loop [1,5,6] [] .d))) .d))))),⟨[(159,F159.c)],gl,false⟩,[],f166⟩
def t4(a:LX)(b f:Int):S:=⟨[(1,vw a),(5,vi b),(6,vi f)],[],[]⟩
def z4:Nat->S->Option R_:=H.i P_ [r,r,r,r,l,r,d]
def x6:Option R_:=H.e P_ [r,r,r,r,r] ⟨[],[],[]⟩
def x4(a:LX)(b f:Int):Option R_:=H.e P_ [r,r,r,r,l,r,d] (t4 a b f)
theorem e6:x6=NF:=by kernel_rfl
theorem i4(a:LX)(b:Int):∀(q:Nat) (f:Int),z4 q (t4 a b f)=Bb a b q f:=
 ind (λ_=>by kernel_rfl) λq ih f=>Eq.trans (b:=Cx x6 (λf=>(z4 q) (t4 a b f)) a b f) (by kernel_rfl) (by simp only[e6,ih]<;>rfl)
theorem e4:x4=NX:=by funext a b f;exact Eq.trans (by kernel_rfl) ((i4 a b Cl f).trans (by rw[Ar];rfl))
def F:=u2 Ay
theorem rn x:H.u P_ x=F x:=Eq.trans (b:=u2 (Dn x4) x) (by kernel_rfl) (by simp only[e4]<;>rfl)
def c:Con:=⟨H.p,H.r,F⟩
theorem ok:ConOk P_ gl 166 c:=co H func166 (.cons F159.ok .nil) rn
end F166
namespace F139
def H:Hd:=⟨[.agg [Si,Si],Sw],[Sw,Si],.d,⟨[(166,F166.c)],gl,false⟩,[],f139⟩
def F:=u3 Ph
theorem rn x:H.u P_ x=F x:=by kernel_rfl
def c:Con:=⟨H.p,H.r,F⟩
theorem ok:ConOk P_ gl 139 c:=co H func139 (.cons F166.ok .nil) rn
end F139
namespace F74
def Wu(f a b:Int)(g:LX)(h:LU):Option (LX×Int):=
if(Bq f 0)then
some (([]:LX),f)
else
(λu:Option (LX×Int)=>
(λv:Option (LX×Int)=>
(λw:Option (LX×Int)=>
both (
v) [
w,
w]) (
both (
u) [
v])) (
bo (
u))) (
(Lr a b g h).bind λm=>
(Ph a b m).bind λ(n,o)=>
some (n,o))
theorem YK: @Wu= @Fv:=by
  unfold Wu Fv
  try simp only[NZ,Zd,AH]
  all_goals
    repeat (refine funext λ_=>?_)
    repeat' first
      |with_reducible rfl
      |with_reducible refine Gn ?_ ?_
      |with_reducible refine Gi ?_ ?_ ?_
      |with_reducible refine Gp ?_ ?_ ?_ ?_
      |((with_reducible refine Km ?_ ?_);focus (intro h;first|(subst h;rfl)|(simp only[h];rfl)|(simp[Cz,Ac,h];done)))
      |with_reducible refine Kk λx=>?_
      |with_reducible refine Pr (λ_=>?_) (λ_=>?_)
      |(refine Du (λh=>by simp only[h,Kl,Cy,Cu,ite_self]) (λx h=>?_);(try simp only[h,Cy]))
      |(refine Et (λh=>?_) (λh=>?_)<;>simp only[h,if_true,if_false,Bool.false_eq_true])
abbrev R_:=(LX×Int)
def H:Hd:=⟨[.agg [Si,Si],.lf (.vec 16 (.int .i32)) none,Si,Sb],[Sw,Si],(.seq .d (.seq .d (.seq .d (.cut [4,5,10,11] [] .d (.seq .d (.seq (.mode false) .d)))))),⟨[(136,F136.c),(137,F137.c),(138,F138.c),(139,F139.c),(140,F140.c)],gl,false⟩,[],f74⟩
def x2(f a b:Int)(g:LX)(h:LU):Option R_:=H.e P_ [r,r,r,r] ⟨[(4,.ptr 0 []),(5,.ptr 1 []),(10,.own 2),(11,vi f)],[.box 104 (.agg [vi a,vi b]),.box 105 (.val (.vec 16 (.int .i32)) g),Av 43 h],[]⟩
theorem e2:x2=Hs:=Eq.trans (b:=Wu) (by kernel_rfl) (by rw[YK];rfl)
def F:=u5 Ef
theorem rn x:H.u P_ x=F x:=Eq.trans (b:=u5 (Pz x2) x) (by kernel_rfl) (by simp only[e2]<;>rfl)
def c:Con:=⟨H.p,H.r,F⟩
theorem ok:ConOk P_ gl 74 c:=co H func74 (.cons F136.ok (.cons F137.ok (.cons F138.ok (.cons F139.ok (.cons F140.ok .nil))))) rn
end F74
namespace F236
abbrev R_:=LB
def H:Hd:=⟨[Si,Sx],[Ob 5],(.seq .d (.seq .d (.seq .d (.cut [0,5] [] .d .d)))),⟨[(159,F159.c)],gl,false⟩,[],f236⟩
def x2(a b:Int):Option R_:=H.e P_ [r,r,r,r] ⟨[(0,vi a),(5,vi b)],[],[]⟩
theorem e2:x2=Lq:=by kernel_rfl
def F:=u2 Vv
theorem rn x:H.u P_ x=F x:=Eq.trans (b:=u2 (FX x2) x) (by kernel_rfl) (by simp only[e2]<;>rfl)
def c:Con:=⟨H.p,H.r,F⟩
theorem ok:ConOk P_ gl 236 c:=co H func236 (.cons F159.ok .nil) rn
end F236
namespace F320
abbrev R_:=(LB×Int)
def H:Hd:=⟨[Si,Sw],[Ob 5,Si],(.seq .d (.seq .d (.seq .d (.cut [6] [] (.seq .d (.blk (.loop [0,1,6,7] [⟨6,[],.own 5 (.int .u8)⟩] .d))) .d)))),⟨[(166,F166.c),(236,F236.c)],gl,false⟩,[],f320⟩
def t4(f:Int)(a:LX)(g:Int)(b:LB):S:=⟨[(0,vi f),(1,vw a),(6,.own 0),(7,vi g)],[Ab 5 b],[]⟩
def z4:Nat->S->Option R_:=H.i P_ [r,r,r,l,r,d]
def x6(b:LB):Option R_:=H.e P_ [r,r,r,r] ⟨[(6,.own 0)],[Ab 5 b],[]⟩
def x4(f:Int)(a:LX)(g:Int)(b:LB):Option R_:=H.e P_ [r,r,r,l,r,d] (t4 f a g b)
theorem e6:x6=NO:=by kernel_rfl
theorem i4(f:Int)(a:LX):∀(q:Nat) (g:Int) (b:LB),z4 q (t4 f a g b)=It f a q g b:=
 ind (λ_ _=>by kernel_rfl) λq ih g b=>Eq.trans (b:=Rk x6 (λg b=>(z4 q) (t4 f a g b)) f a g b) (by kernel_rfl) (by simp only[e6,ih]<;>rfl)
theorem e4:x4=NS:=by funext f a g b;exact Eq.trans (by kernel_rfl) ((i4 f a Cl g b).trans (by rw[Ar];rfl))
def F:=u2 Qn
theorem rn x:H.u P_ x=F x:=Eq.trans (b:=u2 (AE x4) x) (by kernel_rfl) (by simp only[e4]<;>rfl)
def c:Con:=⟨H.p,H.r,F⟩
theorem ok:ConOk P_ gl 320 c:=co H func320 (.cons F166.ok (.cons F236.ok .nil)) rn
end F320
namespace F248
abbrev R_:=(LB×Int)
def H:Hd:=⟨[.agg [Ss,Sb,.agg [Si,Si,Si,Si,Si],Sl,Si,Sb,Sz,Si]],[Ob 5,Si],(.seq .d (.seq .d (.seq .d (.seq .d (.cut [1,7,8] [] .d .d))))),⟨[(73,F73.c),(74,F74.c),(316,F316.c),(319,F319.c),(320,F320.c)],gl,false⟩,[],f248⟩
def x2(o:LX)(f:Int)(p g:LB)(h k a m n:Int)(u:LI)(b:Int)(v:LB)(w:Bool)(y:Int):Option R_:=H.e P_ [r,r,r,r,r] ⟨[(1,.ptr 0 []),(7,vw o),(8,vi f)],[.box 124 (.agg [vs p,vb g,.agg [vi h,vi k,vi a,vi m,vi n],vl u,vi b,vb v,vt w,vi y])],[]⟩
theorem e2:x2=Dw:=by kernel_rfl
def F:=vQ Cp
theorem rn x:H.u P_ x=F x:=Eq.trans (b:=vQ (Dv x2) x) (by kernel_rfl) (by simp only[e2]<;>rfl)
def c:Con:=⟨H.p,H.r,F⟩
theorem ok:ConOk P_ gl 248 c:=co H func248 (.cons F73.ok (.cons F74.ok (.cons F316.ok (.cons F319.ok (.cons F320.ok .nil))))) rn
end F248
namespace F155
def AL(g a:LB)(m o p u v:Int)(b:LI)(f:Int)(n:LB)(h:Bool)(k:Int):Option (LB×LB×Int×Int×Int×Int×Int×LI×Int×LB×Bool×Int×Int):=
if(geq (Ac b) 0)then
(Dt a m o p u v g).bind λ(ag,ak,w)=>
if(Bq w 0)then
some (g,a,m,o,p,u,v,b,f,n,h,k,w)
else
(Bp a ag (Ac a)).bind λal=>
some (g,al,m,o,p,u,v,ak,f,n,h,k,0)
else
if(geq f (Ac b))then
if(Fb (Ac a) 4000)then
some (g,a,m,o,p,u,v,b,f,n,h,k,38)
else
some (g,a,m,o,p,u,v,b,f,n,h,k,(-1:Int))
else
(Cp g a m o p u v b f n h k).bind λ(am,y)=>
if(Bq y 0)then
some (g,a,m,o,p,u,v,b,f,n,h,k,y)
else
(Cz ([]:LB) n).bind λan=>
(Cz an am).bind λah=>
(λaj:Option (LB×LB×Int×Int×Int×Int×Int×LI×Int×LB×Bool×Int×Int)=>
(λap:Option (LB×LB×Int×Int×Int×Int×Int×LI×Int×LB×Bool×Int×Int)=>
(λao:Option (LB×LB×Int×Int×Int×Int×Int×LI×Int×LB×Bool×Int×Int)=>
(λaq:Option (LB×LB×Int×Int×Int×Int×Int×LI×Int×LB×Bool×Int×Int)=>
(λar:Option (LB×LB×Int×Int×Int×Int×Int×LI×Int×LB×Bool×Int×Int)=>
(λau:Option (LB×LB×Int×Int×Int×Int×Int×LI×Int×LB×Bool×Int×Int)=>
both (
both (
aq) [
aq,
au]) [
ap,
ap,
both (
au) [
ar,
ar]]) (
bo (
ao))) (
both (
ao) [
aj])) (
both (
aj) [
ao])) (
(Ao b f).bind λad=>
(Bp a ad (Ac a)).bind λae=>
some (g,ae,m,o,p,u,v,b,(Af f 1),ah,h,k,0))) (
(λav:Option (LB×LB×Int×Int×Int×Int×Int×LI×Int×LB×Bool×Int×Int)=>
both (
both (
aj) [
av]) [
(Ao b f).bind λad=>
(λax:Option (LB×LB×Int×Int×Int×Int×Int×LI×Int×LB×Bool×Int×Int)=>
(λay:Option (LB×LB×Int×Int×Int×Int×Int×LI×Int×LB×Bool×Int×Int)=>
bo2 (
ay)) (
bo (
ax))) (
(Bp a ad (Ac a)).bind λae=>
some (g,ae,m,o,p,u,v,b,(Af f 1),ah,h,k,0)),
both (
av) [
aj]]) (
(Ao b f).bind λad=>
(Bp a ad (Ac a)).bind λae=>
some (g,ae,m,o,p,u,v,b,(Af f 1),ah,h,k,0)))) (
(Ao b f).bind λad=>
(λaz:Option (LB×LB×Int×Int×Int×Int×Int×LI×Int×LB×Bool×Int×Int)=>
bo (
az)) (
(Bp a ad (Ac a)).bind λae=>
some (g,ae,m,o,p,u,v,b,(Af f 1),ah,h,k,0)))
theorem aI: @AL= @Bo:=by
  unfold AL Bo
  try simp only[NZ,Zd,AH]
  all_goals
    repeat (refine funext λ_=>?_)
    repeat' first
      |with_reducible rfl
      |with_reducible refine Gn ?_ ?_
      |with_reducible refine Gi ?_ ?_ ?_
      |with_reducible refine Gp ?_ ?_ ?_ ?_
      |((with_reducible refine Km ?_ ?_);focus (intro h;first|(subst h;rfl)|(simp only[h];rfl)|(simp[Cz,Ac,h];done)))
      |with_reducible refine Kk λx=>?_
      |with_reducible refine Pr (λ_=>?_) (λ_=>?_)
      |(refine Du (λh=>by simp only[h,Kl,Cy,Cu,ite_self]) (λx h=>?_);(try simp only[h,Cy]))
      |(refine Et (λh=>?_) (λh=>?_)<;>simp only[h,if_true,if_false,Bool.false_eq_true])
def Zc(j3:LB->LB->Int->Int->Int->Int->Int->LI->Int->LB->Bool->Int->Option (LB×LB×Int×Int×Int×Int×Int×LI×Int×LB×Bool×Int×Int))(j4:LB->LB->Int->Int->Int->Int->Int->LI->Int->LB->Bool->Int->Option (LB×LB×Int×Int×Int×Int×Int×LI×Int×LB×Bool×Int×Int))(g a:LB)(m o p u v:Int)(b:LI)(f:Int)(n:LB)(h:Bool)(k:Int):Option (LB×LB×Int×Int×Int×Int×Int×LI×Int×LB×Bool×Int×Int):=
if(geq m 0)then
(Nk a).bind λ(ag,aa,w,ab,ac,y,ai)=>
if(Bq ai 0)then
some (g,a,m,o,p,u,v,b,f,n,h,k,ai)
else
both (
(Bp a ag (Ac a)).bind λaf=>
bo (
j3 g af aa w ab ac y b f n h k)) [
(Bp a ag (Ac a)).bind λaf=>
j3 g af aa w ab ac y b f n h k]
else
j4 g a m o p u v b f n h k
theorem bD: @Zc= @Bk:=by
  unfold Zc Bk
  repeat (refine funext λ_=>?_)
  repeat' first
    |with_reducible rfl
    |with_reducible refine Gn ?_ ?_
    |with_reducible refine Gi ?_ ?_ ?_
    |with_reducible refine Gp ?_ ?_ ?_ ?_
    |((with_reducible refine Km ?_ ?_);focus (intro h;first|(subst h;rfl)|(simp only[h];rfl)|(simp[Cz,Ac,h];done)))
    |with_reducible refine Kk λx=>?_
    |with_reducible refine Pr (λ_=>?_) (λ_=>?_)
    |(refine Du (λh=>by simp only[h,Kl,Cy,Cu,ite_self]) (λx h=>?_);(try simp only[h,Cy]))
    |(refine Et (λh=>?_) (λh=>?_)<;>simp only[h,if_true,if_false,Bool.false_eq_true])
abbrev R_:=(LB×LB×Int×Int×Int×Int×Int×LI×Int×LB×Bool×Int×Int)
def H:Hd:=⟨[.agg [Ss,Sb,.agg [Si,Si,Si,Si,Si],Sl,Si,Sb,Sz,Si]],[.agg [Ss,Sb,.agg [Si,Si,Si,Si,Si],Sl,Si,Sb,Sz,Si],Si],(.seq .d (.cut [1,2] [] (.seq .d (.cond (.seq .d (.seq .d (.cut [1,2,5] [] (.mode false) .d))) .d)) (.seq .d (.seq .d (.seq .d (.seq .d (.seq .d (.seq (.mode false) .d)))))))),⟨[(245,F245.c),(246,F246.c),(247,F247.c),(248,F248.c)],gl,false⟩,[],f155⟩
def x4(g a:LB)(m o p u v:Int)(b:LI)(f:Int)(n:LB)(h:Bool)(k:Int):Option R_:=H.e P_ [r,r] ⟨[(1,.ptr 0 []),(2,.ptr 1 [])],[.box 124 (.agg [vs g,vb a,.agg [vi m,vi o,vi p,vi u,vi v],vl b,vi f,vb n,vt h,vi k]),.box 124 (.agg [vs ([]:LB),.nils,.agg [vi 0,vi 0,vi 0,vi 0,vi 0],.nils,vi 0,.nils,vt false,vi 0])],[]⟩
def x3(g af:LB)(aa w ab ac y:Int)(b:LI)(f:Int)(n:LB)(h:Bool)(k:Int):Option R_:=H.e P_ [r,l,r,l,r,r,r] ⟨[(1,.ptr 0 []),(2,.ptr 1 []),(5,.ptr 2 [])],[.box 124 (.agg [vs g,vb af,.agg [vi aa,vi w,vi ab,vi ac,vi y],vl b,vi f,vb n,vt h,vi k]),.box 124 (.agg [vs ([]:LB),.nils,.agg [vi 0,vi 0,vi 0,vi 0,vi 0],.nils,vi 0,.nils,vt false,vi 0]),.box 33 (.agg [vi aa,vi w,vi ab,vi ac,vi y])],[]⟩
theorem e4:x4=Br:=Eq.trans (b:=AL) (by kernel_rfl) (by rw[aI];rfl)
theorem e3:x3=Fm:=by kernel_rfl
def F:=vQ Ag
theorem rn x:H.u P_ x=F x:=Eq.trans (b:=vQ (Zc x3 x4) x) (by kernel_rfl) (by unfold F;rw[bD];simp only[e3,e4]<;>rfl)
def c:Con:=⟨H.p,H.r,F⟩
theorem ok:ConOk P_ gl 155 c:=co H func155 (.cons F245.ok (.cons F246.ok (.cons F247.ok (.cons F248.ok .nil)))) rn
end F155
namespace F243
abbrev R_:=Bool
def H:Hd:=⟨[.agg [Ss,Sb,.agg [Si,Si,Si,Si,Si],Sl,Si,Sb,Sz,Si]],[Sz],(.seq .d (.cut [1] [] (.seq .d (.cond .d (.cut [1] [] .d .d))) .d)),⟨[(155,F155.c),(217,F217.c),(246,F246.c),(315,F315.c),(316,F316.c),(317,F317.c)],gl,false⟩,[],f243⟩
def x4(o p:LB)(b f g h k:Int)(m:LI)(a:Int)(n:LB)(u:Bool)(v:Int):Option R_:=H.e P_ [r,r] ⟨[(1,.ptr 0 [])],[.box 124 (.agg [vs o,vb p,.agg [vi b,vi f,vi g,vi h,vi k],vl m,vi a,vb n,vt u,vi v])],[]⟩
def x3(o p:LB)(b f g h k:Int)(m:LI)(a:Int)(n:LB)(u:Bool)(v:Int):Option R_:=H.e P_ [r,l,r,r,r] ⟨[(1,.ptr 0 [])],[.box 124 (.agg [vs o,vb p,.agg [vi b,vi f,vi g,vi h,vi k],vl m,vi a,vb n,vt u,vi v])],[]⟩
theorem e4:x4=Cf:=by kernel_rfl
theorem e3:x3=Mm:=Eq.trans (b:=Ml x4) (by kernel_rfl) (by simp only[e4]<;>rfl)
def F:=vQ Js
theorem rn x:H.u P_ x=F x:=Eq.trans (b:=vQ (Rp x4 x3) x) (by kernel_rfl) (by simp only[e4,e3]<;>rfl)
def c:Con:=⟨H.p,H.r,F⟩
theorem ok:ConOk P_ gl 243 c:=co H func243 (.cons F155.ok (.cons F217.ok (.cons F246.ok (.cons F315.ok (.cons F316.ok (.cons F317.ok .nil)))))) rn
end F243
namespace F244
def H:Hd:=⟨[Si],[Sz],.d,⟨[],gl,false⟩,[],f244⟩
def F:=Tl
theorem rn x:H.u P_ x=F x:=by kernel_rfl
def c:Con:=⟨H.p,H.r,F⟩
theorem ok:ConOk P_ gl 244 c:=co H func244 .nil rn
end F244
namespace F152
def H:Hd:=⟨[.agg [Ss,Sb,.agg [Si,Si,Si,Si,Si],Sl,Si,Sb,Sz,Si]],[Si],.d,⟨[(243,F243.c),(244,F244.c)],gl,false⟩,[],f152⟩
def F:=vQ Dh
theorem rn x:H.u P_ x=F x:=by kernel_rfl
def c:Con:=⟨H.p,H.r,F⟩
theorem ok:ConOk P_ gl 152 c:=co H func152 (.cons F243.ok (.cons F244.ok .nil)) rn
end F152
namespace F153
def Zt(j2:LB->Int->Int->Int->Int->Int->LI->Int->Bool->Int->LB->LB->Option (LB×LB×Int×Int×Int×Int×Int×LI×Int×LB×Bool×Int))(f w:LB)(g h k m n:Int)(o:LI)(p:Int)(y:LB)(u:Bool)(v:Int):Option (LB×LB×Int×Int×Int×Int×Int×LI×Int×LB×Bool×Int):=
(λac:Option (LB×LB×Int×Int×Int×Int×Int×LI×Int×LB×Bool×Int)=>
(λaa:Option (LB×LB×Int×Int×Int×Int×Int×LI×Int×LB×Bool×Int)=>
(λab:Option (LB×LB×Int×Int×Int×Int×Int×LI×Int×LB×Bool×Int)=>
(λad:Option (LB×LB×Int×Int×Int×Int×Int×LI×Int×LB×Bool×Int)=>
(λae:Option (LB×LB×Int×Int×Int×Int×Int×LI×Int×LB×Bool×Int)=>
both (
ad) [
ad,
ae,
ae]) (
both (
ab) [
ab,
aa])) (
both (
both (
(Cz ([]:LB) w).bind λa=>
(λag:Option (LB×LB×Int×Int×Int×Int×Int×LI×Int×LB×Bool×Int)=>
bo (
ag)) (
(Cz ([]:LB) y).bind λb=>
j2 f g h k m n o p u v a b)) [
aa,
aa]) [
ab,
ab])) (
both (
aa) [
ac])) (
bo (
ac))) (
(Cz ([]:LB) w).bind λa=>
(Cz ([]:LB) y).bind λb=>
j2 f g h k m n o p u v a b)
theorem aX: @Zt= @Sm:=by
  unfold Zt Sm
  try simp only[NZ,Zd,AH]
  all_goals
    repeat (refine funext λ_=>?_)
    repeat' first
      |with_reducible rfl
      |with_reducible refine Gn ?_ ?_
      |with_reducible refine Gi ?_ ?_ ?_
      |with_reducible refine Gp ?_ ?_ ?_ ?_
      |((with_reducible refine Km ?_ ?_);focus (intro h;first|(subst h;rfl)|(simp only[h];rfl)|(simp[Cz,Ac,h];done)))
      |with_reducible refine Kk λx=>?_
      |with_reducible refine Pr (λ_=>?_) (λ_=>?_)
      |(refine Du (λh=>by simp only[h,Kl,Cy,Cu,ite_self]) (λx h=>?_);(try simp only[h,Cy]))
      |(refine Et (λh=>?_) (λh=>?_)<;>simp only[h,if_true,if_false,Bool.false_eq_true])
abbrev R_:=(LB×LB×Int×Int×Int×Int×Int×LI×Int×LB×Bool×Int)
def H:Hd:=⟨[.agg [Ss,Sb,.agg [Si,Si,Si,Si,Si],Sl,Si,Sb,Sz,Si]],[.agg [Ss,Ob 5,.agg [Si,Si,Si,Si,Si],Ol 3,Si,Ob 5,Sz,Si]],(.seq .d (.cut [1,2] [] (.mode false) .d)),⟨[],gl,false⟩,[],f153⟩
def x2(f:LB)(g h k m n:Int)(o:LI)(p:Int)(u:Bool)(v:Int)(a b:LB):Option R_:=H.e P_ [r,r] ⟨[(1,.ptr 0 []),(2,.ptr 1 [])],[.box 124 (.agg [vs f,.own 2,.agg [vi g,vi h,vi k,vi m,vi n],vl o,vi p,.own 3,vt u,vi v]),.box 124 (.agg [vs ([]:LB),.nils,.agg [vi 0,vi 0,vi 0,vi 0,vi 0],.nils,vi 0,.nils,vt false,vi 0]),Ab 5 a,Ab 5 b],[]⟩
theorem e2:x2=CO:=by kernel_rfl
def F:=vQ Nu
theorem rn x:H.u P_ x=F x:=Eq.trans (b:=vQ (Zt x2) x) (by kernel_rfl) (by unfold F;rw[aX];simp only[e2]<;>rfl)
def c:Con:=⟨H.p,H.r,F⟩
theorem ok:ConOk P_ gl 153 c:=co H func153 .nil rn
end F153
namespace F154
def H:Hd:=⟨[.agg [Ss,Sb,.agg [Si,Si,Si,Si,Si],Sl,Si,Sb,Sz,Si]],[Si],.d,⟨[],gl,false⟩,[],f154⟩
def F:=vQ Hk
theorem rn x:H.u P_ x=F x:=by kernel_rfl
def c:Con:=⟨H.p,H.r,F⟩
theorem ok:ConOk P_ gl 154 c:=co H func154 .nil rn
end F154
namespace F158
def Zl(a m:LB)(n o p u v:Int)(w:LI)(y:Int)(b:LB)(aa:Bool)(ab:Int):Option (LB×LB×Int×Int×Int×Int×Int×LI×Int×LB×Bool×Int):=
(λg:Option (LB×LB×Int×Int×Int×Int×Int×LI×Int×LB×Bool×Int)=>
(λh:Option (LB×LB×Int×Int×Int×Int×Int×LI×Int×LB×Bool×Int)=>
(λk:Option (LB×LB×Int×Int×Int×Int×Int×LI×Int×LB×Bool×Int)=>
both (
h) [
k,
k]) (
both (
g) [
h])) (
bo (
g))) (
(Cz ([]:LB) b).bind λf=>
some (a,([]:LB),0,0,0,0,0,([]:LI),0,f,false,0))
theorem aW: @Zl= @Li:=by
  unfold Zl Li
  try simp only[NZ,Zd,AH]
  all_goals
    repeat (refine funext λ_=>?_)
    repeat' first
      |with_reducible rfl
      |with_reducible refine Gn ?_ ?_
      |with_reducible refine Gi ?_ ?_ ?_
      |with_reducible refine Gp ?_ ?_ ?_ ?_
      |((with_reducible refine Km ?_ ?_);focus (intro h;first|(subst h;rfl)|(simp only[h];rfl)|(simp[Cz,Ac,h];done)))
      |with_reducible refine Kk λx=>?_
      |with_reducible refine Pr (λ_=>?_) (λ_=>?_)
      |(refine Du (λh=>by simp only[h,Kl,Cy,Cu,ite_self]) (λx h=>?_);(try simp only[h,Cy]))
      |(refine Et (λh=>?_) (λh=>?_)<;>simp only[h,if_true,if_false,Bool.false_eq_true])
def H:Hd:=⟨[.agg [Ss,Sb,.agg [Si,Si,Si,Si,Si],Sl,Si,Sb,Sz,Si]],[.agg [Ss,Ob 5,.agg [Si,Si,Si,Si,Si],Ol 3,Si,Ob 5,Sz,Si]],(.seq .d (.seq (.mode false) .d)),⟨[],gl,false⟩,[],f158⟩
def F:=vQ Li
theorem rn x:H.u P_ x=F x:=Eq.trans (b:=vQ Zl x) (by kernel_rfl) (by rw[aW];rfl)
def c:Con:=⟨H.p,H.r,F⟩
theorem ok:ConOk P_ gl 158 c:=co H func158 .nil rn
end F158
namespace F156
def H:Hd:=⟨[.agg [Ss,Sb,.agg [Si,Si,Si,Si,Si],Sl,Si,Sb,Sz,Si],Si],[.agg [Ss,Ob 5,.agg [Si,Si,Si,Si,Si],Ol 3,Si,Ob 5,Sz,Si],Si],.d,⟨[(158,F158.c)],gl,false⟩,[],f156⟩
def F:=u13 Pj
theorem rn x:H.u P_ x=F x:=by kernel_rfl
def c:Con:=⟨H.p,H.r,F⟩
theorem ok:ConOk P_ gl 156 c:=co H func156 (.cons F158.ok .nil) rn
end F156
namespace F82
abbrev R_:=(LB×LB×Int×Int×Int×Int×Int×LI×Int×LB×Bool×Int×Int)
def H:Hd:=⟨[.agg [Ss,Sb,.agg [Si,Si,Si,Si,Si],Sl,Si,Sb,Sz,Si],Sb],[.agg [Ss,Ob 5,.agg [Si,Si,Si,Si,Si],Ol 3,Si,Ob 5,Sz,Si],Si],(.seq .d (.seq .d (.seq .d (.seq .d (.seq .d (.blk (.loop [2,4] [⟨2,[1],.ro (.int .u8)⟩,⟨2,[3],.ro (.int .i64)⟩,⟨2,[5],.ro (.int .u8)⟩] .d))))))),⟨[(152,F152.c),(153,F153.c),(154,F154.c),(155,F155.c),(156,F156.c)],gl,false⟩,[],f82⟩
def t3(a b:LB)(f g h k m:Int)(n:LI)(o:Int)(p:LB)(u:Bool)(v:Int):S:=⟨[(2,.ptr 0 []),(4,.ptr 1 [])],[.box 124 (.agg [vs a,vb b,.agg [vi f,vi g,vi h,vi k,vi m],vl n,vi o,vb p,vt u,vi v]),.box 124 (.agg [vs ([]:LB),.nils,.agg [vi 0,vi 0,vi 0,vi 0,vi 0],.nils,vi 0,.nils,vt false,vi 0])],[]⟩
def z3:Nat->S->Option R_:=H.i P_ [r,r,r,r,r,d]
def x3(a b:LB)(f g h k m:Int)(n:LI)(o:Int)(p:LB)(u:Bool)(v:Int):Option R_:=H.e P_ [r,r,r,r,r,d] (t3 a b f g h k m n o p u v)
theorem i3:∀(q:Nat) (a b:LB) (f g h k m:Int) (n:LI) (o:Int) (p:LB) (u:Bool) (v:Int),z3 q (t3 a b f g h k m n o p u v)=Bg q a b f g h k m n o p u v:=
 ind (λ_ _ _ _ _ _ _ _ _ _ _ _=>by kernel_rfl) λq ih a b f g h k m n o p u v=>Eq.trans (b:=Cc (λa b f g h k m n o p u v=>(z3 q) (t3 a b f g h k m n o p u v)) a b f g h k m n o p u v) (by kernel_rfl) (by simp only[ih]<;>rfl)
theorem e3:x3=RB:=by funext a b f g h k m n o p u v;exact Eq.trans (by kernel_rfl) ((i3 Cl a b f g h k m n o p u v).trans (by rw[Ar];rfl))
def F:=u13 Gj
theorem rn x:H.u P_ x=F x:=Eq.trans (b:=u13 (Nr x3) x) (by kernel_rfl) (by simp only[e3]<;>rfl)
def c:Con:=⟨H.p,H.r,F⟩
theorem ok:ConOk P_ gl 82 c:=co H func82 (.cons F152.ok (.cons F153.ok (.cons F154.ok (.cons F155.ok (.cons F156.ok .nil))))) rn
end F82
namespace F141
def AK(j5:LB->Int->Int->LB->LB->Option (Int×Int))(a:LB):Option (Int×Int):=
(Bp a (Au (Ac a) 32) (Ac a)).bind λb=>
(Nt b).bind λ(f,g,n)=>
if(!n)then
some (0,12)
else
(Fl f g true).bind λh=>
both (
if(!(b==h))then
(Fl f g false).bind λm=>
if(b !=m)then
some (0,12)
else
j5 a f g b h
else
j5 a f g b h) [
if(!(b==h))then
(Fl f g false).bind λm=>
(λv:Option (Int×Int)=>
bo (
v)) (
if(b !=m)then
some (0,12)
else
j5 a f g b h)
else
j5 a f g b h]
theorem aQ: @AK= @Tv:=by
  unfold AK Tv
  try simp only[NZ,Zd,AH]
  all_goals
    repeat (refine funext λ_=>?_)
    repeat' first
      |with_reducible rfl
      |with_reducible refine Gn ?_ ?_
      |with_reducible refine Gi ?_ ?_ ?_
      |with_reducible refine Gp ?_ ?_ ?_ ?_
      |((with_reducible refine Km ?_ ?_);focus (intro h;first|(subst h;rfl)|(simp only[h];rfl)|(simp[Cz,Ac,h];done)))
      |with_reducible refine Kk λx=>?_
      |with_reducible refine Pr (λ_=>?_) (λ_=>?_)
      |(refine Du (λh=>by simp only[h,Kl,Cy,Cu,ite_self]) (λx h=>?_);(try simp only[h,Cy]))
      |(refine Et (λh=>?_) (λh=>?_)<;>simp only[h,if_true,if_false,Bool.false_eq_true])
abbrev R_:=(Int×Int)
def H:Hd:=⟨[Sb],[Si,Si],(.seq .d (.cut [0] [] .d (.seq .d (.seq .d (.seq .d (.seq .d (.cut [0,5,6,8] [] (.seq (.mode false) .d) (.seq .d (.cut [0,5,6,8,9] [] .d .d))))))))),⟨[(229,F229.c),(230,F230.c),(231,F231.c)],gl,false⟩,[],f141⟩
def x6(a:LB)(f g:Int)(b h:LB)(k:Int):Option R_:=H.e P_ [r,r,r,r,r,r,r,r,r] ⟨[(0,vb a),(5,vi f),(6,vi g),(8,vt (b==h)),(9,vi k)],[],[]⟩
def x5(a:LB)(f g:Int)(b h:LB):Option R_:=H.e P_ [r,r,r,r,r,r,r] ⟨[(0,vb a),(5,vi f),(6,vi g),(8,vt (b==h))],[],[]⟩
def x4(a:LB):Option R_:=H.e P_ [r,r] ⟨[(0,vb a)],[],[]⟩
theorem e6:x6=Tx:=by kernel_rfl
theorem e5:x5=Tj:=Eq.trans (b:=Ta x6) (by kernel_rfl) (by simp only[e6]<;>rfl)
theorem e4:x4=DN:=Eq.trans (b:=AK x5) (by kernel_rfl) (by rw[aQ];simp only[e5]<;>rfl)
def F:=AZ
theorem rn x:H.u P_ x=F x:=Eq.trans (b:=BQ x4 x) (by kernel_rfl) (by simp only[e4]<;>rfl)
def c:Con:=⟨H.p,H.r,F⟩
theorem ok:ConOk P_ gl 141 c:=co H func141 (.cons F229.ok (.cons F230.ok (.cons F231.ok .nil))) rn
end F141
namespace F75
abbrev R_:=(Int×Int)
def H:Hd:=⟨[Sb],[Si,Si],(.seq .d (.seq .d (.seq .d (.cut [4] [] (.blk (.loop [0,4] [] .d)) .d)))),⟨[(141,F141.c)],gl,false⟩,[],f75⟩
def t4(b:LB)(a:Int):S:=⟨[(0,vb b),(4,vi a)],[],[]⟩
def z4:Nat->S->Option R_:=H.i P_ [r,r,r,l,d]
def x6(a:Int):Option R_:=H.e P_ [r,r,r,r] ⟨[(4,vi a)],[],[]⟩
def x4(b:LB)(a:Int):Option R_:=H.e P_ [r,r,r,l,d] (t4 b a)
theorem e6:x6=JL:=by kernel_rfl
theorem i4:∀(q:Nat) (b:LB) (a:Int),z4 q (t4 b a)=Lj q b a:=
 ind (λ_ _=>by kernel_rfl) λq ih b a=>Eq.trans (b:=Yn x6 (λb a=>(z4 q) (t4 b a)) b a) (by kernel_rfl) (by simp only[e6,ih]<;>rfl)
theorem e4:x4=LJ:=by funext b a;exact Eq.trans (by kernel_rfl) ((i4 Cl b a).trans (by rw[Ar];rfl))
def F:=Oz
theorem rn x:H.u P_ x=F x:=Eq.trans (b:=Xi x4 x) (by kernel_rfl) (by simp only[e4]<;>rfl)
def c:Con:=⟨H.p,H.r,F⟩
theorem ok:ConOk P_ gl 75 c:=co H func75 (.cons F141.ok .nil) rn
end F75
namespace F157
def H:Hd:=⟨[.agg [Ss,Sb,.agg [Si,Si,Si,Si,Si],Sl,Si,Sb,Sz,Si]],[Si],.d,⟨[(75,F75.c),(129,F129.c),(130,F130.c)],gl,false⟩,[],f157⟩
def F:=vQ Bz
theorem rn x:H.u P_ x=F x:=by kernel_rfl
def c:Con:=⟨H.p,H.r,F⟩
theorem ok:ConOk P_ gl 157 c:=co H func157 (.cons F75.ok (.cons F129.ok (.cons F130.ok .nil))) rn
end F157
namespace F83
def H:Hd:=⟨[.agg [Ss,Sb,.agg [Si,Si,Si,Si,Si],Sl,Si,Sb,Sz,Si]],[.agg [Ss,Ob 5,.agg [Si,Si,Si,Si,Si],Ol 3,Si,Ob 5,Sz,Si],Si],.d,⟨[(152,F152.c),(153,F153.c),(154,F154.c),(156,F156.c),(157,F157.c),(158,F158.c)],gl,false⟩,[],f83⟩
def F:=vQ Pd
theorem rn x:H.u P_ x=F x:=by kernel_rfl
def c:Con:=⟨H.p,H.r,F⟩
theorem ok:ConOk P_ gl 83 c:=co H func83 (.cons F152.ok (.cons F153.ok (.cons F154.ok (.cons F156.ok (.cons F157.ok (.cons F158.ok .nil)))))) rn
end F83
namespace F84
abbrev R_:=(LX×Int)
abbrev K_:=S->Option R_
def H:Hd:=⟨[Si,Sb],[Ow 21,Si],(.seq .d (.seq .d (.seq .d (.seq .d (.seq .d (.seq .d (.seq .d (.cut [8] [] (.seq .d (.blk (.loop [0,1,6,7,8,9] [⟨8,[],.own 21 (.int .i32)⟩] (.seq .d (.cut [0,1,6,7,8,9] [] (.blk (.seq .d (.cut [0,1,6,7,8,9,10] [] (.seq .d (.blk (.loop [0,1,6,7,8,9,10,11] [] .d))) .d))) .d))))) .d)))))))),⟨[(159,F159.c)],gl,false⟩,[],f84⟩
def t25(a:Int)(b:LB)(f g:Int)(h:LX)(k m:Int):S:=⟨[(0,vi a),(1,vb b),(6,vi f),(7,vi (By a (8:Int))),(8,.own 0),(9,vi g),(10,vi k),(11,vi m)],[Aw 21 h],[]⟩
def z25(Ck:K_):Nat->S->Option R_:=H.i P_ [r,r,r,r,r,r,r,l,r,d,(lp Ck),r,l,d,r,l,r,d]
def t16(a:Int)(b:LB)(f g:Int)(h:LX):S:=⟨[(0,vi a),(1,vb b),(6,vi f),(7,vi (By a (8:Int))),(8,.own 0),(9,vi g)],[Aw 21 h],[]⟩
def z16:Nat->S->Option R_:=H.i P_ [r,r,r,r,r,r,r,l,r,d]
def x30(h:LX):Option R_:=H.e P_ [r,r,r,r,r,r,r,r] ⟨[(8,.own 0)],[Aw 21 h],[]⟩
def x28(Ck:K_)(a:Int)(b:LB)(f g:Int)(n:LX):Option R_:=H.e P_ [r,r,r,r,r,r,r,l,r,d,(lp Ck),r,r] ⟨[(0,vi a),(1,vb b),(6,vi f),(7,vi (By a (8:Int))),(8,.own 0),(9,vi g)],[Aw 21 n],[]⟩
def x27(Ck:K_)(a:Int)(b:LB)(f g k:Int)(h:LX):Option R_:=H.e P_ [r,r,r,r,r,r,r,l,r,d,(lp Ck),r,l,d,r,r] ⟨[(0,vi a),(1,vb b),(6,vi f),(7,vi (By a (8:Int))),(8,.own 0),(9,vi g),(10,vi k)],[Aw 21 h],[]⟩
def x25(Ck:K_)(a:Int)(b:LB)(f g:Int)(h:LX)(k m:Int):Option R_:=H.e P_ [r,r,r,r,r,r,r,l,r,d,(lp Ck),r,l,d,r,l,r,d] (t25 a b f g h k m)
def x16(a:Int)(b:LB)(f g:Int)(h:LX):Option R_:=H.e P_ [r,r,r,r,r,r,r,l,r,d] (t16 a b f g h)
theorem e30:x30=GJ:=by kernel_rfl
theorem e28(Ck:K_)(a:Int)(b:LB)(f:Int):x28 Ck a b f=Nb (λg h=>Ck (t16 a b f g h)) a b f:=by kernel_rfl
theorem e27(Ck:K_)(a:Int)(b:LB)(f:Int):x27 Ck a b f=Jh (λg h=>Ck (t16 a b f g h)) a b f:=Eq.trans (b:=Ul (x28 Ck a b f) a b f) (by kernel_rfl) (by simp only[e28]<;>rfl)
theorem i25(Ck:K_)(a:Int)(b:LB)(f g:Int)(h:LX):∀(q:Nat) (k m:Int),z25 Ck q (t25 a b f g h k m)=Dx (λg h=>Ck (t16 a b f g h)) a b f g h q k m:=
 ind (λ_ _=>by kernel_rfl) λq ih k m=>Eq.trans (b:=Nf (x27 Ck a b f) (λk m=>(z25 Ck q) (t25 a b f g h k m)) a b f g h k m) (by kernel_rfl) (by simp only[e27,ih]<;>rfl)
theorem e25(Ck:K_)(a:Int)(b:LB)(f:Int):x25 Ck a b f=Uj (λg h=>Ck (t16 a b f g h)) a b f:=by funext g h k m;exact Eq.trans (by kernel_rfl) ((i25 Ck a b f g h Cl k m).trans (by rw[Ar];rfl))
theorem i16(a:Int)(b:LB)(f:Int):∀(q:Nat) (g:Int) (h:LX),z16 q (t16 a b f g h)=Dj a b f q g h:=
 ind (λ_ _=>by kernel_rfl) λq ih g h=>Eq.trans (b:=Nc (x25 (z16 q) a b f) x30 a b f g h) (by kernel_rfl) (by simp only[e25,e30,ih]<;>rfl)
theorem e16:x16=Uf:=by funext a b f g h;exact Eq.trans (by kernel_rfl) ((i16 a b f Cl g h).trans (by rw[Ar];rfl))
def F:=u2 Tz
theorem rn x:H.u P_ x=F x:=Eq.trans (b:=u2 (Vu x16) x) (by kernel_rfl) (by simp only[e16]<;>rfl)
def c:Con:=⟨H.p,H.r,F⟩
theorem ok:ConOk P_ gl 84 c:=co H func84 (.cons F159.ok .nil) rn
end F84
namespace F32
def H:Hd:=⟨[Sb,Ss],[.agg [Si,Si,Si,Ow 21],Si],.d,⟨[(81,F81.c),(82,F82.c),(83,F83.c),(84,F84.c)],gl,false⟩,[],f32⟩
def F:=u2 Eg
theorem rn x:H.u P_ x=F x:=by kernel_rfl
def c:Con:=⟨H.p,H.r,F⟩
theorem ok:ConOk P_ gl 32 c:=co H func32 (.cons F81.ok (.cons F82.ok (.cons F83.ok (.cons F84.ok .nil)))) rn
end F32
namespace F101
def H:Hd:=⟨[.agg [Si,Si,Si,Sw]],[.agg [Si,Si]],.d,⟨[],gl,false⟩,[],f101⟩
def F:=u4 VT
theorem rn x:H.u P_ x=F x:=by kernel_rfl
def c:Con:=⟨H.p,H.r,F⟩
theorem ok:ConOk P_ gl 101 c:=co H func101 .nil rn
end F101
namespace F168
def H:Hd:=⟨[.agg [Si,Si,Si,Sw],Si],[Si],.d,⟨[(101,F101.c),(119,F119.c),(123,F123.c)],gl,false⟩,[],f168⟩
def F:=u5 OK
theorem rn x:H.u P_ x=F x:=by kernel_rfl
def c:Con:=⟨H.p,H.r,F⟩
theorem ok:ConOk P_ gl 168 c:=co H func168 (.cons F101.ok (.cons F119.ok (.cons F123.ok .nil))) rn
end F168
namespace F93
def H:Hd:=⟨[.agg [Si,Si,Si,Sw]],[Si],.d,⟨[(168,F168.c),(169,F169.c)],gl,false⟩,[],f93⟩
def F:=u4 Jn
theorem rn x:H.u P_ x=F x:=by kernel_rfl
def c:Con:=⟨H.p,H.r,F⟩
theorem ok:ConOk P_ gl 93 c:=co H func93 (.cons F168.ok (.cons F169.ok .nil)) rn
end F93
namespace F259
def H:Hd:=⟨[.agg [Si,Si,Si]],[Si],.d,⟨[],gl,false⟩,[],f259⟩
def F:=u3 MU
theorem rn x:H.u P_ x=F x:=by kernel_rfl
def c:Con:=⟨H.p,H.r,F⟩
theorem ok:ConOk P_ gl 259 c:=co H func259 .nil rn
end F259
namespace F170
def H:Hd:=⟨[.agg [Si,Si,Si]],[Sz,Si],.d,⟨[(259,F259.c)],gl,false⟩,[],f170⟩
def F:=u3 aN
theorem rn x:H.u P_ x=F x:=by kernel_rfl
def c:Con:=⟨H.p,H.r,F⟩
theorem ok:ConOk P_ gl 170 c:=co H func170 (.cons F259.ok .nil) rn
end F170
namespace F171
abbrev R_:=LB
def H:Hd:=⟨[.agg [Si,Si,Si],Sz,Sq],[Ob 5],(.seq .d (.seq .d (.seq .d (.seq .d (.cut [1,8,9] [] .d (.seq .d (.cut [1,10] [] (.seq .d (.blk (.loop [1,8,10,44,45] [⟨10,[],.own 5 (.int .u8)⟩] .d))) .d))))))),⟨[(103,F103.c)],gl,false⟩,[],f171⟩
def t6(a:Bool)(g:Int)(f:LQ)(h:Int)(b:LB):S:=⟨[(1,vt a),(8,.ptr 0 []),(10,.own 1),(44,vi g),(45,vi h)],[.box 336 (.val (.vec 9 (.int .u64)) f),Ab 5 b],[]⟩
def z6:Nat->S->Option R_:=H.i P_ [r,r,r,r,r,r,l,r,d]
def x8(a:Bool)(b:LB):Option R_:=H.e P_ [r,r,r,r,r,r,r] ⟨[(1,vt a),(10,.own 0)],[Ab 5 b],[]⟩
def x6(a:Bool)(g:Int)(f:LQ)(h:Int)(b:LB):Option R_:=H.e P_ [r,r,r,r,r,r,l,r,d] (t6 a g f h b)
def x5(a:Bool)(g:Int)(f:LQ):Option R_:=H.e P_ [r,r,r,r,r] ⟨[(1,vt a),(8,.ptr 0 []),(9,vi g)],[.box 336 (.val (.vec 9 (.int .u64)) f)],[]⟩
theorem e8:x8=EV:=by kernel_rfl
theorem i6(a:Bool)(g:Int)(f:LQ):∀(q:Nat) (h:Int) (b:LB),z6 q (t6 a g f h b)=Fc a g f q h b:=
 ind (λ_ _=>by kernel_rfl) λq ih h b=>Eq.trans (b:=Vt x8 (λh b=>(z6 q) (t6 a g f h b)) a g f h b) (by kernel_rfl) (by simp only[e8,ih]<;>rfl)
theorem e6:x6=DZ:=by funext a g f h b;exact Eq.trans (by kernel_rfl) ((i6 a g f Cl h b).trans (by rw[Ar];rfl))
theorem e5:x5=FB:=Eq.trans (b:=EW x6) (by kernel_rfl) (by simp only[e6]<;>rfl)
def F:=u5 aZ
theorem rn x:H.u P_ x=F x:=Eq.trans (b:=u5 (OL x5) x) (by kernel_rfl) (by simp only[e5]<;>rfl)
def c:Con:=⟨H.p,H.r,F⟩
theorem ok:ConOk P_ gl 171 c:=co H func171 (.cons F103.ok .nil) rn
end F171
namespace F94
def H:Hd:=⟨[.agg [Si,Si,Si]],[Ob 5,Si],.d,⟨[(170,F170.c),(171,F171.c)],gl,false⟩,[],f94⟩
def F:=u3 MV
theorem rn x:H.u P_ x=F x:=by kernel_rfl
def c:Con:=⟨H.p,H.r,F⟩
theorem ok:ConOk P_ gl 94 c:=co H func94 (.cons F170.ok (.cons F171.ok .nil)) rn
end F94
namespace F260
abbrev R_:=Bool
def H:Hd:=⟨[Ss],[Sz],(.seq .d (.cut [0] [] (.seq .d (.blk (.loop [0,6,7,8] [] .d))) .d)),⟨[],gl,false⟩,[],f260⟩
def t4(a:LB)(b:Int):S:=⟨[(0,vs a),(6,.own 0),(7,vi (Ac a)),(8,vi b)],[Ab 5 a],[]⟩
def z4:Nat->S->Option R_:=H.i P_ [r,l,r,d]
def x6(a:LB):Option R_:=H.e P_ [r,r] ⟨[(0,vs a)],[],[]⟩
def x4(a:LB)(b:Int):Option R_:=H.e P_ [r,l,r,d] (t4 a b)
theorem e6:x6=kI:=by kernel_rfl
theorem i4(a:LB):∀(q:Nat) (b:Int),z4 q (t4 a b)=XS a q b:=
 ind (λ_=>by kernel_rfl) λq ih b=>Eq.trans (b:=jT x6 (λb=>(z4 q) (t4 a b)) a b) (by kernel_rfl) (by simp only[e6,ih]<;>rfl)
theorem e4:x4=iV:=by funext a b;exact Eq.trans (by kernel_rfl) ((i4 a Cl b).trans (by rw[Ar];rfl))
def F:=YW
theorem rn x:H.u P_ x=F x:=Eq.trans (b:=kO x4 x) (by kernel_rfl) (by simp only[e4]<;>rfl)
def c:Con:=⟨H.p,H.r,F⟩
theorem ok:ConOk P_ gl 260 c:=co H func260 .nil rn
end F260
namespace F176
abbrev R_:=Int
def H:Hd:=⟨[.lf (.list (.cons .str (.cons (.list (.int .u8)) .nil))) none],[Si],(.seq .d (.seq .d (.cut [3] [] (.seq .d (.blk (.loop [3,6,7,8] [] .d))) .d))),⟨[],gl,false⟩,[],f176⟩
def t4(b:List (LB×LB×Unit))(a f:Int):S:=⟨[(3,vi a),(6,.val (.list (.cons .str (.cons (.list (.int .u8)) .nil))) b),(7,vi (Ac b)),(8,vi f)],[],[]⟩
def z4:Nat->S->Option R_:=H.i P_ [r,r,l,r,d]
def x6(a:Int):Option R_:=H.e P_ [r,r,r] ⟨[(3,vi a)],[],[]⟩
def x4(b:List (LB×LB×Unit))(a f:Int):Option R_:=H.e P_ [r,r,l,r,d] (t4 b a f)
theorem e6:x6=dU:=by kernel_rfl
theorem i4(b:List (LB×LB×Unit)):∀(q:Nat) (a f:Int),z4 q (t4 b a f)=EF b q a f:=
 ind (λ_ _=>by kernel_rfl) λq ih a f=>Eq.trans (b:=LC x6 (λa f=>(z4 q) (t4 b a f)) b a f) (by kernel_rfl) (by simp only[e6,ih]<;>rfl)
theorem e4:x4=dE:=by funext b a f;exact Eq.trans (by kernel_rfl) ((i4 b Cl a f).trans (by rw[Ar];rfl))
def F:=OP
theorem rn x:H.u P_ x=F x:=Eq.trans (b:=eE x4 x) (by kernel_rfl) (by simp only[e4]<;>rfl)
def c:Con:=⟨H.p,H.r,F⟩
theorem ok:ConOk P_ gl 176 c:=co H func176 .nil rn
end F176
namespace F262
def H:Hd:=⟨[.agg [Ss,Sb]],[Sz],.d,⟨[(260,F260.c)],gl,false⟩,[],f262⟩
def F:=u2 KX
theorem rn x:H.u P_ x=F x:=by kernel_rfl
def c:Con:=⟨H.p,H.r,F⟩
theorem ok:ConOk P_ gl 262 c:=co H func262 (.cons F260.ok .nil) rn
end F262
namespace F172
abbrev R_:=Int
abbrev K_:=S->Option R_
def H:Hd:=⟨[Ss,.lf (.list (.cons .str (.cons (.list (.int .u8)) .nil))) none],[Si],(.seq .d (.seq .d (.cut [] [] (.cut [20] [] (.keep [17,19,20] true) .d) .d))),⟨[(176,F176.c),(260,F260.c),(262,F262.c)],gl,false⟩,[(261,(.seq .d (.cut [4] [] (.keep [4,7,8] true) .d))),(325,(.seq .d (.cut [] [] (.seq .d (.blk (.loop [0,1,7,8] [] (.seq .d (.seq .d (.cut [0,1,7,8] [] (.blk (.seq .d (.cut [0,1,5,7,8,16] [] .d .d))) .d)))))) .d)))],f172⟩
def t19(a:List (LB×LB×Unit))(b:Int):S:=⟨[(0,.val (.list (.cons .str (.cons (.list (.int .u8)) .nil))) a),(1,.fn 262 []),(7,vi (Ac a)),(8,vi b)],[],[[(4,vt false)],[(17,.cst (.bool false))]]⟩
def z19:Nat->S->Option R_:=H.i P_ [r,r,l,l,(call 11 261),r,l,(call 2 325),r,l,r,d]
def t27(a:List (LB×LB×Unit))(f:Int):S:=⟨[(0,.val (.list (.cons .str (.cons (.list (.int .u8)) .nil))) a),(1,.fn 262 []),(7,vi (Ac a)),(8,vi f)],[],[[(4,vt false)],[(17,.cst (.bool false))]]⟩
def z27:Nat->S->Option R_:=H.i P_ [r,r,l,l,(call 11 261),r,l,(call 2 325),r,l,r,d]
def x36:Option R_:=H.e P_ [r,r,r] ⟨[],[],[]⟩
def x35(k:Bool):Option R_:=H.e P_ [r,r,l,r] ⟨[(20,vt k)],[],[]⟩
def x26(m:Bool):Option R_:=H.e P_ [r,r,l,l,(call 11 261),r,r] ⟨[(4,vt m)],[],[[(17,.cst (.bool false))]]⟩
def x25:Option R_:=H.e P_ [r,r,l,l,(call 11 261),r,l,(call 2 325),r,r] ⟨[],[],[[(4,vt false)],[(17,.cst (.bool false))]]⟩
def x23(I5:K_)(a:List (LB×LB×Unit))(b:Int):Option R_:=H.e P_ [r,r,l,l,(call 11 261),r,l,(call 2 325),r,l,r,d,(lp I5),r,r,r] ⟨[(0,.val (.list (.cons .str (.cons (.list (.int .u8)) .nil))) a),(1,.fn 262 []),(7,vi (Ac a)),(8,vi b)],[],[[(4,vt false)],[(17,.cst (.bool false))]]⟩
def x22(I5:K_)(a:List (LB×LB×Unit))(b:Int)(g:Bool):Option R_:=H.e P_ [r,r,l,l,(call 11 261),r,l,(call 2 325),r,l,r,d,(lp I5),r,r,l,d,r,r] ⟨[(0,.val (.list (.cons .str (.cons (.list (.int .u8)) .nil))) a),(1,.fn 262 []),(5,vi b),(7,vi (Ac a)),(8,vi b),(16,vt g)],[],[[(4,vt false)],[(17,.cst (.bool false))]]⟩
def x19(a:List (LB×LB×Unit))(b:Int):Option R_:=H.e P_ [r,r,l,l,(call 11 261),r,l,(call 2 325),r,l,r,d] (t19 a b)
def x34(n:Bool):Option R_:=H.e P_ [r,r,l,l,(call 11 261),r,r] ⟨[(4,vt n)],[],[[(17,.cst (.bool false))]]⟩
def x33:Option R_:=H.e P_ [r,r,l,l,(call 11 261),r,l,(call 2 325),r,r] ⟨[],[],[[(4,vt false)],[(17,.cst (.bool false))]]⟩
def x31(Yu:K_)(a:List (LB×LB×Unit))(f:Int):Option R_:=H.e P_ [r,r,l,l,(call 11 261),r,l,(call 2 325),r,l,r,d,(lp Yu),r,r,r] ⟨[(0,.val (.list (.cons .str (.cons (.list (.int .u8)) .nil))) a),(1,.fn 262 []),(7,vi (Ac a)),(8,vi f)],[],[[(4,vt false)],[(17,.cst (.bool false))]]⟩
def x30(Yu:K_)(a:List (LB×LB×Unit))(f:Int)(h:Bool):Option R_:=H.e P_ [r,r,l,l,(call 11 261),r,l,(call 2 325),r,l,r,d,(lp Yu),r,r,l,d,r,r] ⟨[(0,.val (.list (.cons .str (.cons (.list (.int .u8)) .nil))) a),(1,.fn 262 []),(5,vi f),(7,vi (Ac a)),(8,vi f),(16,vt h)],[],[[(4,vt false)],[(17,.cst (.bool false))]]⟩
def x27(a:List (LB×LB×Unit))(f:Int):Option R_:=H.e P_ [r,r,l,l,(call 11 261),r,l,(call 2 325),r,l,r,d] (t27 a f)
theorem e36:x36=YN:=by kernel_rfl
theorem e35:x35=DL:=Eq.trans (b:=XM x36) (by kernel_rfl) (by simp only[e36]<;>rfl)
theorem e26:x26=XA:=Eq.trans (b:=iU x35) (by kernel_rfl) (by simp only[e35]<;>rfl)
theorem e25:x25=kW:=Eq.trans (b:=jJ x26) (by kernel_rfl) (by simp only[e26]<;>rfl)
theorem e23(I5:K_)(a:List (LB×LB×Unit)):x23 I5 a=iL (λb=>I5 (t19 a b)) a:=by kernel_rfl
theorem e22(I5:K_)(a:List (LB×LB×Unit)):x22 I5 a=kT (λb=>I5 (t19 a b)) a:=Eq.trans (b:=lF x26 (x23 I5 a) a) (by kernel_rfl) (by simp only[e26,e23]<;>rfl)
theorem i19(a:List (LB×LB×Unit)):∀(q:Nat) (b:Int),z19 q (t19 a b)=WO a q b:=
 ind (λ_=>by kernel_rfl) λq ih b=>Eq.trans (b:=kL (x22 (z19 q) a) x25 a b) (by kernel_rfl) (by simp only[e22,e25,ih]<;>rfl)
theorem e19:x19=jG:=by funext a b;exact Eq.trans (by kernel_rfl) ((i19 a Cl b).trans (by rw[Ar];rfl))
theorem e34:x34=KS:=Eq.trans (b:=WN x35) (by kernel_rfl) (by simp only[e35]<;>rfl)
theorem e33:x33=XV:=Eq.trans (b:=WH x34) (by kernel_rfl) (by simp only[e34]<;>rfl)
theorem e31(Yu:K_)(a:List (LB×LB×Unit)):x31 Yu a=KG (λf=>Yu (t27 a f)) a:=by kernel_rfl
theorem e30(Yu:K_)(a:List (LB×LB×Unit)):x30 Yu a=MN (λf=>Yu (t27 a f)) a:=Eq.trans (b:=KU x34 (x31 Yu a) a) (by kernel_rfl) (by simp only[e34,e31]<;>rfl)
theorem i27(a:List (LB×LB×Unit)):∀(q:Nat) (f:Int),z27 q (t27 a f)=Wm a q f:=
 ind (λ_=>by kernel_rfl) λq ih f=>Eq.trans (b:=DQ (x30 (z27 q) a) x33 a f) (by kernel_rfl) (by simp only[e30,e33,ih]<;>rfl)
theorem e27:x27=XG:=by funext a f;exact Eq.trans (by kernel_rfl) ((i27 a Cl f).trans (by rw[Ar];rfl))
def F:=u2 CR
theorem rn x:H.u P_ x=F x:=Eq.trans (b:=u2 (QA x35 x19 x27) x) (by kernel_rfl) (by simp only[e35,e19,e27]<;>rfl)
def c:Con:=⟨H.p,H.r,F⟩
theorem ok:ConOk P_ gl 172 c:=cr H func172 (.cons F176.ok (.cons F260.ok (.cons F262.ok .nil))) (Mr.cons ent261 (Mr.cons ent325 Mr.nil)) rn
end F172
theorem H3:ConOk Tryz.prog gl 96 eJ:=H7 ent96 F172.ok F176.ok F103.ok
namespace F38
def H:Hd:=⟨[.agg [Si,Si,Si,Sw]],[Ob 5,Si],.d,⟨[(93,F93.c),(94,F94.c),(95,F95.c),(96,eJ)],gl,false⟩,[],f38⟩
def F:=u4 VB
theorem rn x:H.u P_ x=F x:=by kernel_rfl
def c:Con:=⟨H.p,H.r,F⟩
theorem ok:ConOk P_ gl 38 c:=co H func38 (.cons F93.ok (.cons F94.ok (.cons F95.ok (.cons H3 .nil)))) rn
end F38
namespace F33
abbrev R_:=(LB×Int)
def H:Hd:=⟨[Sb,Ss],[Ob 5,Si],(.seq .d (.cut [4,5] [⟨4,[],.own 5 (.int .u8)⟩] (.keep [4,5,8,9,10] true) .d)),⟨[(31,F31.c),(38,F38.c)],gl,false⟩,[(85,(.seq .d (.cut [2,8,9] [] (.keep [2,8,9,11,14,15,16] true) (.seq .d (.cut [6,7] [] .d .d))))),(86,.d)],f33⟩
def x6(n:Int)(o:LB):Option R_:=H.e P_ [r,r] ⟨[(4,.own 0),(5,vi n)],[Ab 5 o],[]⟩
def x5(b:Int)(f:LB):Option R_:=H.e P_ [r,l,(call 2 85),r,r,r,r] ⟨[(6,.own 0),(7,vi b)],[Ab 5 f],[[(4,.nils),(5,vi 0)]]⟩
def x4(a g h k:Int)(m:LX):Option R_:=H.e P_ [r,l,(call 2 85),r,r] ⟨[(2,.fn 38 []),(8,.ptr 0 []),(9,vi a)],[.box 30 (.agg [vi g,vi h,vi k,.own 1]),Aw 21 m],[[(4,.nils),(5,vi 0)]]⟩
theorem e6:x6=PH:=by kernel_rfl
theorem e5:x5=cJ:=Eq.trans (b:=cX x6) (by kernel_rfl) (by simp only[e6]<;>rfl)
theorem e4:x4=EX:=Eq.trans (b:=EG x6 x5) (by kernel_rfl) (by simp only[e6,e5]<;>rfl)
def F:=u2 Za
theorem rn x:H.u P_ x=F x:=Eq.trans (b:=u2 (EU x4) x) (by kernel_rfl) (by simp only[e4]<;>rfl)
def c:Con:=⟨H.p,H.r,F⟩
theorem ok:ConOk P_ gl 33 c:=cr H func33 (.cons F31.ok (.cons F38.ok .nil)) (Mr.cons ent85 (Mr.cons ent86 Mr.nil)) rn
end F33
namespace F144
def H:Hd:=⟨[.agg [Si,Si,Si,Sw]],[.agg [Si,Si,Si]],.d,⟨[],gl,false⟩,[],f144⟩
def F:=u4 Qs
theorem rn x:H.u P_ x=F x:=by kernel_rfl
def c:Con:=⟨H.p,H.r,F⟩
theorem ok:ConOk P_ gl 144 c:=co H func144 .nil rn
end F144
namespace F233
def H:Hd:=⟨[.agg [Si,Si,Si]],[Sz],.d,⟨[],gl,false⟩,[],f233⟩
def F:=u3 HX
theorem rn x:H.u P_ x=F x:=by kernel_rfl
def c:Con:=⟨H.p,H.r,F⟩
theorem ok:ConOk P_ gl 233 c:=co H func233 .nil rn
end F233
namespace F309
def H:Hd:=⟨[.agg [Si,Si,Si],Sq],[Ob 5],.d,⟨[(215,F215.c)],gl,false⟩,[],f309⟩
def F:=u4 Qx
theorem rn x:H.u P_ x=F x:=by kernel_rfl
def c:Con:=⟨H.p,H.r,F⟩
theorem ok:ConOk P_ gl 309 c:=co H func309 (.cons F215.ok .nil) rn
end F309
namespace F234
def H:Hd:=⟨[.agg [Si,Si,Si],Su],[Ob 5],.d,⟨[(215,F215.c),(309,F309.c)],gl,false⟩,[],f234⟩
def F:=u4 FP
theorem rn x:H.u P_ x=F x:=by kernel_rfl
def c:Con:=⟨H.p,H.r,F⟩
theorem ok:ConOk P_ gl 234 c:=co H func234 (.cons F215.ok (.cons F309.ok .nil)) rn
end F234
namespace F235
def H:Hd:=⟨[.agg [Si,Si,Si]],[Ob 5],.d,⟨[(309,F309.c)],gl,false⟩,[],f235⟩
def F:=u3 HV
theorem rn x:H.u P_ x=F x:=by kernel_rfl
def c:Con:=⟨H.p,H.r,F⟩
theorem ok:ConOk P_ gl 235 c:=co H func235 (.cons F309.ok .nil) rn
end F235
namespace F143
def H:Hd:=⟨[.agg [Si,Si,Si]],[Ob 5],.d,⟨[(233,F233.c),(234,F234.c),(235,F235.c)],gl,false⟩,[],f143⟩
def F:=u3 Lc
theorem rn x:H.u P_ x=F x:=by kernel_rfl
def c:Con:=⟨H.p,H.r,F⟩
theorem ok:ConOk P_ gl 143 c:=co H func143 (.cons F233.ok (.cons F234.ok (.cons F235.ok .nil))) rn
end F143
namespace F145
abbrev R_:=LB
def H:Hd:=⟨[.agg [Si,Si,Si,Sw]],[Ob 5],(.seq .d (.seq .d (.cut [3] [] (.seq .d (.blk (.loop [1,3,4] [⟨3,[],.own 5 (.int .u8)⟩] .d))) .d))),⟨[(236,F236.c)],gl,false⟩,[],f145⟩
def t4(g f h:Int)(b:LX)(k:Int)(a:LB):S:=⟨[(1,.ptr 0 []),(3,.own 1),(4,vi k)],[.box 30 (.agg [vi g,vi f,vi h,vw b]),Ab 5 a],[]⟩
def z4:Nat->S->Option R_:=H.i P_ [r,r,l,r,d]
def x6(a:LB):Option R_:=H.e P_ [r,r,r] ⟨[(3,.own 0)],[Ab 5 a],[]⟩
def x4(g f h:Int)(b:LX)(k:Int)(a:LB):Option R_:=H.e P_ [r,r,l,r,d] (t4 g f h b k a)
theorem e6:x6=SF:=by kernel_rfl
theorem i4(g f h:Int)(b:LX):∀(q:Nat) (k:Int) (a:LB),z4 q (t4 g f h b k a)=Ki g f h b q k a:=
 ind (λ_ _=>by kernel_rfl) λq ih k a=>Eq.trans (b:=Tr x6 (λk a=>(z4 q) (t4 g f h b k a)) g f h b k a) (by kernel_rfl) (by simp only[e6,ih]<;>rfl)
theorem e4:x4=SE:=by funext g f h b k a;exact Eq.trans (by kernel_rfl) ((i4 g f h b Cl k a).trans (by rw[Ar];rfl))
def F:=u4 Fk
theorem rn x:H.u P_ x=F x:=Eq.trans (b:=u4 (DP x4) x) (by kernel_rfl) (by simp only[e4]<;>rfl)
def c:Con:=⟨H.p,H.r,F⟩
theorem ok:ConOk P_ gl 145 c:=co H func145 (.cons F236.ok .nil) rn
end F145
namespace F232
abbrev R_:=Int
def H:Hd:=⟨[.lf (.list (.cons .str (.cons (.list (.int .u8)) .nil))) none],[Si],(.seq .d (.seq .d (.cut [3] [] (.seq .d (.blk (.loop [0,3,4] [] .d))) .d))),⟨[],gl,false⟩,[],f232⟩
def t4(b:List (LB×LB×Unit))(a f:Int):S:=⟨[(0,.val (.list (.cons .str (.cons (.list (.int .u8)) .nil))) b),(3,vi a),(4,vi f)],[],[]⟩
def z4:Nat->S->Option R_:=H.i P_ [r,r,l,r,d]
def x6(a:Int):Option R_:=H.e P_ [r,r,r] ⟨[(3,vi a)],[],[]⟩
def x4(b:List (LB×LB×Unit))(a f:Int):Option R_:=H.e P_ [r,r,l,r,d] (t4 b a f)
theorem e6:x6=CV:=by kernel_rfl
theorem i4(b:List (LB×LB×Unit)):∀(q:Nat) (a f:Int),z4 q (t4 b a f)=Kf b q a f:=
 ind (λ_ _=>by kernel_rfl) λq ih a f=>Eq.trans (b:=Nh x6 (λa f=>(z4 q) (t4 b a f)) b a f) (by kernel_rfl) (by simp only[e6,ih]<;>rfl)
theorem e4:x4=BS:=by funext b a f;exact Eq.trans (by kernel_rfl) ((i4 b Cl a f).trans (by rw[Ar];rfl))
def F:=BI
theorem rn x:H.u P_ x=F x:=Eq.trans (b:=DT x4 x) (by kernel_rfl) (by simp only[e4]<;>rfl)
def c:Con:=⟨H.p,H.r,F⟩
theorem ok:ConOk P_ gl 232 c:=co H func232 .nil rn
end F232
namespace F142
abbrev R_:=LB
def H:Hd:=⟨[Ss,.lf (.list (.cons .str (.cons (.list (.int .u8)) .nil))) none],[Ob 5],(.seq .d (.seq .d (.seq .d (.cut [5] [] (.seq .d (.blk (.loop [1,5,6] [] .d))) .d)))),⟨[(215,F215.c),(232,F232.c)],gl,false⟩,[],f142⟩
def t4(a:List (LB×LB×Unit))(b:Int)(f:LB):S:=⟨[(1,.val (.list (.cons .str (.cons (.list (.int .u8)) .nil))) a),(5,.own 0),(6,vi b)],[Ab 5 f],[]⟩
def z4:Nat->S->Option R_:=H.i P_ [r,r,r,l,r,d]
def x6(f:LB):Option R_:=H.e P_ [r,r,r,r] ⟨[(5,.own 0)],[Ab 5 f],[]⟩
def x4(a:List (LB×LB×Unit))(b:Int)(f:LB):Option R_:=H.e P_ [r,r,r,l,r,d] (t4 a b f)
theorem e6:x6=Zo:=by kernel_rfl
theorem i4(a:List (LB×LB×Unit)):∀(q:Nat) (b:Int) (f:LB),z4 q (t4 a b f)=Ge a q b f:=
 ind (λ_ _=>by kernel_rfl) λq ih b f=>Eq.trans (b:=Rb x6 (λb f=>(z4 q) (t4 a b f)) a b f) (by kernel_rfl) (by simp only[e6,ih]<;>rfl)
theorem e4:x4=Zj:=by funext a b f;exact Eq.trans (by kernel_rfl) ((i4 a Cl b f).trans (by rw[Ar];rfl))
def F:=u2 Er
theorem rn x:H.u P_ x=F x:=Eq.trans (b:=u2 (AG x4) x) (by kernel_rfl) (by simp only[e4]<;>rfl)
def c:Con:=⟨H.p,H.r,F⟩
theorem ok:ConOk P_ gl 142 c:=co H func142 (.cons F215.ok (.cons F232.ok .nil)) rn
end F142
namespace F76
def Xu(f g h:Int)(k:LX):Option (LB):=
(λu:Option (LB)=>
both (
both (
(Qs f g h k).bind λ(n,o,p)=>
both (
(Lc n o p).bind λm=>
(λv:Option (LB)=>
both (
v) [
both (
v) [
(Fk f g h k).bind λa=>
(λw:Option (LB)=>
bo (
w)) (
(Er ([87,65,86,69]:LB) ([(([102,109,116,32]:LB),m,()),(([100,97,116,97]:LB),a,())]:List (LB×LB×Unit))).bind λb=>
some b)]]) (
(Fk f g h k).bind λa=>
(Er ([87,65,86,69]:LB) ([(([102,109,116,32]:LB),m,()),(([100,97,116,97]:LB),a,())]:List (LB×LB×Unit))).bind λb=>
some b)) [
(Lc n o p).bind λm=>
both (
(Fk f g h k).bind λa=>
(Er ([87,65,86,69]:LB) ([(([102,109,116,32]:LB),m,()),(([100,97,116,97]:LB),a,())]:List (LB×LB×Unit))).bind λb=>
some b) [
(Fk f g h k).bind λa=>
(λy:Option (LB)=>
bo (
y)) (
(Er ([87,65,86,69]:LB) ([(([102,109,116,32]:LB),m,()),(([100,97,116,97]:LB),a,())]:List (LB×LB×Unit))).bind λb=>
some b)]]) [
u]) [
u]) (
(Qs f g h k).bind λ(n,o,p)=>
(Lc n o p).bind λm=>
both (
(Fk f g h k).bind λa=>
(Er ([87,65,86,69]:LB) ([(([102,109,116,32]:LB),m,()),(([100,97,116,97]:LB),a,())]:List (LB×LB×Unit))).bind λb=>
some b) [
(Fk f g h k).bind λa=>
(λaa:Option (LB)=>
bo (
aa)) (
(Er ([87,65,86,69]:LB) ([(([102,109,116,32]:LB),m,()),(([100,97,116,97]:LB),a,())]:List (LB×LB×Unit))).bind λb=>
some b)])
theorem YQ: @Xu= @Hh:=by
  unfold Xu Hh
  try simp only[NZ,Zd,AH]
  all_goals
    repeat (refine funext λ_=>?_)
    repeat' first
      |with_reducible rfl
      |with_reducible refine Gn ?_ ?_
      |with_reducible refine Gi ?_ ?_ ?_
      |with_reducible refine Gp ?_ ?_ ?_ ?_
      |((with_reducible refine Km ?_ ?_);focus (intro h;first|(subst h;rfl)|(simp only[h];rfl)|(simp[Cz,Ac,h];done)))
      |with_reducible refine Kk λx=>?_
      |with_reducible refine Pr (λ_=>?_) (λ_=>?_)
      |(refine Du (λh=>by simp only[h,Kl,Cy,Cu,ite_self]) (λx h=>?_);(try simp only[h,Cy]))
      |(refine Et (λh=>?_) (λh=>?_)<;>simp only[h,if_true,if_false,Bool.false_eq_true])
def H:Hd:=⟨[.agg [Si,Si,Si,Sw]],[Ob 5],(.seq .d (.seq (.mode false) .d)),⟨[(142,F142.c),(143,F143.c),(144,F144.c),(145,F145.c)],gl,false⟩,[],f76⟩
def F:=u4 Hh
theorem rn x:H.u P_ x=F x:=Eq.trans (b:=u4 Xu x) (by kernel_rfl) (by rw[YQ];rfl)
def c:Con:=⟨H.p,H.r,F⟩
theorem ok:ConOk P_ gl 76 c:=co H func76 (.cons F142.ok (.cons F143.ok (.cons F144.ok (.cons F145.ok .nil)))) rn
end F76
namespace F34
def H:Hd:=⟨[Sb,Ss],[Ob 5,Si],.d,⟨[(32,F32.c),(76,F76.c)],gl,false⟩,[],f34⟩
def F:=u2 Mu
theorem rn x:H.u P_ x=F x:=by kernel_rfl
def c:Con:=⟨H.p,H.r,F⟩
theorem ok:ConOk P_ gl 34 c:=co H func34 (.cons F32.ok (.cons F76.ok .nil)) rn
end F34
namespace F87
abbrev R_:=Bool
def H:Hd:=⟨[Sw,Sw],[Sz],(.seq .d (.seq .d (.cut [] [] (.seq .d (.blk (.loop [0,1,5] [] .d))) .d))),⟨[],gl,false⟩,[],f87⟩
def t4(a b:LX)(f:Int):S:=⟨[(0,vw a),(1,vw b),(5,vi f)],[],[]⟩
def z4:Nat->S->Option R_:=H.i P_ [r,r,l,r,d]
def x6:Option R_:=H.e P_ [r,r,r] ⟨[],[],[]⟩
def x4(a b:LX)(f:Int):Option R_:=H.e P_ [r,r,l,r,d] (t4 a b f)
theorem e6:x6=SI:=by kernel_rfl
theorem i4(a b:LX):∀(q:Nat) (f:Int),z4 q (t4 a b f)=Kc a b q f:=
 ind (λ_=>by kernel_rfl) λq ih f=>Eq.trans (b:=Tm x6 (λf=>(z4 q) (t4 a b f)) a b f) (by kernel_rfl) (by simp only[e6,ih]<;>rfl)
theorem e4:x4=RA:=by funext a b f;exact Eq.trans (by kernel_rfl) ((i4 a b Cl f).trans (by rw[Ar];rfl))
def F:=u2 BB
theorem rn x:H.u P_ x=F x:=Eq.trans (b:=u2 (CC x4) x) (by kernel_rfl) (by simp only[e4]<;>rfl)
def c:Con:=⟨H.p,H.r,F⟩
theorem ok:ConOk P_ gl 87 c:=co H func87 .nil rn
end F87
namespace F35
def H:Hd:=⟨[.agg [Si,Si,Si,Sw],.agg [Si,Si,Si,Sw]],[Sz],.d,⟨[(87,F87.c)],gl,false⟩,[],f35⟩
def F:=u8 BJ
theorem rn x:H.u P_ x=F x:=by kernel_rfl
def c:Con:=⟨H.p,H.r,F⟩
theorem ok:ConOk P_ gl 35 c:=co H func35 (.cons F87.ok .nil) rn
end F35
namespace F6
def H:Hd:=⟨[Sb,Ss],[Sz],.d,⟨[(30,F30.c),(31,F31.c),(32,F32.c),(33,F33.c),(34,F34.c),(35,F35.c)],gl,false⟩,[],f6⟩
def F:=u2 Pu
theorem rn x:H.u P_ x=F x:=by kernel_rfl
def c:Con:=⟨H.p,H.r,F⟩
theorem ok:ConOk P_ gl 6 c:=co H func6 (.cons F30.ok (.cons F31.ok (.cons F32.ok (.cons F33.ok (.cons F34.ok (.cons F35.ok .nil)))))) rn
end F6
end
end Go.Proofs.YtjjeabieimfcpaaGreatDoor
