/- A part of a proof (see the text that ends in Proof). No conditions. -/
import Derived.Test.YtgomgobgfhhahaaGreatDoorCnHA
set_option linter.unusedVariables false
set_option linter.unusedSimpArgs false
set_option maxRecDepth 10000
namespace Go.Proofs.YtgomgobgfhhahaaGreatDoor
open Go Go.Lv Go.Pl Go.Rx Go.Rx.PS
noncomputable section
def g0:List Value:=[.int .i64 2,.int .i64 2,.int .i64 2,.int .i64 4,.int .i64 4]
def g1:List Value:=[.bool true,.int .i64 0]
def g2:List Value:=[.bool false,.int .i64 0]
def g3:List Value:=[.int .u8 0,.int .u8 1,.int .u8 56,.int .u8 2,.int .u8 57,.int .u8 49,.int .u8 28,.int .u8 3,.int .u8 61,.int .u8 58,.int .u8 42,.int .u8 50,.int .u8 38,.int .u8 29,.int .u8 17,.int .u8 4,.int .u8 62,.int .u8 47,.int .u8 59,.int .u8 36,.int .u8 45,.int .u8 43,.int .u8 51,.int .u8 22,.int .u8 53,.int .u8 39,.int .u8 33,.int .u8 30,.int .u8 24,.int .u8 18,.int .u8 12,.int .u8 5,.int .u8 63,.int .u8 55,.int .u8 48,.int .u8 27,.int .u8 60,.int .u8 41,.int .u8 37,.int .u8 16,.int .u8 46,.int .u8 35,.int .u8 44,.int .u8 21,.int .u8 52,.int .u8 32,.int .u8 23,.int .u8 11,.int .u8 54,.int .u8 26,.int .u8 40,.int .u8 15,.int .u8 34,.int .u8 20,.int .u8 31,.int .u8 10,.int .u8 25,.int .u8 14,.int .u8 19,.int .u8 9,.int .u8 13,.int .u8 8,.int .u8 7,.int .u8 6]
def gl:List (Nat×List Value):=[(0,g0),(1,g1),(2,g2),(3,g3)]
theorem mixed:Tryz.prog.follows .mixedOrders=true:=by kernel_rfl
noncomputable abbrev P_:=Tryz.prog
theorem cr(H:Hd){f:Nat}{F:CW (Te H.p)->Option (CW (Te H.r))}(hf:P_.funcs[f]? =some H.f)(hT:HZ P_ H.T)(hA:∀p∈H.s,Ent P_ p.1)(h:∀x,H.u P_ x=F x)(hb:okH H=true:=by kernel_rfl):ConOk P_ H.T.gl f ⟨H.p,H.r,F⟩:=Hd.con mixed H hf hT hA hb h
theorem co(H:Hd){f:Nat}{F:CW (Te H.p)->Option (CW (Te H.r))}(hf:P_.funcs[f]? =some H.f)(hT:HZ P_ H.T)(h:∀x,H.u P_ x=F x)(hb:(H.s.isEmpty&&okH H)=true:=by kernel_rfl):ConOk P_ H.T.gl f ⟨H.p,H.r,F⟩:=Hd.Axd mixed H hf hT hb h
theorem ent40:Ent Tryz.prog 40:=Ent.mk Tryz.func40 (by kernel_rfl) rfl
theorem ent62:Ent Tryz.prog 62:=Ent.mk Tryz.func62 (by kernel_rfl) rfl
theorem ent71:Ent Tryz.prog 71:=Ent.mk Tryz.func71 (by kernel_rfl) rfl
theorem ent74:Ent Tryz.prog 74:=Ent.mk Tryz.func74 (by kernel_rfl) rfl
theorem ent84:Ent Tryz.prog 84:=Ent.mk Tryz.func84 (by kernel_rfl) rfl
theorem ent86:Ent Tryz.prog 86:=Ent.mk Tryz.func86 (by kernel_rfl) rfl
theorem ent98:Ent Tryz.prog 98:=Ent.mk Tryz.func98 (by kernel_rfl) rfl
theorem ent109:Ent Tryz.prog 109:=Ent.mk Tryz.func109 (by kernel_rfl) rfl
theorem ent110:Ent Tryz.prog 110:=Ent.mk Tryz.func110 (by kernel_rfl) rfl
theorem ent111:Ent Tryz.prog 111:=Ent.mk Tryz.func111 (by kernel_rfl) rfl
theorem ent124:Ent Tryz.prog 124:=Ent.mk Tryz.func124 (by kernel_rfl) rfl
theorem ent146:Ent Tryz.prog 146:=Ent.mk Tryz.func146 (by kernel_rfl) rfl
theorem ent147:Ent Tryz.prog 147:=Ent.mk Tryz.func147 (by kernel_rfl) rfl
theorem ent155:Ent Tryz.prog 155:=Ent.mk Tryz.func155 (by kernel_rfl) rfl
theorem ent166:Ent Tryz.prog 166:=Ent.mk Tryz.func166 (by kernel_rfl) rfl
theorem ent167:Ent Tryz.prog 167:=Ent.mk Tryz.func167 (by kernel_rfl) rfl
theorem ent171:Ent Tryz.prog 171:=Ent.mk Tryz.func171 (by kernel_rfl) rfl
theorem ent178:Ent Tryz.prog 178:=Ent.mk Tryz.func178 (by kernel_rfl) rfl
theorem ent179:Ent Tryz.prog 179:=Ent.mk Tryz.func179 (by kernel_rfl) rfl
theorem ent180:Ent Tryz.prog 180:=Ent.mk Tryz.func180 (by kernel_rfl) rfl
theorem ent184:Ent Tryz.prog 184:=Ent.mk Tryz.func184 (by kernel_rfl) rfl
theorem ent189:Ent Tryz.prog 189:=Ent.mk Tryz.func189 (by kernel_rfl) rfl
theorem ent197:Ent Tryz.prog 197:=Ent.mk Tryz.func197 (by kernel_rfl) rfl
theorem ent201:Ent Tryz.prog 201:=Ent.mk Tryz.func201 (by kernel_rfl) rfl
theorem ent204:Ent Tryz.prog 204:=Ent.mk Tryz.func204 (by kernel_rfl) rfl
theorem ent205:Ent Tryz.prog 205:=Ent.mk Tryz.func205 (by kernel_rfl) rfl
abbrev u2{A B R:Type}(f:A->B->R)(x:A×B):=f x.1 x.2
abbrev u3{A B C R:Type}(f:A->B->C->R):=u2 λa=>u2 (f a)
abbrev u4{A B C D R:Type}(f:A->B->C->D->R):=u2 λa=>u3 (f a)
abbrev u5{A B C D E R:Type}(f:A->B->C->D->E->R):=u2 λa=>u4 (f a)
abbrev u6{A B C D E F R:Type}(f:A->B->C->D->E->F->R):=u2 λa=>u5 (f a)
abbrev u7{A B C D E F G R:Type}(f:A->B->C->D->E->F->G->R):=u2 λa=>u6 (f a)
abbrev u8{A B C D E F G H R:Type}(f:A->B->C->D->E->F->G->H->R):=u2 λa=>u7 (f a)
abbrev u9{A B C D E F G H I R:Type}(f:A->B->C->D->E->F->G->H->I->R):=u2 λa=>u8 (f a)
abbrev u10{A B C D E F G H I J R:Type}(f:A->B->C->D->E->F->G->H->I->J->R):=u2 λa=>u9 (f a)
abbrev u11{A B C D E F G H I J K R:Type}(f:A->B->C->D->E->F->G->H->I->J->K->R):=u2 λa=>u10 (f a)
abbrev u12{A B C D E F G H I J K L R:Type}(f:A->B->C->D->E->F->G->H->I->J->K->L->R):=u2 λa=>u11 (f a)
abbrev u13{A B C D E F G H I J K L M R:Type}(f:A->B->C->D->E->F->G->H->I->J->K->L->M->R):=u2 λa=>u12 (f a)
open Go.Proofs.Tryz
namespace F26
abbrev R_:=(LI×Int)
def H:Hd:=⟨[Si,Sq],[Ol 3,Si],(.seq .d (.seq .d (.seq .d (.seq .d (.cut [6] [] (.seq .d (.blk (.loop [0,1,6,7,15,16] [⟨6,[],.own 3 (.int .i64)⟩] .d))) .d))))),⟨[],gl,false⟩,[],f26⟩
def t4(f:Int)(g:UInt64)(h a:Int)(b:LI):S:=⟨[(0,vi f),(1,vq g),(6,.own 0),(7,vi h),(15,vi f),(16,vi a)],[Ai 3 b],[]⟩
def z4:Nat->S->Option R_:=H.i P_ [r,r,r,r,l,r,d]
def x6(b:LI):Option R_:=H.e P_ [r,r,r,r,r] ⟨[(6,.own 0)],[Ai 3 b],[]⟩
def x4(f:Int)(g:UInt64)(h a:Int)(b:LI):Option R_:=H.e P_ [r,r,r,r,l,r,d] (t4 f g h a b)
theorem e6:x6=ZI:=by kernel_rfl
theorem i4(f:Int)(g:UInt64):∀(q:Nat) (h a:Int) (b:LI),z4 q (t4 f g h a b)=Mp f g q h a b:=
 ind (λ_ _ _=>by kernel_rfl) λq ih h a b=>Eq.trans (b:=Xl x6 (λh a b=>(z4 q) (t4 f g h a b)) f g h a b) (by kernel_rfl) (by simp only[e6,ih]<;>rfl)
theorem e4:x4=JM:=by funext f g h a b;exact Eq.trans (by kernel_rfl) ((i4 f g Dc h a b).trans (by rw[Ax];rfl))
def F:=u2 Hc
theorem rn x:H.u P_ x=F x:=Eq.trans (b:=u2 (IH x4) x) (by kernel_rfl) (by simp only[e4]<;>rfl)
def c:Con:=⟨H.p,H.r,F⟩
theorem ok:ConOk P_ gl 26 c:=co H func26 .nil rn
end F26
namespace F65
abbrev R_:=Bool
def H:Hd:=⟨[Sl,Sl],[Sz],(.seq .d (.seq .d (.cut [] [] (.seq .d (.blk (.loop [0,1,5] [] .d))) .d))),⟨[],gl,false⟩,[],f65⟩
def t4(a b:LI)(f:Int):S:=⟨[(0,vl a),(1,vl b),(5,vi f)],[],[]⟩
def z4:Nat->S->Option R_:=H.i P_ [r,r,l,r,d]
def x6:Option R_:=H.e P_ [r,r,r] ⟨[],[],[]⟩
def x4(a b:LI)(f:Int):Option R_:=H.e P_ [r,r,l,r,d] (t4 a b f)
theorem e6:x6=Zj:=by kernel_rfl
theorem i4(a b:LI):∀(q:Nat) (f:Int),z4 q (t4 a b f)=Pv a b q f:=
 ind (λ_=>by kernel_rfl) λq ih f=>Eq.trans (b:=Zk x6 (λf=>(z4 q) (t4 a b f)) a b f) (by kernel_rfl) (by simp only[e6,ih]<;>rfl)
theorem e4:x4=Zt:=by funext a b f;exact Eq.trans (by kernel_rfl) ((i4 a b Dc f).trans (by rw[Ax];rfl))
def F:=u2 HU
theorem rn x:H.u P_ x=F x:=Eq.trans (b:=u2 (Zo x4) x) (by kernel_rfl) (by simp only[e4]<;>rfl)
def c:Con:=⟨H.p,H.r,F⟩
theorem ok:ConOk P_ gl 65 c:=co H func65 .nil rn
end F65
namespace F25
def H:Hd:=⟨[Si,Sq,Sl],[Sz],.d,⟨[(26,F26.c),(65,F65.c)],gl,false⟩,[],f25⟩
def F:=u3 Ag
theorem rn x:H.u P_ x=F x:=by kernel_rfl
def c:Con:=⟨H.p,H.r,F⟩
theorem ok:ConOk P_ gl 25 c:=co H func25 (.cons F26.ok (.cons F65.ok .nil)) rn
end F25
namespace F116
def H:Hd:=⟨[Si],[Si,Si],.d,⟨[],gl,false⟩,[],f116⟩
def F:=Rm
theorem rn x:H.u P_ x=F x:=by kernel_rfl
def c:Con:=⟨H.p,H.r,F⟩
theorem ok:ConOk P_ gl 116 c:=co H func116 .nil rn
end F116
namespace F60
abbrev R_:=(Int32×Int32×Int)
def H:Hd:=⟨[Si],[Sx,Sx,Si],(.seq .d (.seq (.seq .d (.blk (.cut [0,7] [] .d .d))) .d)),⟨[],gl,false⟩,[],f60⟩
def x2(a:Int)(b:Bool):Option R_:=H.e P_ [r,l,r,d,r] ⟨[(0,vi a),(7,vt b)],[],[]⟩
theorem e2:x2=iT:=by kernel_rfl
def F:=CV
theorem rn x:H.u P_ x=F x:=Eq.trans (b:=iI x2 x) (by kernel_rfl) (by simp only[e2]<;>rfl)
def c:Con:=⟨H.p,H.r,F⟩
theorem ok:ConOk P_ gl 60 c:=co H func60 .nil rn
end F60
namespace F92
def H:Hd:=⟨[.agg [Si,Si]],[Si],.d,⟨[(60,F60.c)],gl,false⟩,[],f92⟩
def F:=u2 Pq
theorem rn x:H.u P_ x=F x:=by kernel_rfl
def c:Con:=⟨H.p,H.r,F⟩
theorem ok:ConOk P_ gl 92 c:=co H func92 (.cons F60.ok .nil) rn
end F92
namespace F68
def H:Hd:=⟨[.agg [Si,Si],Si,Ss],[Si,Sz],.d,⟨[(92,F92.c),(116,F116.c)],gl,false⟩,[],f68⟩
def F:=u4 YD
theorem rn x:H.u P_ x=F x:=by kernel_rfl
def c:Con:=⟨H.p,H.r,F⟩
theorem ok:ConOk P_ gl 68 c:=co H func68 (.cons F92.ok (.cons F116.ok .nil)) rn
end F68
namespace F30
def H:Hd:=⟨[.agg [Si,Si],Si,Ss],[.agg [.agg [Si,Si],Si,Ss,Ob 5,Ow 21,.lf (.list (.list (.int .u8))) (some 25),Ob 5,Sz,Si],Si],.d,⟨[(68,F68.c)],gl,false⟩,[],f30⟩
def F:=u4 wV
theorem rn x:H.u P_ x=F x:=by kernel_rfl
def c:Con:=⟨H.p,H.r,F⟩
theorem ok:ConOk P_ gl 30 c:=co H func30 (.cons F68.ok .nil) rn
end F30
namespace F70
def H:Hd:=⟨[.agg [Si,Si]],[Si],.d,⟨[],gl,false⟩,[],f70⟩
def F:=u2 UO
theorem rn x:H.u P_ x=F x:=by kernel_rfl
def c:Con:=⟨H.p,H.r,F⟩
theorem ok:ConOk P_ gl 70 c:=co H func70 .nil rn
end F70
namespace F59
abbrev R_:=Int
def H:Hd:=⟨[Si,Sw],[Si],(.seq .d (.seq .d (.seq .d (.seq .d (.cut [] [] (.seq .d (.blk (.loop [5,6,22,23,24] [] .d))) .d))))),⟨[(60,F60.c)],gl,false⟩,[],f59⟩
def t4(b f:Int32)(a:LX)(g:Int):S:=⟨[(5,vx b),(6,vx f),(22,vw a),(23,vi (Ac a)),(24,vi g)],[],[]⟩
def z4:Nat->S->Option R_:=H.i P_ [r,r,r,r,l,r,d]
def x6:Option R_:=H.e P_ [r,r,r,r,r] ⟨[],[],[]⟩
def x4(b f:Int32)(a:LX)(g:Int):Option R_:=H.e P_ [r,r,r,r,l,r,d] (t4 b f a g)
theorem e6:x6=lB:=by kernel_rfl
theorem i4(b f:Int32)(a:LX):∀(q:Nat) (g:Int),z4 q (t4 b f a g)=Qn b f a q g:=
 ind (λ_=>by kernel_rfl) λq ih g=>Eq.trans (b:=GR x6 (λg=>(z4 q) (t4 b f a g)) b f a g) (by kernel_rfl) (by simp only[e6,ih]<;>rfl)
theorem e4:x4=iM:=by funext b f a g;exact Eq.trans (by kernel_rfl) ((i4 b f a Dc g).trans (by rw[Ax];rfl))
def F:=u2 Rk
theorem rn x:H.u P_ x=F x:=Eq.trans (b:=u2 (TP x4) x) (by kernel_rfl) (by simp only[e4]<;>rfl)
def c:Con:=⟨H.p,H.r,F⟩
theorem ok:ConOk P_ gl 59 c:=co H func59 (.cons F60.ok .nil) rn
end F59
namespace F73
def H:Hd:=⟨[.agg [.agg [Si,Si],Si,Ss,Sb,Sw,.lf (.list (.list (.int .u8))) none,Sb,Sz,Si],Si],[Si],.d,⟨[],gl,false⟩,[],f73⟩
def F:=u11 KB
theorem rn x:H.u P_ x=F x:=by kernel_rfl
def c:Con:=⟨H.p,H.r,F⟩
theorem ok:ConOk P_ gl 73 c:=co H func73 .nil rn
end F73
namespace F72
def H:Hd:=⟨[.agg [.agg [Si,Si],Si,Ss,Sb,Sw,.lf (.list (.list (.int .u8))) none,Sb,Sz,Si],Si,Si],[Sz],.d,⟨[],gl,false⟩,[],f72⟩
def F:=u12 cM
theorem rn x:H.u P_ x=F x:=by kernel_rfl
def c:Con:=⟨H.p,H.r,F⟩
theorem ok:ConOk P_ gl 72 c:=co H func72 .nil rn
end F72
namespace F148
abbrev R_:=Bool
abbrev K_:=S->Option R_
def H:Hd:=⟨[.agg [.agg [Si,Si],Si,Ss,Sb,Sw,.lf (.list (.list (.int .u8))) none,Sb,Sz,Si],Si],[Sz],(.seq .d (.seq .d (.cut [1,2,5] [] .d (.seq .d (.seq .d (.cut [1,2,5,6] [] .d (.cut [1,2,5] [] .d (.seq .d (.cut [4] [] (.keep [4,80,81] true) .d))))))))),⟨[(59,F59.c),(70,F70.c),(72,F72.c),(73,F73.c)],gl,false⟩,[(179,(.seq .d (.cut [4] [] (.keep [4,7,8] true) .d))),(180,.d),(197,(.seq .d (.cut [] [] (.seq .d (.blk (.loop [0,1,7,8] [] (.seq .d (.seq .d (.cut [0,1,7,8] [] (.blk (.seq .d (.cut [0,1,5,7,8,16] [] (.keep [0,1,5,7,8,16] true) .d))) .d)))))) .d)))],f148⟩
def t16(b:List LB)(f a g:Int):S:=⟨[(0,.val (.list (.list (.int .u8))) b),(1,.fn 180 [.ptr 0 []]),(7,vi (Ac b)),(8,vi g)],[.box 3 (vi (Ad (By (Ad (Bj (Bj (81:Int) f) a) (7:Int)) (8:Int)) (4:Int)))],[[(4,vt false)],[]]⟩
def z16:Nat->S->Option R_:=H.i P_ [r,r,r,r,r,r,r,r,l,(call 3 179),r,l,(call 2 197),r,l,r,d]
def x24(w:Bool):Option R_:=H.e P_ [r,r,r,r,r,r,r,r,r] ⟨[(4,vt (!w))],[],[]⟩
def x23(w:Bool):Option R_:=H.e P_ [r,r,r,r,r,r,r,r,l,(call 3 179),r,r] ⟨[(4,vt w)],[],[[]]⟩
def x22:Option R_:=H.e P_ [r,r,r,r,r,r,r,r,l,(call 3 179),r,l,(call 2 197),r,r] ⟨[],[],[[(4,vt false)],[]]⟩
def x20(Ch:K_)(b:List LB)(f a g:Int):Option R_:=H.e P_ [r,r,r,r,r,r,r,r,l,(call 3 179),r,l,(call 2 197),r,l,r,d,(lp Ch),r,r,r] ⟨[(0,.val (.list (.list (.int .u8))) b),(1,.fn 180 [.ptr 0 []]),(7,vi (Ac b)),(8,vi g)],[.box 3 (vi (Ad (By (Ad (Bj (Bj (81:Int) f) a) (7:Int)) (8:Int)) (4:Int)))],[[(4,vt false)],[]]⟩
def x19(Ch:K_)(b:List LB)(f a g:Int)(y:LB):Option R_:=H.e P_ [r,r,r,r,r,r,r,r,l,(call 3 179),r,l,(call 2 197),r,l,r,d,(lp Ch),r,r,l,d,r,r] ⟨[(0,.val (.list (.list (.int .u8))) b),(1,.fn 180 [.ptr 0 []]),(5,vi g),(7,vi (Ac b)),(8,vi g),(16,vt ((Bt (Ac y) (5:Int))||(Dx (Ac y) (Ad (By (Ad (Bj (Bj (81:Int) f) a) (7:Int)) (8:Int)) (4:Int)))))],[.box 3 (vi (Ad (By (Ad (Bj (Bj (81:Int) f) a) (7:Int)) (8:Int)) (4:Int)))],[[(4,vt false)],[]]⟩
def x16(b:List LB)(f a g:Int):Option R_:=H.e P_ [r,r,r,r,r,r,r,r,l,(call 3 179),r,l,(call 2 197),r,l,r,d] (t16 b f a g)
def x15(f a k o:Int)(p m:LB)(h:LX)(b:List LB)(n:LB)(u:Bool)(v:Int):Option R_:=H.e P_ [r,r,r,r,r,r,r] ⟨[(1,vi f),(2,.ptr 0 []),(5,vi a)],[.box 66 (.agg [.agg [vi a,vi k],vi o,vs p,vb m,vw h,.val (.list (.list (.int .u8))) b,vb n,vt u,vi v])],[]⟩
def x14(f a k o:Int)(p m:LB)(h:LX)(b:List LB)(n:LB)(u:Bool)(v aa:Int):Option R_:=H.e P_ [r,r,r,r,r,r] ⟨[(1,vi f),(2,.ptr 0 []),(5,vi a),(6,vi aa)],[.box 66 (.agg [.agg [vi a,vi k],vi o,vs p,vb m,vw h,.val (.list (.list (.int .u8))) b,vb n,vt u,vi v])],[]⟩
def x13(f a k o:Int)(p m:LB)(h:LX)(b:List LB)(n:LB)(u:Bool)(v:Int):Option R_:=H.e P_ [r,r,r] ⟨[(1,vi f),(2,.ptr 0 []),(5,vi a)],[.box 66 (.agg [.agg [vi a,vi k],vi o,vs p,vb m,vw h,.val (.list (.list (.int .u8))) b,vb n,vt u,vi v])],[]⟩
theorem e24:x24=OT:=by kernel_rfl
theorem e23:x23=Yr:=Eq.trans (b:=PA x24) (by kernel_rfl) (by simp only[e24]<;>rfl)
theorem e22:x22=OV:=Eq.trans (b:=PH x23) (by kernel_rfl) (by simp only[e23]<;>rfl)
theorem e20(Ch:K_)(b:List LB)(f a:Int):x20 Ch b f a=OU (λg=>Ch (t16 b f a g)) b f a:=by kernel_rfl
theorem e19(Ch:K_)(b:List LB)(f a:Int):x19 Ch b f a=PW (λg=>Ch (t16 b f a g)) b f a:=Eq.trans (b:=PY x23 (x20 Ch b f a) b f a) (by kernel_rfl) (by simp only[e23,e20]<;>rfl)
theorem i16(b:List LB)(f a:Int):∀(q:Nat) (g:Int),z16 q (t16 b f a g)=Yo b f a q g:=
 ind (λ_=>by kernel_rfl) λq ih g=>Eq.trans (b:=OY (x19 (z16 q) b f a) x22 b f a g) (by kernel_rfl) (by simp only[e19,e22,ih]<;>rfl)
theorem e16:x16=PN:=by funext b f a g;exact Eq.trans (by kernel_rfl) ((i16 b f a Dc g).trans (by rw[Ax];rfl))
theorem e15:x15=PF:=Eq.trans (b:=ON x16) (by kernel_rfl) (by simp only[e16]<;>rfl)
theorem e14:x14=PM:=Eq.trans (b:=QC x15) (by kernel_rfl) (by simp only[e15]<;>rfl)
theorem e13:x13=PB:=Eq.trans (b:=PL x14) (by kernel_rfl) (by simp only[e14]<;>rfl)
def F:=u11 eU
theorem rn x:H.u P_ x=F x:=Eq.trans (b:=u11 (SE x13) x) (by kernel_rfl) (by simp only[e13]<;>rfl)
def c:Con:=⟨H.p,H.r,F⟩
theorem ok:ConOk P_ gl 148 c:=cr H func148 (.cons F59.ok (.cons F70.ok (.cons F72.ok (.cons F73.ok .nil)))) (Dv.cons ent179 (Dv.cons ent180 (Dv.cons ent197 Dv.nil))) rn
end F148
namespace F105
def H:Hd:=⟨[.agg [.agg [Si,Si],Si,Ss,Sb,Sw,.lf (.list (.list (.int .u8))) none,Sb,Sz,Si]],[Si],.d,⟨[(68,F68.c),(148,F148.c)],gl,false⟩,[],f105⟩
def F:=u10 YA
theorem rn x:H.u P_ x=F x:=by kernel_rfl
def c:Con:=⟨H.p,H.r,F⟩
theorem ok:ConOk P_ gl 105 c:=co H func105 (.cons F68.ok (.cons F148.ok .nil)) rn
end F105
namespace F107
def Nf(a:LB):Option (LB):=
O5 a (
some ([]:LB)) (
(De ([]:LB) a).bind λb=>
some b)
theorem LV: @Nf= @Cq:=by
  unfold Nf Cq
  repeat (refine funext λ_=>?_)
  repeat' first
    |with_reducible rfl
    |with_reducible refine Nn ?_ ?_
    |with_reducible refine My ?_ ?_ ?_
    |with_reducible refine Mw ?_ ?_ ?_ ?_
    |((with_reducible refine Rq ?_ ?_);focus (intro h;first|(subst h;rfl)|(simp only[h];rfl)|(simp[De,Ac,h];done)))
    |with_reducible refine Sr λx=>?_
    |with_reducible refine AK (λ_=>?_) (λ_=>?_)
    |(refine Hp (λh=>by simp only[h,Ro,Es,El,ite_self]) (λx h=>?_);(try simp only[h,Es]))
    |(refine Ki (λh=>?_) (λh=>?_)<;>simp only[h,if_true,if_false,Bool.false_eq_true])
def H:Hd:=⟨[Sb],[Ob 5],.d,⟨[],gl,false⟩,[],f107⟩
def F:=Cq
theorem rn x:H.u P_ x=F x:=Eq.trans (b:=Nf x) (by kernel_rfl) (by rw[LV];rfl)
def c:Con:=⟨H.p,H.r,F⟩
theorem ok:ConOk P_ gl 107 c:=co H func107 .nil rn
end F107
namespace F149
def Lr(a:LX):Option (LX):=
O5 a (
some ([]:LX)) (
(De ([]:LX) a).bind λb=>
some b)
theorem HA: @Lr= @Dw:=by
  unfold Lr Dw
  repeat (refine funext λ_=>?_)
  repeat' first
    |with_reducible rfl
    |with_reducible refine Nn ?_ ?_
    |with_reducible refine My ?_ ?_ ?_
    |with_reducible refine Mw ?_ ?_ ?_ ?_
    |((with_reducible refine Rq ?_ ?_);focus (intro h;first|(subst h;rfl)|(simp only[h];rfl)|(simp[De,Ac,h];done)))
    |with_reducible refine Sr λx=>?_
    |with_reducible refine AK (λ_=>?_) (λ_=>?_)
    |(refine Hp (λh=>by simp only[h,Ro,Es,El,ite_self]) (λx h=>?_);(try simp only[h,Es]))
    |(refine Ki (λh=>?_) (λh=>?_)<;>simp only[h,if_true,if_false,Bool.false_eq_true])
def H:Hd:=⟨[Sw],[Ow 21],.d,⟨[],gl,false⟩,[],f149⟩
def F:=Dw
theorem rn x:H.u P_ x=F x:=Eq.trans (b:=Lr x) (by kernel_rfl) (by rw[HA];rfl)
def c:Con:=⟨H.p,H.r,F⟩
theorem ok:ConOk P_ gl 149 c:=co H func149 .nil rn
end F149
namespace F106
abbrev R_:=(Int×Int×Int×LB×LB×LX×(List LB)×LB×Bool×Int)
def H:Hd:=⟨[.agg [.agg [Si,Si],Si,Ss,Sb,Sw,.lf (.list (.list (.int .u8))) none,Sb,Sz,Si]],[.agg [.agg [Si,Si],Si,Ss,Ob 5,Ow 21,.lf (.list (.list (.int .u8))) (some 25),Ob 5,Sz,Si]],(.seq .d (.cut [1,2] [] .d (.seq .d (.seq .d (.cut [1,2,3] [] (.seq .d (.blk (.loop [1,2,3,26,27] [] .d))) .d))))),⟨[(107,F107.c),(149,F149.c)],gl,false⟩,[],f106⟩
def t6(w a:List LB)(b f g:Int)(h:LB)(k:Bool)(m:Int)(n:LB)(o:LX)(p:LB)(v:Int)(u:List LB):S:=⟨[(1,.ptr 0 []),(2,.ptr 1 []),(3,.own 2),(26,vi (Ac (oO w a))),(27,vi v)],[.box 66 (.agg [.agg [vi b,vi f],vi g,vs h,.own 3,.own 4,.val (.list (.list (.int .u8))) a,.own 5,vt k,vi m]),.box 66 (.agg [.agg [vi 0,vi 0],vi 0,vs ([]:LB),.nils,.nils,.nils,.nils,vt false,vi 0]),.arr 25 (.list (.int .u8)) u,Ab 5 n,Aw 21 o,Ab 5 p],[]⟩
def z6:Nat->S->Option R_:=H.i P_ [r,r,r,r,l,r,d]
def x8(b f g:Int)(h:LB)(a:List LB)(k:Bool)(m:Int)(u:List LB)(n:LB)(o:LX)(p:LB):Option R_:=H.e P_ [r,r,r,r,r] ⟨[(1,.ptr 0 []),(2,.ptr 1 []),(3,.own 2)],[.box 66 (.agg [.agg [vi b,vi f],vi g,vs h,.own 3,.own 4,.val (.list (.list (.int .u8))) a,.own 5,vt k,vi m]),.box 66 (.agg [.agg [vi 0,vi 0],vi 0,vs ([]:LB),.nils,.nils,.nils,.nils,vt false,vi 0]),.arr 25 (.list (.int .u8)) u,Ab 5 n,Aw 21 o,Ab 5 p],[]⟩
def x6(w a:List LB)(b f g:Int)(h:LB)(k:Bool)(m:Int)(n:LB)(o:LX)(p:LB)(v:Int)(u:List LB):Option R_:=H.e P_ [r,r,r,r,l,r,d] (t6 w a b f g h k m n o p v u)
def x5(b f g:Int)(h:LB)(a:List LB)(k:Bool)(m:Int)(n:LB)(o:LX)(p:LB):Option R_:=H.e P_ [r,r] ⟨[(1,.ptr 0 []),(2,.ptr 1 [])],[.box 66 (.agg [.agg [vi b,vi f],vi g,vs h,.own 2,.own 3,.val (.list (.list (.int .u8))) a,.own 4,vt k,vi m]),.box 66 (.agg [.agg [vi 0,vi 0],vi 0,vs ([]:LB),.nils,.nils,.nils,.nils,vt false,vi 0]),Ab 5 n,Aw 21 o,Ab 5 p],[]⟩
theorem e8:x8=eP:=by kernel_rfl
theorem i6(w a:List LB)(b f g:Int)(h:LB)(k:Bool)(m:Int)(n:LB)(o:LX)(p:LB):∀(q:Nat) (v:Int) (u:List LB),z6 q (t6 w a b f g h k m n o p v u)=NU w a b f g h k m n o p q v u:=
 ind (λ_ _=>by kernel_rfl) λq ih v u=>Eq.trans (b:=fH x8 (λv u=>(z6 q) (t6 w a b f g h k m n o p v u)) w a b f g h k m n o p v u) (by kernel_rfl) (by simp only[e8,ih]<;>rfl)
theorem e6:x6=eO:=by funext w a b f g h k m n o p v u;exact Eq.trans (by kernel_rfl) ((i6 w a b f g h k m n o p Dc v u).trans (by rw[Ax];rfl))
theorem e5:x5=eV:=Eq.trans (b:=eQ x6) (by kernel_rfl) (by simp only[e6]<;>rfl)
def F:=u10 dH
theorem rn x:H.u P_ x=F x:=Eq.trans (b:=u10 (fE x5) x) (by kernel_rfl) (by simp only[e5]<;>rfl)
def c:Con:=⟨H.p,H.r,F⟩
theorem ok:ConOk P_ gl 106 c:=co H func106 (.cons F107.ok (.cons F149.ok .nil)) rn
end F106
namespace F69
abbrev R_:=(Int×Int×Int×LB×LB×LX×(List LB)×LB×Bool×Int×Int×Int)
def H:Hd:=⟨[.agg [.agg [Si,Si],Si,Ss,Sb,Sw,.lf (.list (.list (.int .u8))) none,Sb,Sz,Si]],[.agg [.agg [Si,Si],Si,Ss,Ob 5,Ow 21,.lf (.list (.list (.int .u8))) (some 25),Ob 5,Sz,Si],Si,Si],(.seq .d (.seq .d (.seq .d (.cut [1,2,6,7] [] .d .d)))),⟨[(105,F105.c),(106,F106.c),(116,F116.c)],gl,false⟩,[],f69⟩
def x2(u g h b:Int)(k m:LB)(n:LX)(o:List LB)(p:LB)(f:Bool)(a v:Int):Option R_:=H.e P_ [r,r,r,r] ⟨[(1,.ptr 0 []),(2,.ptr 1 []),(6,vi u),(7,vi v)],[.box 66 (.agg [.agg [vi g,vi h],vi b,vs k,vb m,vw n,.val (.list (.list (.int .u8))) o,vb p,vt f,vi a]),.box 66 (.agg [.agg [vi 0,vi 0],vi 0,vs ([]:LB),.nils,.nils,.nils,.nils,vt false,vi 0])],[]⟩
theorem e2:x2=ZV:=by kernel_rfl
def F:=u10 XL
theorem rn x:H.u P_ x=F x:=Eq.trans (b:=u10 (ZD x2) x) (by kernel_rfl) (by simp only[e2]<;>rfl)
def c:Con:=⟨H.p,H.r,F⟩
theorem ok:ConOk P_ gl 69 c:=co H func69 (.cons F105.ok (.cons F106.ok (.cons F116.ok .nil))) rn
end F69
namespace F22
abbrev R_:=(LX×Int)
abbrev K_:=S->Option R_
def H:Hd:=⟨[Si,Sb],[Ow 21,Si],(.seq .d (.seq .d (.seq .d (.seq .d (.seq .d (.seq .d (.cut [10] [] (.seq .d (.blk (.loop [0,1,9,10,11] [⟨10,[],.own 21 (.int .i32)⟩] (.seq .d (.cut [0,1,9,10,11] [] (.blk (.seq .d (.seq .d (.cut [0,1,9,10,11,12] [] (.seq .d (.blk (.loop [0,1,9,10,11,12,53,54] [] .d))) .d)))) .d))))) .d))))))),⟨[(60,F60.c)],gl,false⟩,[],f22⟩
def t25(a:Int)(b:LB)(f:Int)(g:LX)(h:Int32)(k:Int):S:=⟨[(0,vi a),(1,vb b),(9,vi (By a (8:Int))),(10,.own 0),(11,vi f),(12,vx h),(53,vi (By a (8:Int))),(54,vi k)],[Aw 21 g],[]⟩
def z25(Ch:K_):Nat->S->Option R_:=H.i P_ [r,r,r,r,r,r,l,r,d,(lp Ch),r,l,d,r,r,l,r,d]
def t16(a:Int)(b:LB)(f:Int)(g:LX):S:=⟨[(0,vi a),(1,vb b),(9,vi (By a (8:Int))),(10,.own 0),(11,vi f)],[Aw 21 g],[]⟩
def z16:Nat->S->Option R_:=H.i P_ [r,r,r,r,r,r,l,r,d]
def x30(g:LX):Option R_:=H.e P_ [r,r,r,r,r,r,r] ⟨[(10,.own 0)],[Aw 21 g],[]⟩
def x28(Ch:K_)(a:Int)(b:LB)(f:Int)(m:LX):Option R_:=H.e P_ [r,r,r,r,r,r,l,r,d,(lp Ch),r,r] ⟨[(0,vi a),(1,vb b),(9,vi (By a (8:Int))),(10,.own 0),(11,vi f)],[Aw 21 m],[]⟩
def x27(Ch:K_)(a:Int)(b:LB)(f:Int)(h:Int32)(g:LX):Option R_:=H.e P_ [r,r,r,r,r,r,l,r,d,(lp Ch),r,l,d,r,r,r] ⟨[(0,vi a),(1,vb b),(9,vi (By a (8:Int))),(10,.own 0),(11,vi f),(12,vx h)],[Aw 21 g],[]⟩
def x25(Ch:K_)(a:Int)(b:LB)(f:Int)(g:LX)(h:Int32)(k:Int):Option R_:=H.e P_ [r,r,r,r,r,r,l,r,d,(lp Ch),r,l,d,r,r,l,r,d] (t25 a b f g h k)
def x16(a:Int)(b:LB)(f:Int)(g:LX):Option R_:=H.e P_ [r,r,r,r,r,r,l,r,d] (t16 a b f g)
theorem e30:x30=VU:=by kernel_rfl
theorem e28(Ch:K_)(a:Int)(b:LB):x28 Ch a b=GG (λf g=>Ch (t16 a b f g)) a b:=by kernel_rfl
theorem e27(Ch:K_)(a:Int)(b:LB):x27 Ch a b=UX (λf g=>Ch (t16 a b f g)) a b:=Eq.trans (b:=VE (x28 Ch a b) a b) (by kernel_rfl) (by simp only[e28]<;>rfl)
theorem i25(Ch:K_)(a:Int)(b:LB)(f:Int)(g:LX):∀(q:Nat) (h:Int32) (k:Int),z25 Ch q (t25 a b f g h k)=EP (λf g=>Ch (t16 a b f g)) a b f g q h k:=
 ind (λ_ _=>by kernel_rfl) λq ih h k=>Eq.trans (b:=VA (x27 Ch a b) (λh k=>(z25 Ch q) (t25 a b f g h k)) a b f g h k) (by kernel_rfl) (by simp only[e27,ih]<;>rfl)
theorem e25(Ch:K_)(a:Int)(b:LB):x25 Ch a b=VN (λf g=>Ch (t16 a b f g)) a b:=by funext f g h k;exact Eq.trans (by kernel_rfl) ((i25 Ch a b f g Dc h k).trans (by rw[Ax];rfl))
theorem i16(a:Int)(b:LB):∀(q:Nat) (f:Int) (g:LX),z16 q (t16 a b f g)=Vk a b q f g:=
 ind (λ_ _=>by kernel_rfl) λq ih f g=>Eq.trans (b:=WE (x28 (z16 q) a b) (x25 (z16 q) a b) x30 a b f g) (by kernel_rfl) (by simp only[e28,e25,e30,ih]<;>rfl)
theorem e16:x16=VP:=by funext a b f g;exact Eq.trans (by kernel_rfl) ((i16 a b Dc f g).trans (by rw[Ax];rfl))
def F:=u2 oH
theorem rn x:H.u P_ x=F x:=Eq.trans (b:=u2 (ZL x16) x) (by kernel_rfl) (by simp only[e16]<;>rfl)
def c:Con:=⟨H.p,H.r,F⟩
theorem ok:ConOk P_ gl 22 c:=co H func22 (.cons F60.ok .nil) rn
end F22
namespace F103
abbrev R_:=(UInt64×Int)
abbrev K_:=S->Option R_
def H:Hd:=⟨[Sq,Sb],[Sq,Si],(.seq .d (.seq .d (.cut [4,5] [] (.keep [0,1,4,5,9,10,11,12] true) .d))),⟨[],gl,false⟩,[(146,(.seq .d (.cut [1] [] (.seq .d (.blk (.loop [0,1,9,10,11] [] .d))) .d))),(147,(.seq .d (.seq .d (.cut [1] [] (.seq .d (.blk (.loop [1,5] [] (.seq .d (.seq .d (.cut [1,5] [] (.blk (.seq .d (.seq .d (.cut [1,2,3,5] [] (.seq .d (.blk (.loop [1,2,3,5,11] [] .d))) .d)))) .d)))))) .d))))],f103⟩
def t27(a:LB)(b:UInt64)(f:LQ)(h:UInt64)(m:Int):S:=⟨[(0,.ptr 0 []),(1,vq h),(9,vb a),(10,vi (Ac a)),(11,vi m)],[.box 258 (.val (.vec 256 (.int .u64)) f)],[[(0,vq b),(1,vb a),(4,vq 0),(5,vi 0),(9,.ptr 0 []),(10,vq b),(11,vb a)]]⟩
def z27:Nat->S->Option R_:=H.i P_ [r,r,l,(call 3 146),r,l,r,d]
def t21(b:UInt64)(a:LB)(g:Int)(f:LQ)(k:UInt64)(n:Int):S:=⟨[(1,.ptr 0 []),(2,vi g),(3,vq k),(5,vi g),(11,vi n)],[.box 258 (.val (.vec 256 (.int .u64)) f)],[[(0,vq b),(1,vb a),(4,vq 0),(5,vi 0)]]⟩
def z21(Ch:K_):Nat->S->Option R_:=H.i P_ [r,r,l,(call 0 147),r,r,l,r,d,(lp Ch),r,r,l,d,r,r,l,r,d]
def t16(b:UInt64)(a:LB)(g:Int)(f:LQ):S:=⟨[(1,.ptr 0 []),(5,vi g)],[.box 258 (.val (.vec 256 (.int .u64)) f)],[[(0,vq b),(1,vb a),(4,vq 0),(5,vi 0)]]⟩
def z16:Nat->S->Option R_:=H.i P_ [r,r,l,(call 0 147),r,r,l,r,d]
def x30(h:UInt64):Option R_:=H.e P_ [r,r,r] ⟨[(4,vq h),(5,vi 0)],[],[]⟩
def x29(h b:UInt64)(a:LB)(f:LQ):Option R_:=H.e P_ [r,r,l,(call 3 146),r,r] ⟨[(1,vq h)],[.box 258 (.val (.vec 256 (.int .u64)) f)],[[(0,vq b),(1,vb a),(4,vq 0),(5,vi 0),(9,.ptr 0 []),(10,vq b),(11,vb a)]]⟩
def x27(a:LB)(b:UInt64)(f:LQ)(h:UInt64)(m:Int):Option R_:=H.e P_ [r,r,l,(call 3 146),r,l,r,d] (t27 a b f h m)
def x26(b:UInt64)(a:LB)(f:LQ):Option R_:=H.e P_ [r,r,l,(call 0 147),r,r,r] ⟨[(1,.ptr 0 [])],[.box 258 (.val (.vec 256 (.int .u64)) f)],[[(0,vq b),(1,vb a),(4,vq 0),(5,vi 0)]]⟩
def x24(Ch:K_)(b:UInt64)(a:LB)(g:Int)(o:LQ):Option R_:=H.e P_ [r,r,l,(call 0 147),r,r,l,r,d,(lp Ch),r,r,r] ⟨[(1,.ptr 0 []),(5,vi g)],[.box 258 (.val (.vec 256 (.int .u64)) o)],[[(0,vq b),(1,vb a),(4,vq 0),(5,vi 0)]]⟩
def x23(Ch:K_)(b:UInt64)(a:LB)(g:Int)(k:UInt64)(f:LQ):Option R_:=H.e P_ [r,r,l,(call 0 147),r,r,l,r,d,(lp Ch),r,r,l,d,r,r,r] ⟨[(1,.ptr 0 []),(2,vi g),(3,vq k),(5,vi g)],[.box 258 (.val (.vec 256 (.int .u64)) f)],[[(0,vq b),(1,vb a),(4,vq 0),(5,vi 0)]]⟩
def x21(Ch:K_)(b:UInt64)(a:LB)(g:Int)(f:LQ)(k:UInt64)(n:Int):Option R_:=H.e P_ [r,r,l,(call 0 147),r,r,l,r,d,(lp Ch),r,r,l,d,r,r,l,r,d] (t21 b a g f k n)
def x16(b:UInt64)(a:LB)(g:Int)(f:LQ):Option R_:=H.e P_ [r,r,l,(call 0 147),r,r,l,r,d] (t16 b a g f)
theorem e30:x30=TD:=by kernel_rfl
theorem e29:x29=TO:=Eq.trans (b:=TC x30) (by kernel_rfl) (by simp only[e30]<;>rfl)
theorem i27(a:LB)(b:UInt64)(f:LQ):∀(q:Nat) (h:UInt64) (m:Int),z27 q (t27 a b f h m)=Qr a b f q h m:=
 ind (λ_ _=>by kernel_rfl) λq ih h m=>Eq.trans (b:=FD x29 (λh m=>(z27 q) (t27 a b f h m)) a b f h m) (by kernel_rfl) (by simp only[e29,ih]<;>rfl)
theorem e27:x27=RX:=by funext a b f h m;exact Eq.trans (by kernel_rfl) ((i27 a b f Dc h m).trans (by rw[Ax];rfl))
theorem e26:x26=EK:=Eq.trans (b:=UI x27) (by kernel_rfl) (by simp only[e27]<;>rfl)
theorem e24(Ch:K_)(b:UInt64)(a:LB):x24 Ch b a=TR (λg f=>Ch (t16 b a g f)) b a:=by kernel_rfl
theorem e23(Ch:K_)(b:UInt64)(a:LB):x23 Ch b a=GP (λg f=>Ch (t16 b a g f)) b a:=Eq.trans (b:=SZ (x24 Ch b a) b a) (by kernel_rfl) (by simp only[e24]<;>rfl)
theorem i21(Ch:K_)(b:UInt64)(a:LB)(g:Int)(f:LQ):∀(q:Nat) (k:UInt64) (n:Int),z21 Ch q (t21 b a g f k n)=Rb (λg f=>Ch (t16 b a g f)) b a g f q k n:=
 ind (λ_ _=>by kernel_rfl) λq ih k n=>Eq.trans (b:=GY (x23 Ch b a) (λk n=>(z21 Ch q) (t21 b a g f k n)) b a g f k n) (by kernel_rfl) (by simp only[e23,ih]<;>rfl)
theorem e21(Ch:K_)(b:UInt64)(a:LB):x21 Ch b a=RO (λg f=>Ch (t16 b a g f)) b a:=by funext g f k n;exact Eq.trans (by kernel_rfl) ((i21 Ch b a g f Dc k n).trans (by rw[Ax];rfl))
theorem i16(b:UInt64)(a:LB):∀(q:Nat) (g:Int) (f:LQ),z16 q (t16 b a g f)=Ni b a q g f:=
 ind (λ_ _=>by kernel_rfl) λq ih g f=>Eq.trans (b:=GD (x21 (z16 q) b a) x26 b a g f) (by kernel_rfl) (by simp only[e21,e26,ih]<;>rfl)
theorem e16:x16=UK:=by funext b a g f;exact Eq.trans (by kernel_rfl) ((i16 b a Dc g f).trans (by rw[Ax];rfl))
def F:=u2 bT
theorem rn x:H.u P_ x=F x:=Eq.trans (b:=u2 (YC x16) x) (by kernel_rfl) (by simp only[e16]<;>rfl)
def c:Con:=⟨H.p,H.r,F⟩
theorem ok:ConOk P_ gl 103 c:=cr H func103 .nil (Dv.cons ent146 (Dv.cons ent147 Dv.nil)) rn
end F103
namespace F54
def H:Hd:=⟨[Sb],[Sq,Si],.d,⟨[(103,F103.c)],gl,false⟩,[],f54⟩
def F:=aE
theorem rn x:H.u P_ x=F x:=by kernel_rfl
def c:Con:=⟨H.p,H.r,F⟩
theorem ok:ConOk P_ gl 54 c:=co H func54 (.cons F103.ok .nil) rn
end F54
namespace F91
abbrev R_:=LX
def H:Hd:=⟨[Sq],[.lf (.vec 16 (.int .i32)) none],(.seq .d (.seq .d (.cut [2,3] [] (.seq .d (.blk (.loop [0,2,3,5] [] .d))) .d))),⟨[],gl,false⟩,[],f91⟩
def t4(f:UInt64)(b:Int)(a:LX):S:=⟨[(0,vq f),(2,.ptr 0 []),(3,.ptr 1 []),(5,vi b)],[.box 91 (.val (.vec 16 (.int .i32)) (List.replicate 16 (0:Int32))),.box 91 (.val (.vec 16 (.int .i32)) a)],[]⟩
def z4:Nat->S->Option R_:=H.i P_ [r,r,l,r,d]
def x6(a:LX):Option R_:=H.e P_ [r,r,r] ⟨[(2,.ptr 0 []),(3,.ptr 1 [])],[.box 91 (.val (.vec 16 (.int .i32)) (List.replicate 16 (0:Int32))),.box 91 (.val (.vec 16 (.int .i32)) a)],[]⟩
def x4(f:UInt64)(b:Int)(a:LX):Option R_:=H.e P_ [r,r,l,r,d] (t4 f b a)
theorem e6:x6=I0:=by kernel_rfl
theorem i4(f:UInt64):∀(q:Nat) (b:Int) (a:LX),z4 q (t4 f b a)=JV f q b a:=
 ind (λ_ _=>by kernel_rfl) λq ih b a=>Eq.trans (b:=dA x6 (λb a=>(z4 q) (t4 f b a)) f b a) (by kernel_rfl) (by simp only[e6,ih]<;>rfl)
theorem e4:x4=D6:=by funext f b a;exact Eq.trans (by kernel_rfl) ((i4 f Dc b a).trans (by rw[Ax];rfl))
def F:=ny
theorem rn x:H.u P_ x=F x:=Eq.trans (b:=L7 x4 x) (by kernel_rfl) (by simp only[e4]<;>rfl)
def c:Con:=⟨H.p,H.r,F⟩
theorem ok:ConOk P_ gl 91 c:=co H func91 .nil rn
end F91
namespace F47
def H:Hd:=⟨[Ss],[.lf (.vec 16 (.int .i32)) none,Si],.d,⟨[(54,F54.c),(91,F91.c)],gl,false⟩,[],f47⟩
def F:=Ms
theorem rn x:H.u P_ x=F x:=by kernel_rfl
def c:Con:=⟨H.p,H.r,F⟩
theorem ok:ConOk P_ gl 47 c:=co H func47 (.cons F54.ok (.cons F91.ok .nil)) rn
end F47
namespace F158
def H:Hd:=⟨[.agg [Si,Si],Sw],[Si],.d,⟨[(59,F59.c),(92,F92.c)],gl,false⟩,[],f158⟩
def F:=u3 nP
theorem rn x:H.u P_ x=F x:=by kernel_rfl
def c:Con:=⟨H.p,H.r,F⟩
theorem ok:ConOk P_ gl 158 c:=co H func158 (.cons F59.ok (.cons F92.ok .nil)) rn
end F158
namespace F177
def H:Hd:=⟨[Si,Sw],[Si],.d,⟨[],gl,false⟩,[],f177⟩
def F:=u2 aV
theorem rn x:H.u P_ x=F x:=by kernel_rfl
def c:Con:=⟨H.p,H.r,F⟩
theorem ok:ConOk P_ gl 177 c:=co H func177 .nil rn
end F177
namespace F159
abbrev R_:=(LX×Int)
abbrev K_:=S->Option R_
def H:Hd:=⟨[Si,Sw],[Ow 21,Si],(.seq .d (.seq .d (.seq .d (.cut [7] [] (.seq .d (.blk (.loop [0,7,8] [] (.seq .d (.cut [0,7,8] [] (.blk (.keep [0,7,8,24,25,26,27,28,29] true)) .d))))) .d)))),⟨[(149,F149.c),(177,F177.c)],gl,true⟩,[(184,(.seq .d (.cut [0,2] [] (.seq .d (.blk (.loop [0,2,7,8] [] .d))) .d)))],f159⟩
def t17(b a h:Int)(g:LX):S:=⟨[(0,.view true 0 [] (.int .i32) a ((Ad a b)-a)),(2,vi (Ak ((Ad a b)-a) (1:Int))),(7,vi (Ak ((Ad a b)-a) (1:Int))),(8,vi h)],[Aw 21 g],[[(0,vi b),(7,.own 0),(8,vi a),(24,.own 0),(25,vi a),(26,vi a),(27,vi b),(28,vi (Ad a b)),(29,.view true 0 [] (.int .i32) a ((Ad a b)-a))]]⟩
def z17(Gb:K_):Nat->S->Option R_:=H.i P_ [r,r,r,l,r,d,(lp Gb),r,l,d,(call 6 184),r,l,r,d]
def t12(b a:Int)(f:LX):S:=⟨[(0,vi b),(7,.own 0),(8,vi a)],[Aw 21 f],[]⟩
def z12:Nat->S->Option R_:=H.i P_ [r,r,r,l,r,d]
def x22(f:LX):Option R_:=H.e P_ [r,r,r,r] ⟨[(7,.own 0)],[Aw 21 f],[]⟩
def x20(Gb:K_)(b a:Int)(k:LX):Option R_:=H.e P_ [r,r,r,l,r,d,(lp Gb),r,r] ⟨[(0,vi b),(7,.own 0),(8,vi a)],[Aw 21 k],[]⟩
def x19(Gb:K_)(b a:Int)(g:LX):Option R_:=H.e P_ [r,r,r,l,r,d,(lp Gb),r,l,d,(call 6 184),r,r] ⟨[(0,.view true 0 [] (.int .i32) a ((Ad a b)-a)),(2,vi (Ak ((Ad a b)-a) (1:Int)))],[Aw 21 g],[[(0,vi b),(7,.own 0),(8,vi a),(24,.own 0),(25,vi a),(26,vi a),(27,vi b),(28,vi (Ad a b)),(29,.view true 0 [] (.int .i32) a ((Ad a b)-a))]]⟩
def x17(Gb:K_)(b a h:Int)(g:LX):Option R_:=H.e P_ [r,r,r,l,r,d,(lp Gb),r,l,d,(call 6 184),r,l,r,d] (t17 b a h g)
def x12(b a:Int)(f:LX):Option R_:=H.e P_ [r,r,r,l,r,d] (t12 b a f)
theorem e22:x22=wJ:=by kernel_rfl
theorem e20(Gb:K_)(b:Int):x20 Gb b=wE (λa f=>Gb (t12 b a f)) b:=by kernel_rfl
theorem e19(Gb:K_)(b:Int):x19 Gb b=wG (λa f=>Gb (t12 b a f)) b:=Eq.trans (b:=xW (x20 Gb b) b) (by kernel_rfl) (by simp only[e20]<;>rfl)
theorem i17(Gb:K_)(b a:Int):∀(q:Nat) (h:Int) (g:LX),z17 Gb q (t17 b a h g)=iC (λa f=>Gb (t12 b a f)) b a q h g:=
 ind (λ_ _=>by kernel_rfl) λq ih h g=>Eq.trans (b:=vY (x19 Gb b) (λh g=>(z17 Gb q) (t17 b a h g)) b a h g) (by kernel_rfl) (by simp only[e19,ih]<;>rfl)
theorem e17(Gb:K_)(b:Int):x17 Gb b=vZ (λa f=>Gb (t12 b a f)) b:=by funext a h g;exact Eq.trans (by kernel_rfl) ((i17 Gb b a Dc h g).trans (by rw[Ax];rfl))
theorem i12(b:Int):∀(q:Nat) (a:Int) (f:LX),z12 q (t12 b a f)=jH b q a f:=
 ind (λ_ _=>by kernel_rfl) λq ih a f=>Eq.trans (b:=wM (x17 (z12 q) b) x22 b a f) (by kernel_rfl) (by simp only[e17,e22,ih]<;>rfl)
theorem e12:x12=wQ:=by funext b a f;exact Eq.trans (by kernel_rfl) ((i12 b Dc a f).trans (by rw[Ax];rfl))
def F:=u2 Ago
theorem rn x:H.u P_ x=F x:=Eq.trans (b:=u2 (M2 x12) x) (by kernel_rfl) (by simp only[e12]<;>rfl)
def c:Con:=⟨H.p,H.r,F⟩
theorem ok:ConOk P_ gl 159 c:=cr H func159 (.cons F149.ok (.cons F177.ok .nil)) (Dv.cons ent184 Dv.nil) rn
end F159
namespace F173
abbrev R_:=(Int×LX×LX×Int)
def H:Hd:=⟨[Si,.lf (.vec 16 (.int .i32)) none],[.agg [Si,.lf (.vec 16 (.int .i32)) none,.lf (.vec 16 (.int .i32)) none],Si],(.seq .d (.seq .d (.seq (.seq .d (.blk (.cut [4,6,9,11] [] .d .d))) .d))),⟨[],gl,false⟩,[],f173⟩
def x2(a:Int)(b:LX)(f:Bool):Option R_:=H.e P_ [r,r,l,r,d,r] ⟨[(4,.ptr 0 []),(6,.ptr 1 []),(9,vi a),(11,vt f)],[.box 203 (.agg [vi 0,.val (.vec 16 (.int .i32)) (List.replicate 16 (0:Int32)),.val (.vec 16 (.int .i32)) (List.replicate 16 (0:Int32))]),.box 203 (.agg [vi 10,.val (.vec 16 (.int .i32)) b,.val (.vec 16 (.int .i32)) (List.replicate 16 (0:Int32))])],[]⟩
theorem e2:x2=wA:=by kernel_rfl
def F:=u2 rL
theorem rn x:H.u P_ x=F x:=Eq.trans (b:=u2 (xY x2) x) (by kernel_rfl) (by simp only[e2]<;>rfl)
def c:Con:=⟨H.p,H.r,F⟩
theorem ok:ConOk P_ gl 173 c:=co H func173 .nil rn
end F173
namespace F138
def H:Hd:=⟨[Si,.lf (.vec 16 (.int .i32)) none],[.agg [Si,Sx,.agg [Si,.lf (.vec 16 (.int .i32)) none,.lf (.vec 16 (.int .i32)) none]],Si],.d,⟨[(173,F173.c)],gl,false⟩,[],f138⟩
def F:=u2 vF
theorem rn x:H.u P_ x=F x:=by kernel_rfl
def c:Con:=⟨H.p,H.r,F⟩
theorem ok:ConOk P_ gl 138 c:=co H func138 (.cons F173.ok .nil) rn
end F138
namespace F174
def H:Hd:=⟨[.agg [Si,Sx,.agg [Si,.lf (.vec 16 (.int .i32)) none,.lf (.vec 16 (.int .i32)) none]]],[Si],.d,⟨[(173,F173.c)],gl,false⟩,[],f174⟩
def F:=u5 Wf
theorem rn x:H.u P_ x=F x:=by kernel_rfl
def c:Con:=⟨H.p,H.r,F⟩
theorem ok:ConOk P_ gl 174 c:=co H func174 (.cons F173.ok .nil) rn
end F174
namespace F193
def H:Hd:=⟨[Si],[Si,Si],.d,⟨[],gl,false⟩,[],f193⟩
def F:=iR
theorem rn x:H.u P_ x=F x:=by kernel_rfl
def c:Con:=⟨H.p,H.r,F⟩
theorem ok:ConOk P_ gl 193 c:=co H func193 .nil rn
end F193
namespace F194
def H:Hd:=⟨[Si,Sx],[Sx],.d,⟨[],gl,false⟩,[],f194⟩
def F:=u2 VJ
theorem rn x:H.u P_ x=F x:=by kernel_rfl
def c:Con:=⟨H.p,H.r,F⟩
theorem ok:ConOk P_ gl 194 c:=co H func194 .nil rn
end F194
namespace F175
def H:Hd:=⟨[Si,Sx],[Sx,Si],.d,⟨[(193,F193.c),(194,F194.c)],gl,false⟩,[],f175⟩
def F:=u2 Wo
theorem rn x:H.u P_ x=F x:=by kernel_rfl
def c:Con:=⟨H.p,H.r,F⟩
theorem ok:ConOk P_ gl 175 c:=co H func175 (.cons F193.ok (.cons F194.ok .nil)) rn
end F175
namespace F207
def H:Hd:=⟨[.agg [Si,.lf (.vec 16 (.int .i32)) none,.lf (.vec 16 (.int .i32)) none]],[Si],.d,⟨[],gl,false⟩,[],f207⟩
def F:=u3 IN
theorem rn x:H.u P_ x=F x:=by kernel_rfl
def c:Con:=⟨H.p,H.r,F⟩
theorem ok:ConOk P_ gl 207 c:=co H func207 .nil rn
end F207
namespace F195
abbrev R_:=(Int32×Int)
def H:Hd:=⟨[.agg [Si,.lf (.vec 16 (.int .i32)) none,.lf (.vec 16 (.int .i32)) none]],[Sx,Si],(.seq .d (.seq .d (.seq .d (.cut [1,5] [] (.seq .d (.blk (.loop [1,5,18,19] [] .d))) .d)))),⟨[(207,F207.c)],gl,false⟩,[],f195⟩
def t4(b:LX)(a:Int)(f:LX)(g:Int32)(h:Int):S:=⟨[(1,.ptr 0 []),(5,vx g),(18,.val (.vec 16 (.int .i32)) b),(19,vi h)],[.box 203 (.agg [vi a,.val (.vec 16 (.int .i32)) b,.val (.vec 16 (.int .i32)) f])],[]⟩
def z4:Nat->S->Option R_:=H.i P_ [r,r,r,l,r,d]
def x6(g:Int32)(a:Int)(b f:LX):Option R_:=H.e P_ [r,r,r,r] ⟨[(1,.ptr 0 []),(5,vx g)],[.box 203 (.agg [vi a,.val (.vec 16 (.int .i32)) b,.val (.vec 16 (.int .i32)) f])],[]⟩
def x4(b:LX)(a:Int)(f:LX)(g:Int32)(h:Int):Option R_:=H.e P_ [r,r,r,l,r,d] (t4 b a f g h)
theorem e6:x6=XJ:=by kernel_rfl
theorem i4(b:LX)(a:Int)(f:LX):∀(q:Nat) (g:Int32) (h:Int),z4 q (t4 b a f g h)=Tn b a f q g h:=
 ind (λ_ _=>by kernel_rfl) λq ih g h=>Eq.trans (b:=KE x6 (λg h=>(z4 q) (t4 b a f g h)) b a f g h) (by kernel_rfl) (by simp only[e6,ih]<;>rfl)
theorem e4:x4=XQ:=by funext b a f g h;exact Eq.trans (by kernel_rfl) ((i4 b a f Dc g h).trans (by rw[Ax];rfl))
def F:=u3 TE
theorem rn x:H.u P_ x=F x:=Eq.trans (b:=u3 (XS x4) x) (by kernel_rfl) (by simp only[e4]<;>rfl)
def c:Con:=⟨H.p,H.r,F⟩
theorem ok:ConOk P_ gl 195 c:=co H func195 (.cons F207.ok .nil) rn
end F195
namespace F210
def H:Hd:=⟨[Si],[Sx],.d,⟨[],gl,false⟩,[],f210⟩
def F:=ZY
theorem rn x:H.u P_ x=F x:=by kernel_rfl
def c:Con:=⟨H.p,H.r,F⟩
theorem ok:ConOk P_ gl 210 c:=co H func210 .nil rn
end F210
namespace F208
abbrev R_:=(Int×LX×LX×Int)
def H:Hd:=⟨[.agg [Si,.lf (.vec 16 (.int .i32)) none,.lf (.vec 16 (.int .i32)) none],Sx],[.agg [Si,.lf (.vec 16 (.int .i32)) none,.lf (.vec 16 (.int .i32)) none],Si],(.seq .d (.seq .d (.seq .d (.cut [2,4] [] (.seq .d (.blk (.loop [1,2,4,19,20] [] .d))) .d)))),⟨[(207,F207.c),(210,F210.c)],gl,false⟩,[],f208⟩
def t4(h:Int32)(f:LX)(g a:Int)(b:LX):S:=⟨[(1,vx h),(2,.ptr 0 []),(4,.ptr 1 []),(19,.val (.vec 16 (.int .i32)) f),(20,vi a)],[.box 203 (.agg [vi g,.val (.vec 16 (.int .i32)) b,.val (.vec 16 (.int .i32)) f]),.box 203 (.agg [vi 0,.val (.vec 16 (.int .i32)) (List.replicate 16 (0:Int32)),.val (.vec 16 (.int .i32)) (List.replicate 16 (0:Int32))])],[]⟩
def z4:Nat->S->Option R_:=H.i P_ [r,r,r,l,r,d]
def x6(g:Int)(b f:LX):Option R_:=H.e P_ [r,r,r,r] ⟨[(2,.ptr 0 []),(4,.ptr 1 [])],[.box 203 (.agg [vi g,.val (.vec 16 (.int .i32)) b,.val (.vec 16 (.int .i32)) f]),.box 203 (.agg [vi 0,.val (.vec 16 (.int .i32)) (List.replicate 16 (0:Int32)),.val (.vec 16 (.int .i32)) (List.replicate 16 (0:Int32))])],[]⟩
def x4(h:Int32)(f:LX)(g a:Int)(b:LX):Option R_:=H.e P_ [r,r,r,l,r,d] (t4 h f g a b)
theorem e6:x6=nO:=by kernel_rfl
theorem i4(h:Int32)(f:LX)(g:Int):∀(q:Nat) (a:Int) (b:LX),z4 q (t4 h f g a b)=Tj h f g q a b:=
 ind (λ_ _=>by kernel_rfl) λq ih a b=>Eq.trans (b:=KM x6 (λa b=>(z4 q) (t4 h f g a b)) h f g a b) (by kernel_rfl) (by simp only[e6,ih]<;>rfl)
theorem e4:x4=oD:=by funext h f g a b;exact Eq.trans (by kernel_rfl) ((i4 h f g Dc a b).trans (by rw[Ax];rfl))
def F:=u4 bR
theorem rn x:H.u P_ x=F x:=Eq.trans (b:=u4 (WW x4) x) (by kernel_rfl) (by simp only[e4]<;>rfl)
def c:Con:=⟨H.p,H.r,F⟩
theorem ok:ConOk P_ gl 208 c:=co H func208 (.cons F207.ok (.cons F210.ok .nil)) rn
end F208
namespace F209
def XD(j2:Int32->Int->LX->LX->Option (Int×LX×LX×Int))(b:Int)(f a:LX)(g:Int32):Option (Int×LX×LX×Int):=
(IN b f a).bind λh=>
if(Bd h 0)then
some (0,(List.replicate 16 (0:Int32)),(List.replicate 16 (0:Int32)),h)
else
both (
(nC 16 1 16).bind λ_=>
(nC 16 0 16).bind λ_=>
j2 g b f a) [
(nC 16 0 16).bind λ_=>
(nC 16 1 16).bind λ_=>
j2 g b f a]
theorem uP: @XD= @QT:=by
  unfold XD QT
  repeat (refine funext λ_=>?_)
  repeat' first
    |with_reducible rfl
    |with_reducible refine Nn ?_ ?_
    |with_reducible refine My ?_ ?_ ?_
    |with_reducible refine Mw ?_ ?_ ?_ ?_
    |((with_reducible refine Rq ?_ ?_);focus (intro h;first|(subst h;rfl)|(simp only[h];rfl)|(simp[De,Ac,h];done)))
    |with_reducible refine Sr λx=>?_
    |with_reducible refine AK (λ_=>?_) (λ_=>?_)
    |(refine Hp (λh=>by simp only[h,Ro,Es,El,ite_self]) (λx h=>?_);(try simp only[h,Es]))
    |(refine Ki (λh=>?_) (λh=>?_)<;>simp only[h,if_true,if_false,Bool.false_eq_true])
abbrev R_:=(Int×LX×LX×Int)
def H:Hd:=⟨[.agg [Si,.lf (.vec 16 (.int .i32)) none,.lf (.vec 16 (.int .i32)) none],Sx],[.agg [Si,.lf (.vec 16 (.int .i32)) none,.lf (.vec 16 (.int .i32)) none],Si],(.seq .d (.seq .d (.cut [1,2,4] [] .d .d))),⟨[(207,F207.c)],gl,false⟩,[],f209⟩
def x2(g:Int32)(b:Int)(f a:LX):Option R_:=H.e P_ [r,r,r] ⟨[(1,vx g),(2,.ptr 0 []),(4,.ptr 1 [])],[.box 203 (.agg [vi b,.val (.vec 16 (.int .i32)) f,.val (.vec 16 (.int .i32)) (Ud a (1:Int) ((16:Int)-(1:Int)) (XM a (0:Int) ((16:Int)-(0:Int))))]),.box 203 (.agg [vi 0,.val (.vec 16 (.int .i32)) (List.replicate 16 (0:Int32)),.val (.vec 16 (.int .i32)) (List.replicate 16 (0:Int32))])],[]⟩
theorem e2:x2=cH:=by kernel_rfl
def F:=u4 lX
theorem rn x:H.u P_ x=F x:=Eq.trans (b:=u4 (XD x2) x) (by kernel_rfl) (by unfold F;rw[uP];simp only[e2]<;>rfl)
def c:Con:=⟨H.p,H.r,F⟩
theorem ok:ConOk P_ gl 209 c:=co H func209 (.cons F207.ok .nil) rn
end F209
namespace F196
def H:Hd:=⟨[.agg [Si,.lf (.vec 16 (.int .i32)) none,.lf (.vec 16 (.int .i32)) none],Sx,Sx],[.agg [Si,.lf (.vec 16 (.int .i32)) none,.lf (.vec 16 (.int .i32)) none]],.d,⟨[(208,F208.c),(209,F209.c)],gl,false⟩,[],f196⟩
def F:=u5 dI
theorem rn x:H.u P_ x=F x:=by kernel_rfl
def c:Con:=⟨H.p,H.r,F⟩
theorem ok:ConOk P_ gl 196 c:=co H func196 (.cons F208.ok (.cons F209.ok .nil)) rn
end F196
namespace F185
def H:Hd:=⟨[.agg [Si,.lf (.vec 16 (.int .i32)) none,.lf (.vec 16 (.int .i32)) none],Sx],[Sx,.agg [Si,.lf (.vec 16 (.int .i32)) none,.lf (.vec 16 (.int .i32)) none],Si],.d,⟨[(195,F195.c),(196,F196.c)],gl,false⟩,[],f185⟩
def F:=u4 jC
theorem rn x:H.u P_ x=F x:=by kernel_rfl
def c:Con:=⟨H.p,H.r,F⟩
theorem ok:ConOk P_ gl 185 c:=co H func185 (.cons F195.ok (.cons F196.ok .nil)) rn
end F185
namespace F160
def GW(a:Int)(b:Int32)(f:Int)(g h:LX)(k:Int32):Option (Int32×Int×Int32×Int×LX×LX×Int):=
(Wf a b f g h).bind λm=>
if(Bd m 0)then
some (0,0,0,0,(List.replicate 16 (0:Int32)),(List.replicate 16 (0:Int32)),m)
else
(Wo a b).bind λ(n,y)=>
(jC f g h (Ak k n)).bind λ(o,p,u,v,w)=>
bo (
some (o,a,k,p,u,v,w))
theorem jV: @GW= @KK:=by
  unfold GW KK;simp only[aZ,JK,JR]
def H:Hd:=⟨[.agg [Si,Sx,.agg [Si,.lf (.vec 16 (.int .i32)) none,.lf (.vec 16 (.int .i32)) none]],Sx],[Sx,.agg [Si,Sx,.agg [Si,.lf (.vec 16 (.int .i32)) none,.lf (.vec 16 (.int .i32)) none]],Si],(.seq .d (.seq .d (.seq .d (.seq .d (.seq (.mode false) .d))))),⟨[(174,F174.c),(175,F175.c),(185,F185.c)],gl,false⟩,[],f160⟩
def F:=u6 KK
theorem rn x:H.u P_ x=F x:=Eq.trans (b:=u6 GW x) (by kernel_rfl) (by rw[jV];rfl)
def c:Con:=⟨H.p,H.r,F⟩
theorem ok:ConOk P_ gl 160 c:=co H func160 (.cons F174.ok (.cons F175.ok (.cons F185.ok .nil))) rn
end F160
namespace F161
def H:Hd:=⟨[Sx],[Su],.d,⟨[],gl,false⟩,[],f161⟩
def F:=S9
theorem rn x:H.u P_ x=F x:=by kernel_rfl
def c:Con:=⟨H.p,H.r,F⟩
theorem ok:ConOk P_ gl 161 c:=co H func161 .nil rn
end F161
namespace F121
abbrev R_:=(LU×Int)
def H:Hd:=⟨[.agg [Si,Si],.lf (.vec 16 (.int .i32)) none,Sw],[Ov 137,Si],(.seq .d (.seq .d (.seq .d (.seq .d (.seq .d (.cut [3,9,11] [] (.seq .d (.blk (.loop [3,4,9,11,36] [] .d))) (.seq .d (.cut [13] [] (.seq .d (.blk (.loop [3,11,13,49,50,51] [⟨13,[],.own 137 (.int .u32)⟩] .d))) .d)))))))),⟨[(138,F138.c),(158,F158.c),(159,F159.c),(160,F160.c),(161,F161.c)],gl,false⟩,[],f121⟩
def t10(b:LX)(a f g:Int)(o:List (Int×Int32×(Int×LX×LX×Unit)×Unit))(k:LU):S:=⟨[(3,.ptr 0 []),(11,.ptr 1 []),(13,.own 2),(49,.own 3),(50,vi (Ac b)),(51,vi g)],[.box 41 (.agg [vi a,vi f]),.box 206 (.val (.vec 6 (.cons (.int .i64) (.cons (.int .i32) (.cons (.cons (.int .i64) (.cons (.vec 16 (.int .i32)) (.cons (.vec 16 (.int .i32)) .nil))) .nil)))) o),Av 137 k,Aw 21 b],[]⟩
def z10:Nat->S->Option R_:=H.i P_ [r,r,r,r,r,r,r,l,r,d]
def t7(a f:Int)(m b:LX)(n:Int)(h:List (Int×Int32×(Int×LX×LX×Unit)×Unit)):S:=⟨[(3,.ptr 0 []),(4,.ptr 1 []),(9,.own 2),(11,.ptr 3 []),(36,vi n)],[.box 41 (.agg [vi a,vi f]),.box 91 (.val (.vec 16 (.int .i32)) m),Aw 21 b,.box 206 (.val (.vec 6 (.cons (.int .i64) (.cons (.int .i32) (.cons (.cons (.int .i64) (.cons (.vec 16 (.int .i32)) (.cons (.vec 16 (.int .i32)) .nil))) .nil)))) h)],[]⟩
def z7:Nat->S->Option R_:=H.i P_ [r,r,r,r,r,l,r,d]
def x12(k:LU):Option R_:=H.e P_ [r,r,r,r,r,r,r,r] ⟨[(13,.own 0)],[Av 137 k],[]⟩
def x10(b:LX)(a f g:Int)(o:List (Int×Int32×(Int×LX×LX×Unit)×Unit))(k:LU):Option R_:=H.e P_ [r,r,r,r,r,r,r,l,r,d] (t10 b a f g o k)
def x9(a f:Int)(b:LX)(h:List (Int×Int32×(Int×LX×LX×Unit)×Unit)):Option R_:=H.e P_ [r,r,r,r,r,r] ⟨[(3,.ptr 0 []),(9,.own 1),(11,.ptr 2 [])],[.box 41 (.agg [vi a,vi f]),Aw 21 b,.box 206 (.val (.vec 6 (.cons (.int .i64) (.cons (.int .i32) (.cons (.cons (.int .i64) (.cons (.vec 16 (.int .i32)) (.cons (.vec 16 (.int .i32)) .nil))) .nil)))) h)],[]⟩
def x7(a f:Int)(m b:LX)(n:Int)(h:List (Int×Int32×(Int×LX×LX×Unit)×Unit)):Option R_:=H.e P_ [r,r,r,r,r,l,r,d] (t7 a f m b n h)
theorem e12:x12=TX:=by kernel_rfl
theorem i10(b:LX)(a f:Int):∀(q:Nat) (g:Int) (o:List (Int×Int32×(Int×LX×LX×Unit)×Unit)) (k:LU),z10 q (t10 b a f g o k)=AT b a f q g o k:=
 ind (λ_ _ _=>by kernel_rfl) λq ih g o k=>Eq.trans (b:=SG x12 (λg o k=>(z10 q) (t10 b a f g o k)) b a f g o k) (by kernel_rfl) (by simp only[e12,ih]<;>rfl)
theorem e10:x10=UC:=by funext b a f g o k;exact Eq.trans (by kernel_rfl) ((i10 b a f Dc g o k).trans (by rw[Ax];rfl))
theorem e9:x9=VQ:=Eq.trans (b:=VS x10) (by kernel_rfl) (by simp only[e10]<;>rfl)
theorem i7(a f:Int)(m b:LX):∀(q:Nat) (n:Int) (h:List (Int×Int32×(Int×LX×LX×Unit)×Unit)),z7 q (t7 a f m b n h)=DG a f m b q n h:=
 ind (λ_ _=>by kernel_rfl) λq ih n h=>Eq.trans (b:=VT x9 (λn h=>(z7 q) (t7 a f m b n h)) a f m b n h) (by kernel_rfl) (by simp only[e9,ih]<;>rfl)
theorem e7:x7=WC:=by funext a f m b n h;exact Eq.trans (by kernel_rfl) ((i7 a f m b Dc n h).trans (by rw[Ax];rfl))
def F:=u4 kW
theorem rn x:H.u P_ x=F x:=Eq.trans (b:=u4 (VG x7) x) (by kernel_rfl) (by simp only[e7]<;>rfl)
def c:Con:=⟨H.p,H.r,F⟩
theorem ok:ConOk P_ gl 121 c:=co H func121 (.cons F138.ok (.cons F158.ok (.cons F159.ok (.cons F160.ok (.cons F161.ok .nil))))) rn
end F121
namespace F133
def H:Hd:=⟨[],[.agg [Si,Si,Sq,Sq]],.d,⟨[],gl,false⟩,[],f133⟩
noncomputable def F(x:Unit):=pF
theorem rn x:H.u P_ x=F x:=by kernel_rfl
def c:Con:=⟨H.p,H.r,F⟩
theorem ok:ConOk P_ gl 133 c:=co H func133 .nil rn
end F133
namespace F122
abbrev R_:=((List (Int×Int×UInt64×UInt64×Unit)))
def H:Hd:=⟨[],[.lf (.vec 6 (.cons (.int .i64) (.cons (.int .i64) (.cons (.int .u64) (.cons (.int .u64) .nil))))) none],(.seq .d (.seq .d (.cut [0,1] [] (.seq .d (.blk (.loop [0,1,3] [] .d))) .d))),⟨[(133,F133.c)],gl,false⟩,[],f122⟩
def t4(b:Int)(a:List (Int×Int×UInt64×UInt64×Unit)):S:=⟨[(0,.ptr 0 []),(1,.ptr 1 []),(3,vi b)],[.box 181 (.val (.vec 6 (.cons (.int .i64) (.cons (.int .i64) (.cons (.int .u64) (.cons (.int .u64) .nil))))) (List.replicate 6 ((0:Int),(0:Int),(0:UInt64),(0:UInt64),()))),.box 181 (.val (.vec 6 (.cons (.int .i64) (.cons (.int .i64) (.cons (.int .u64) (.cons (.int .u64) .nil))))) a)],[]⟩
def z4:Nat->S->Option R_:=H.i P_ [r,r,l,r,d]
def x6(a:List (Int×Int×UInt64×UInt64×Unit)):Option R_:=H.e P_ [r,r,r] ⟨[(0,.ptr 0 []),(1,.ptr 1 [])],[.box 181 (.val (.vec 6 (.cons (.int .i64) (.cons (.int .i64) (.cons (.int .u64) (.cons (.int .u64) .nil))))) (List.replicate 6 ((0:Int),(0:Int),(0:UInt64),(0:UInt64),()))),.box 181 (.val (.vec 6 (.cons (.int .i64) (.cons (.int .i64) (.cons (.int .u64) (.cons (.int .u64) .nil))))) a)],[]⟩
def x4(b:Int)(a:List (Int×Int×UInt64×UInt64×Unit)):Option R_:=H.e P_ [r,r,l,r,d] (t4 b a)
theorem e6:x6=WN:=by kernel_rfl
theorem i4:∀(q:Nat) (b:Int) (a:List (Int×Int×UInt64×UInt64×Unit)),z4 q (t4 b a)=DH q b a:=
 ind (λ_ _=>by kernel_rfl) λq ih b a=>Eq.trans (b:=WJ x6 (λb a=>(z4 q) (t4 b a)) b a) (by kernel_rfl) (by simp only[e6,ih]<;>rfl)
theorem e4:x4=UY:=by funext b a;exact Eq.trans (by kernel_rfl) ((i4 Dc b a).trans (by rw[Ax];rfl))
noncomputable def F(x:Unit):=lA
theorem rn x:H.u P_ x=F x:=Eq.trans (b:=WB x4) (by kernel_rfl) (by simp only[e4]<;>rfl)
def c:Con:=⟨H.p,H.r,F⟩
theorem ok:ConOk P_ gl 122 c:=co H func122 (.cons F133.ok .nil) rn
end F122
namespace F136
def H:Hd:=⟨[.agg [Sb,Si]],[Si],.d,⟨[],gl,false⟩,[],f136⟩
def F:=u2 Kh
theorem rn x:H.u P_ x=F x:=by kernel_rfl
def c:Con:=⟨H.p,H.r,F⟩
theorem ok:ConOk P_ gl 136 c:=co H func136 .nil rn
end F136
namespace F162
def SH(j4:Int->Int->UInt64->UInt64->Option Int)(a b:Int)(f g:UInt64):Option Int:=
both (
bo (
j4 a b f g)) [
j4 a b f g]
theorem qW: @SH= @KG:=by
  unfold SH KG
  repeat (refine funext λ_=>?_)
  repeat' first
    |with_reducible rfl
    |with_reducible refine Nn ?_ ?_
    |with_reducible refine My ?_ ?_ ?_
    |with_reducible refine Mw ?_ ?_ ?_ ?_
    |((with_reducible refine Rq ?_ ?_);focus (intro h;first|(subst h;rfl)|(simp only[h];rfl)|(simp[De,Ac,h];done)))
    |with_reducible refine Sr λx=>?_
    |with_reducible refine AK (λ_=>?_) (λ_=>?_)
    |(refine Hp (λh=>by simp only[h,Ro,Es,El,ite_self]) (λx h=>?_);(try simp only[h,Es]))
    |(refine Ki (λh=>?_) (λh=>?_)<;>simp only[h,if_true,if_false,Bool.false_eq_true])
def SN(j3:Int->Int->UInt64->UInt64->Option Int)(a b:Int)(f g:UInt64):Option Int:=
both (
bo (
j3 a b f g)) [
j3 a b f g]
theorem tI: @SN= @KJ:=by
  unfold SN KJ
  repeat (refine funext λ_=>?_)
  repeat' first
    |with_reducible rfl
    |with_reducible refine Nn ?_ ?_
    |with_reducible refine My ?_ ?_ ?_
    |with_reducible refine Mw ?_ ?_ ?_ ?_
    |((with_reducible refine Rq ?_ ?_);focus (intro h;first|(subst h;rfl)|(simp only[h];rfl)|(simp[De,Ac,h];done)))
    |with_reducible refine Sr λx=>?_
    |with_reducible refine AK (λ_=>?_) (λ_=>?_)
    |(refine Hp (λh=>by simp only[h,Ro,Es,El,ite_self]) (λx h=>?_);(try simp only[h,Es]))
    |(refine Ki (λh=>?_) (λh=>?_)<;>simp only[h,if_true,if_false,Bool.false_eq_true])
abbrev R_:=Int
def H:Hd:=⟨[.agg [Si,Si,Sq,Sq]],[Si],(.seq .d (.seq .d (.cut [1,3] [] (.mode false) (.cut [1,3] [] (.mode false) .d)))),⟨[],gl,false⟩,[],f162⟩
def x4(a b:Int)(f g:UInt64):Option R_:=H.e P_ [r,r,r,r] ⟨[(1,.ptr 0 []),(3,.ptr 1 [])],[.box 180 (.agg [vi a,vi b,vq f,vq g]),.box 180 (.agg [vi (Eo (nJ a (0:Int)) (24:Int)),vi (Eo (nJ b (0:Int)) (24:Int)),vq (Eo f (68719476735:UInt64)),vq (Eo g (68719476735:UInt64))])],[]⟩
def x3(a b:Int)(f g:UInt64):Option R_:=H.e P_ [r,r,r] ⟨[(1,.ptr 0 []),(3,.ptr 1 [])],[.box 180 (.agg [vi a,vi b,vq f,vq g]),.box 180 (.agg [vi (Eo (nJ a (0:Int)) (24:Int)),vi (Eo (nJ b (0:Int)) (24:Int)),vq f,vq g])],[]⟩
theorem e4:x4=WZ:=by kernel_rfl
theorem e3:x3=XG:=Eq.trans (b:=SH x4) (by kernel_rfl) (by rw[qW];simp only[e4]<;>rfl)
def F:=u4 UH
theorem rn x:H.u P_ x=F x:=Eq.trans (b:=u4 (SN x3) x) (by kernel_rfl) (by unfold F;rw[tI];simp only[e3]<;>rfl)
def c:Con:=⟨H.p,H.r,F⟩
theorem ok:ConOk P_ gl 162 c:=co H func162 .nil rn
end F162
namespace F163
def H:Hd:=⟨[.agg [Si,Si,Sq,Sq],Su],[Si,Su],.d,⟨[],gl,false⟩,[],f163⟩
def F:=u5 IK
theorem rn x:H.u P_ x=F x:=by kernel_rfl
def c:Con:=⟨H.p,H.r,F⟩
theorem ok:ConOk P_ gl 163 c:=co H func163 .nil rn
end F163
namespace F186
def H:Hd:=⟨[.agg [Sb,Si]],[.agg [Ob 5,Si]],.d,⟨[(107,F107.c)],gl,false⟩,[],f186⟩
def F:=u2 vV
theorem rn x:H.u P_ x=F x:=by kernel_rfl
def c:Con:=⟨H.p,H.r,F⟩
theorem ok:ConOk P_ gl 186 c:=co H func186 (.cons F107.ok .nil) rn
end F186
namespace F164
abbrev R_:=(LB×Int×Int)
abbrev K_:=S->Option R_
def H:Hd:=⟨[.agg [Sb,Si],Sq,Si],[.agg [Ob 5,Si],Si],(.seq .d (.seq .d (.seq .d (.cut [3,6] [] (.keep [1,2,3,6,40,41] true) .d)))),⟨[(136,F136.c),(186,F186.c)],gl,false⟩,[(171,(.blk (.loop [0,1,2] [] (.seq .d (.blk (.cut [0,1,2] [] .d (.seq .d (.cut [0,1,2,7] [] .d .d))))))))],f164⟩
def t15(b:UInt64)(a:Int)(m:UInt64)(h f:Int)(o:LB):S:=⟨[(0,.ptr 0 []),(1,vq m),(2,vi h)],[.box 153 (.agg [.own 2,vi f]),.box 153 (.agg [.nils,vi 0]),Ab 5 o],[[(1,vq b),(2,vi a),(3,.ptr 0 []),(6,.ptr 1 []),(40,vq b),(41,vi a)]]⟩
def z15:Nat->S->Option R_:=H.i P_ [r,r,r,l,(call 2 171),d]
def t22(b:UInt64)(a:Int)(n:UInt64)(k g:Int)(p:LB):S:=⟨[(0,.ptr 0 []),(1,vq n),(2,vi k)],[.box 153 (.agg [.own 2,vi g]),.box 153 (.agg [.nils,vi 0]),Ab 5 p],[[(1,vq b),(2,vi a),(3,.ptr 0 []),(6,.ptr 1 []),(40,vq b),(41,vi a)]]⟩
def z22:Nat->S->Option R_:=H.i P_ [r,r,r,l,(call 2 171),d]
def x21(f:Int)(o:LB):Option R_:=H.e P_ [r,r,r,r] ⟨[(3,.ptr 0 []),(6,.ptr 1 [])],[.box 153 (.agg [.own 2,vi f]),.box 153 (.agg [.nils,vi 0]),Ab 5 o],[]⟩
def x19(R7:K_)(b:UInt64)(a:Int)(m:UInt64)(h f:Int)(w:LB):Option R_:=H.e P_ [r,r,r,l,(call 2 171),d,(lp R7),r,d,r,r,r] ⟨[(0,.ptr 0 []),(1,vq m),(2,vi h),(7,vi (Eo h (Ak (8:Int) (Eb f (7:Int)))))],[.box 153 (.agg [.own 2,vi f]),.box 153 (.agg [.nils,vi 0]),Ab 5 w],[[(1,vq b),(2,vi a),(3,.ptr 0 []),(6,.ptr 1 []),(40,vq b),(41,vi a)]]⟩
def x18(R7:K_)(b:UInt64)(a:Int)(m:UInt64)(h f:Int)(u:LB):Option R_:=H.e P_ [r,r,r,l,(call 2 171),d,(lp R7),r,d,r] ⟨[(0,.ptr 0 []),(1,vq m),(2,vi h)],[.box 153 (.agg [.own 2,vi f]),.box 153 (.agg [.nils,vi 0]),Ab 5 u],[[(1,vq b),(2,vi a),(3,.ptr 0 []),(6,.ptr 1 []),(40,vq b),(41,vi a)]]⟩
def x15(b:UInt64)(a:Int)(m:UInt64)(h f:Int)(o:LB):Option R_:=H.e P_ [r,r,r,l,(call 2 171),d] (t15 b a m h f o)
def x28(g:Int)(p:LB):Option R_:=H.e P_ [r,r,r,r] ⟨[(3,.ptr 0 []),(6,.ptr 1 [])],[.box 153 (.agg [.own 2,vi g]),.box 153 (.agg [.nils,vi 0]),Ab 5 p],[]⟩
def x26(R8:K_)(b:UInt64)(a:Int)(n:UInt64)(k g:Int)(y:LB):Option R_:=H.e P_ [r,r,r,l,(call 2 171),d,(lp R8),r,d,r,r,r] ⟨[(0,.ptr 0 []),(1,vq n),(2,vi k),(7,vi (Eo k (Ak (8:Int) (Eb g (7:Int)))))],[.box 153 (.agg [.own 2,vi g]),.box 153 (.agg [.nils,vi 0]),Ab 5 y],[[(1,vq b),(2,vi a),(3,.ptr 0 []),(6,.ptr 1 []),(40,vq b),(41,vi a)]]⟩
def x25(R8:K_)(b:UInt64)(a:Int)(n:UInt64)(k g:Int)(v:LB):Option R_:=H.e P_ [r,r,r,l,(call 2 171),d,(lp R8),r,d,r] ⟨[(0,.ptr 0 []),(1,vq n),(2,vi k)],[.box 153 (.agg [.own 2,vi g]),.box 153 (.agg [.nils,vi 0]),Ab 5 v],[[(1,vq b),(2,vi a),(3,.ptr 0 []),(6,.ptr 1 []),(40,vq b),(41,vi a)]]⟩
def x22(b:UInt64)(a:Int)(n:UInt64)(k g:Int)(p:LB):Option R_:=H.e P_ [r,r,r,l,(call 2 171),d] (t22 b a n k g p)
theorem e21:x21=sF:=by kernel_rfl
theorem e19(R7:K_)(b:UInt64)(a:Int):x19 R7 b a=tC (λm h f o=>R7 (t15 b a m h f o)) b a:=by kernel_rfl
theorem e18(R7:K_)(b:UInt64)(a:Int):x18 R7 b a=tP (λm h f o=>R7 (t15 b a m h f o)) b a:=Eq.trans (b:=rD (x19 R7 b a) b a) (by kernel_rfl) (by simp only[e19]<;>rfl)
theorem i15(b:UInt64)(a:Int):∀(q:Nat) (m:UInt64) (h f:Int) (o:LB),z15 q (t15 b a m h f o)=dO b a q m h f o:=
 ind (λ_ _ _ _=>by kernel_rfl) λq ih m h f o=>Eq.trans (b:=sO (x18 (z15 q) b a) x21 b a m h f o) (by kernel_rfl) (by simp only[e18,e21,ih]<;>rfl)
theorem e15:x15=sT:=by funext b a m h f o;exact Eq.trans (by kernel_rfl) ((i15 b a Dc m h f o).trans (by rw[Ax];rfl))
theorem e28:x28=sX:=by kernel_rfl
theorem e26(R8:K_)(b:UInt64)(a:Int):x26 R8 b a=rV (λn k g p=>R8 (t22 b a n k g p)) b a:=by kernel_rfl
theorem e25(R8:K_)(b:UInt64)(a:Int):x25 R8 b a=qX (λn k g p=>R8 (t22 b a n k g p)) b a:=Eq.trans (b:=sY (x26 R8 b a) b a) (by kernel_rfl) (by simp only[e26]<;>rfl)
theorem i22(b:UInt64)(a:Int):∀(q:Nat) (n:UInt64) (k g:Int) (p:LB),z22 q (t22 b a n k g p)=bD b a q n k g p:=
 ind (λ_ _ _ _=>by kernel_rfl) λq ih n k g p=>Eq.trans (b:=sK (x25 (z22 q) b a) x28 b a n k g p) (by kernel_rfl) (by simp only[e25,e28,ih]<;>rfl)
theorem e22:x22=tS:=by funext b a n k g p;exact Eq.trans (by kernel_rfl) ((i22 b a Dc n k g p).trans (by rw[Ax];rfl))
def F:=u4 kE
theorem rn x:H.u P_ x=F x:=Eq.trans (b:=u4 (wO x15 x22) x) (by kernel_rfl) (by simp only[e15,e22]<;>rfl)
def c:Con:=⟨H.p,H.r,F⟩
theorem ok:ConOk P_ gl 164 c:=cr H func164 (.cons F136.ok (.cons F186.ok .nil)) (Dv.cons ent171 Dv.nil) rn
end F164
namespace F187
def H:Hd:=⟨[Su,Si],[Sz],.d,⟨[],gl,false⟩,[],f187⟩
def F:=u2 QQ
theorem rn x:H.u P_ x=F x:=by kernel_rfl
def c:Con:=⟨H.p,H.r,F⟩
theorem ok:ConOk P_ gl 187 c:=co H func187 .nil rn
end F187
namespace F202
def H:Hd:=⟨[Si],[Si,Si],.d,⟨[],gl,false⟩,[],f202⟩
def F:=sE
theorem rn x:H.u P_ x=F x:=by kernel_rfl
def c:Con:=⟨H.p,H.r,F⟩
theorem ok:ConOk P_ gl 202 c:=co H func202 .nil rn
end F202
namespace F188
def H:Hd:=⟨[.agg [Sb,Si],Si],[.agg [Ob 5,Si],Si],.d,⟨[(136,F136.c),(164,F164.c),(202,F202.c)],gl,false⟩,[],f188⟩
def F:=u3 xX
theorem rn x:H.u P_ x=F x:=by kernel_rfl
def c:Con:=⟨H.p,H.r,F⟩
theorem ok:ConOk P_ gl 188 c:=co H func188 (.cons F136.ok (.cons F164.ok (.cons F202.ok .nil))) rn
end F188
namespace F165
abbrev R_:=(LB×Int×Int)
def H:Hd:=⟨[.agg [Sb,Si],Su,Si],[.agg [Ob 5,Si],Si],(.seq .d (.seq .d (.seq .d (.seq .d (.cut [3,6,9,10,11] [] .d .d))))),⟨[(136,F136.c),(164,F164.c),(187,F187.c),(188,F188.c)],gl,false⟩,[],f165⟩
def x2(b:LB)(f h:Int)(k:UInt32)(m:Int):Option R_:=H.e P_ [r,r,r,r,r] ⟨[(3,.ptr 0 []),(6,.ptr 1 []),(9,vi h),(10,vu k),(11,vi m)],[.box 153 (.agg [vb b,vi f]),.box 153 (.agg [.nils,vi 0])],[]⟩
theorem e2:x2=oV:=by kernel_rfl
def F:=u4 C8
theorem rn x:H.u P_ x=F x:=Eq.trans (b:=u4 (oU x2) x) (by kernel_rfl) (by simp only[e2]<;>rfl)
def c:Con:=⟨H.p,H.r,F⟩
theorem ok:ConOk P_ gl 165 c:=co H func165 (.cons F136.ok (.cons F164.ok (.cons F187.ok (.cons F188.ok .nil)))) rn
end F165
namespace F123
def OK(k u n:Int)(a:UInt64)(b:UInt32)(o:UInt64)(m:LB):Option (LB×Int×Int×Int×UInt64×UInt64×Int):=
(λaf:Option (LB×Int×Int×Int×UInt64×UInt64×Int)=>
both (
bo (
af)) [
af]) (
some (m,k,u,n,(Ad a (Ak (Ae b:UInt64) (Ce a (GI.toZ (4:UInt64)).toNat))),o,0))
theorem pO: @OK= @RQ:=by
  unfold OK RQ
  try simp only[aZ,JK,JR]
  all_goals
    repeat (refine funext λ_=>?_)
    repeat' first
      |with_reducible rfl
      |with_reducible refine Nn ?_ ?_
      |with_reducible refine My ?_ ?_ ?_
      |with_reducible refine Mw ?_ ?_ ?_ ?_
      |((with_reducible refine Rq ?_ ?_);focus (intro h;first|(subst h;rfl)|(simp only[h];rfl)|(simp[De,Ac,h];done)))
      |with_reducible refine Sr λx=>?_
      |with_reducible refine AK (λ_=>?_) (λ_=>?_)
      |(refine Hp (λh=>by simp only[h,Ro,Es,El,ite_self]) (λx h=>?_);(try simp only[h,Es]))
      |(refine Ki (λh=>?_) (λh=>?_)<;>simp only[h,if_true,if_false,Bool.false_eq_true])
abbrev R_:=(LB×Int×Int×Int×UInt64×UInt64×Int)
def H:Hd:=⟨[.agg [Sb,Si],.agg [Si,Si,Sq,Sq],Su],[.agg [Ob 5,Si],.agg [Si,Si,Sq,Sq],Si],(.seq .d (.cut [2,3,4,6,7] [] .d (.seq .d (.seq .d (.cut [2,3,4,6,7,11] [] .d (.seq .d (.cut [3,4,6,7] [] (.keep [2,3,4,6,7,65] true) (.seq (.mode false) .d)))))))),⟨[(136,F136.c),(162,F162.c),(163,F163.c),(164,F164.c),(165,F165.c)],gl,false⟩,[(166,(.seq .d (.seq .d (.seq .d (.blk (.cut [0,1,4] [] (.blk (.seq .d (.keep [0,1,4,6,18,19,20,21,22,23,24,25] true))) (.cut [] [] (.keep [0,1,4,27,28,29,30,31,32,33,34] true) .d))))))),(189,.d)],f123⟩
def x10(k u n:Int)(a:UInt64)(b:UInt32)(o:UInt64)(m:LB):Option R_:=H.e P_ [r,r,r,r,r,r,r] ⟨[(3,.ptr 0 []),(4,.ptr 1 []),(6,.ptr 2 []),(7,.ptr 3 [])],[.box 153 (.agg [.own 4,vi k]),.box 180 (.agg [vi u,vi n,vq (Ad a (Ak (Ae b:UInt64) (Ce a (GI.toZ (4:UInt64)).toNat))),vq o]),.box 153 (.agg [.nils,vi 0]),.box 180 (.agg [vi 0,vi 0,vq 0,vq 0]),Ab 5 m],[]⟩
def x9(b:UInt32)(k n:Int)(a o:UInt64)(m:LB)(u:Int):Option R_:=H.e P_ [r,r,r,r,r,r,l,(call 1 166),r,r,r,d,r,r] ⟨[],[.box 153 (.agg [.own 4,vi k]),.box 180 (.agg [vi u,vi n,vq (Ad a (Ak (Ae b:UInt64) (Ce a (GI.toZ (4:UInt64)).toNat))),vq o]),.box 153 (.agg [.nils,vi 0]),.box 180 (.agg [vi 0,vi 0,vq 0,vq 0]),Ab 5 m],[[(2,vu b),(3,.ptr 0 []),(4,.ptr 1 []),(6,.ptr 2 []),(7,.ptr 3 []),(65,vu b)]]⟩
def x8(b:UInt32)(f:Int)(a:UInt64)(k:Int)(m:LB)(n:Int)(o:UInt64):Option R_:=H.e P_ [r,r,r,r,r,r,l,(call 1 166),r,r,r,d,r] ⟨[(0,.ptr 0 []),(1,vu b),(4,.fn 189 [])],[.box 180 (.agg [vi f,vi n,vq a,vq o]),.box 153 (.agg [.own 4,vi k]),.box 153 (.agg [.nils,vi 0]),.box 180 (.agg [vi 0,vi 0,vq 0,vq 0]),Ab 5 m],[[(2,vu b),(3,.ptr 1 []),(4,.ptr 0 []),(6,.ptr 2 []),(7,.ptr 3 []),(65,vu b)]]⟩
def x7(b:UInt32)(f h:Int)(a g:UInt64)(y k:Int)(m:LB):Option R_:=H.e P_ [r,r,r,r,r] ⟨[(2,vu b),(3,.ptr 0 []),(4,.ptr 1 []),(6,.ptr 2 []),(7,.ptr 3 []),(11,vi y)],[.box 153 (.agg [.own 4,vi k]),.box 180 (.agg [vi f,vi h,vq a,vq g]),.box 153 (.agg [.nils,vi 0]),.box 180 (.agg [vi 0,vi 0,vq 0,vq 0]),Ab 5 m],[]⟩
def x6(b:UInt32)(v:LB)(w f h:Int)(a g:UInt64):Option R_:=H.e P_ [r,r] ⟨[(2,vu b),(3,.ptr 0 []),(4,.ptr 1 []),(6,.ptr 2 []),(7,.ptr 3 [])],[.box 153 (.agg [vb v,vi w]),.box 180 (.agg [vi f,vi h,vq a,vq g]),.box 153 (.agg [.nils,vi 0]),.box 180 (.agg [vi 0,vi 0,vq 0,vq 0])],[]⟩
theorem e10:x10=kH:=Eq.trans (b:=OK) (by kernel_rfl) (by rw[pO];rfl)
theorem e9:x9=oC:=Eq.trans (b:=oQ x10) (by kernel_rfl) (by simp only[e10]<;>rfl)
theorem e8:x8=nM:=Eq.trans (b:=oB x9) (by kernel_rfl) (by simp only[e9]<;>rfl)
theorem e7:x7=nZ:=Eq.trans (b:=nW x8) (by kernel_rfl) (by simp only[e8]<;>rfl)
theorem e6:x6=nY:=Eq.trans (b:=oL x7) (by kernel_rfl) (by simp only[e7]<;>rfl)
def F:=u7 zH
theorem rn x:H.u P_ x=F x:=Eq.trans (b:=u7 (oI x6) x) (by kernel_rfl) (by simp only[e6]<;>rfl)
def c:Con:=⟨H.p,H.r,F⟩
theorem ok:ConOk P_ gl 123 c:=cr H func123 (.cons F136.ok (.cons F162.ok (.cons F163.ok (.cons F164.ok (.cons F165.ok .nil))))) (Dv.cons ent166 (Dv.cons ent189 Dv.nil)) rn
end F123
namespace F128
abbrev R_:=(UInt32×Int)
abbrev K_:=S->Option R_
def H:Hd:=⟨[Su,Sb],[Su,Si],(.seq .d (.seq .d (.cut [0,1,6] [] (.keep [0,1,6,12] true) (.cut [0] [] (.seq .d (.blk (.loop [0,6,13,14,15] [] .d))) .d)))),⟨[],gl,false⟩,[(167,(.seq .d (.seq .d (.cut [1] [] (.seq .d (.blk (.loop [1,5] [] (.seq .d (.seq .d (.cut [1,5] [] (.blk (.seq .d (.seq .d (.cut [1,2,3,5] [] (.seq .d (.blk (.loop [1,2,3,5,10] [] .d))) .d)))) .d)))))) .d))))],f128⟩
def t28(a:LB)(b:LU)(h:UInt32)(m:Int):S:=⟨[(0,vu h),(6,.ptr 0 []),(13,vb a),(14,vi (Ac a)),(15,vi m)],[.box 272 (.val (.vec 256 (.int .u32)) b)],[]⟩
def z28:Nat->S->Option R_:=H.i P_ [r,r,r,l,r,d]
def t21(f:UInt32)(a:LB)(g:Int)(b:LU)(k:UInt32)(n:Int):S:=⟨[(1,.ptr 0 []),(2,vi g),(3,vu k),(5,vi g),(10,vi n)],[.box 272 (.val (.vec 256 (.int .u32)) b)],[[(0,vu f),(1,vb a)]]⟩
def z21(Ch:K_):Nat->S->Option R_:=H.i P_ [r,r,l,(call 0 167),r,r,l,r,d,(lp Ch),r,r,l,d,r,r,l,r,d]
def t16(f:UInt32)(a:LB)(g:Int)(b:LU):S:=⟨[(1,.ptr 0 []),(5,vi g)],[.box 272 (.val (.vec 256 (.int .u32)) b)],[[(0,vu f),(1,vb a)]]⟩
def z16:Nat->S->Option R_:=H.i P_ [r,r,l,(call 0 167),r,r,l,r,d]
def x30(h:UInt32):Option R_:=H.e P_ [r,r,r,r] ⟨[(0,vu h)],[],[]⟩
def x28(a:LB)(b:LU)(h:UInt32)(m:Int):Option R_:=H.e P_ [r,r,r,l,r,d] (t28 a b h m)
def x27(f:UInt32)(a:LB)(b:LU):Option R_:=H.e P_ [r,r,r] ⟨[(0,vu f),(1,vb a),(6,.ptr 0 [])],[.box 272 (.val (.vec 256 (.int .u32)) b)],[]⟩
def x26(f:UInt32)(a:LB)(b:LU):Option R_:=H.e P_ [r,r,l,(call 0 167),r,r,r] ⟨[(1,.ptr 0 [])],[.box 272 (.val (.vec 256 (.int .u32)) b)],[[(0,vu f),(1,vb a)]]⟩
def x24(Ch:K_)(f:UInt32)(a:LB)(g:Int)(o:LU):Option R_:=H.e P_ [r,r,l,(call 0 167),r,r,l,r,d,(lp Ch),r,r,r] ⟨[(1,.ptr 0 []),(5,vi g)],[.box 272 (.val (.vec 256 (.int .u32)) o)],[[(0,vu f),(1,vb a)]]⟩
def x23(Ch:K_)(f:UInt32)(a:LB)(g:Int)(k:UInt32)(b:LU):Option R_:=H.e P_ [r,r,l,(call 0 167),r,r,l,r,d,(lp Ch),r,r,l,d,r,r,r] ⟨[(1,.ptr 0 []),(2,vi g),(3,vu k),(5,vi g)],[.box 272 (.val (.vec 256 (.int .u32)) b)],[[(0,vu f),(1,vb a)]]⟩
def x21(Ch:K_)(f:UInt32)(a:LB)(g:Int)(b:LU)(k:UInt32)(n:Int):Option R_:=H.e P_ [r,r,l,(call 0 167),r,r,l,r,d,(lp Ch),r,r,l,d,r,r,l,r,d] (t21 f a g b k n)
def x16(f:UInt32)(a:LB)(g:Int)(b:LU):Option R_:=H.e P_ [r,r,l,(call 0 167),r,r,l,r,d] (t16 f a g b)
theorem e30:x30=SJ:=by kernel_rfl
theorem i28(a:LB)(b:LU):∀(q:Nat) (h:UInt32) (m:Int),z28 q (t28 a b h m)=Qw a b q h m:=
 ind (λ_ _=>by kernel_rfl) λq ih h m=>Eq.trans (b:=DK x30 (λh m=>(z28 q) (t28 a b h m)) a b h m) (by kernel_rfl) (by simp only[e30,ih]<;>rfl)
theorem e28:x28=TZ:=by funext a b h m;exact Eq.trans (by kernel_rfl) ((i28 a b Dc h m).trans (by rw[Ax];rfl))
theorem e27:x27=UL:=Eq.trans (b:=RH x28) (by kernel_rfl) (by simp only[e28]<;>rfl)
theorem e26:x26=FI:=Eq.trans (b:=RJ x27) (by kernel_rfl) (by simp only[e27]<;>rfl)
theorem e24(Ch:K_)(f:UInt32)(a:LB):x24 Ch f a=SR (λg b=>Ch (t16 f a g b)) f a:=by kernel_rfl
theorem e23(Ch:K_)(f:UInt32)(a:LB):x23 Ch f a=FL (λg b=>Ch (t16 f a g b)) f a:=Eq.trans (b:=UJ (x24 Ch f a) f a) (by kernel_rfl) (by simp only[e24]<;>rfl)
theorem i21(Ch:K_)(f:UInt32)(a:LB)(g:Int)(b:LU):∀(q:Nat) (k:UInt32) (n:Int),z21 Ch q (t21 f a g b k n)=Re (λg b=>Ch (t16 f a g b)) f a g b q k n:=
 ind (λ_ _=>by kernel_rfl) λq ih k n=>Eq.trans (b:=DS (x23 Ch f a) (λk n=>(z21 Ch q) (t21 f a g b k n)) f a g b k n) (by kernel_rfl) (by simp only[e23,ih]<;>rfl)
theorem e21(Ch:K_)(f:UInt32)(a:LB):x21 Ch f a=TW (λg b=>Ch (t16 f a g b)) f a:=by funext g b k n;exact Eq.trans (by kernel_rfl) ((i21 Ch f a g b Dc k n).trans (by rw[Ax];rfl))
theorem i16(f:UInt32)(a:LB):∀(q:Nat) (g:Int) (b:LU),z16 q (t16 f a g b)=Nk f a q g b:=
 ind (λ_ _=>by kernel_rfl) λq ih g b=>Eq.trans (b:=GV (x21 (z16 q) f a) x26 f a g b) (by kernel_rfl) (by simp only[e21,e26,ih]<;>rfl)
theorem e16:x16=UP:=by funext f a g b;exact Eq.trans (by kernel_rfl) ((i16 f a Dc g b).trans (by rw[Ax];rfl))
def F:=u2 cN
theorem rn x:H.u P_ x=F x:=Eq.trans (b:=u2 (XN x16) x) (by kernel_rfl) (by simp only[e16]<;>rfl)
def c:Con:=⟨H.p,H.r,F⟩
theorem ok:ConOk P_ gl 128 c:=cr H func128 .nil (Dv.cons ent167 Dv.nil) rn
end F128
namespace F82
def H:Hd:=⟨[Sb],[Su,Si],.d,⟨[(128,F128.c)],gl,false⟩,[],f82⟩
def F:=Xo
theorem rn x:H.u P_ x=F x:=by kernel_rfl
def c:Con:=⟨H.p,H.r,F⟩
theorem ok:ConOk P_ gl 82 c:=co H func82 (.cons F128.ok .nil) rn
end F82
namespace F127
def H:Hd:=⟨[Sq,Si],[Sz],.d,⟨[],gl,false⟩,[],f127⟩
def F:=u2 zA
theorem rn x:H.u P_ x=F x:=by kernel_rfl
def c:Con:=⟨H.p,H.r,F⟩
theorem ok:ConOk P_ gl 127 c:=co H func127 .nil rn
end F127
namespace F81
abbrev R_:=(LB×Int)
def H:Hd:=⟨[Sq,Si],[Ob 5,Si],(.seq .d (.seq .d (.seq .d (.seq .d (.cut [6] [] (.seq .d (.blk (.loop [0,6,21,22] [] .d))) .d))))),⟨[(127,F127.c)],gl,false⟩,[],f81⟩
def t4(f:UInt64)(g:LB)(b:Int)(a:LB):S:=⟨[(0,vq f),(6,.own 0),(21,vi (Ac g)),(22,vi b)],[Ab 5 a],[]⟩
def z4:Nat->S->Option R_:=H.i P_ [r,r,r,r,l,r,d]
def x6(a:LB):Option R_:=H.e P_ [r,r,r,r,r] ⟨[(6,.own 0)],[Ab 5 a],[]⟩
def x4(f:UInt64)(g:LB)(b:Int)(a:LB):Option R_:=H.e P_ [r,r,r,r,l,r,d] (t4 f g b a)
theorem e6:x6=jB:=by kernel_rfl
theorem i4(f:UInt64)(g:LB):∀(q:Nat) (b:Int) (a:LB),z4 q (t4 f g b a)=BO f g q b a:=
 ind (λ_ _=>by kernel_rfl) λq ih b a=>Eq.trans (b:=VO x6 (λb a=>(z4 q) (t4 f g b a)) f g b a) (by kernel_rfl) (by simp only[e6,ih]<;>rfl)
theorem e4:x4=jY:=by funext f g b a;exact Eq.trans (by kernel_rfl) ((i4 f g Dc b a).trans (by rw[Ax];rfl))
def F:=u2 Zm
theorem rn x:H.u P_ x=F x:=Eq.trans (b:=u2 (jN x4) x) (by kernel_rfl) (by simp only[e4]<;>rfl)
def c:Con:=⟨H.p,H.r,F⟩
theorem ok:ConOk P_ gl 81 c:=co H func81 (.cons F127.ok .nil) rn
end F81
namespace F118
abbrev R_:=LB
def H:Hd:=⟨[.lf (.list (.list (.int .u8))) none],[Ob 5],(.seq .d (.seq .d (.cut [0,3] [] (.seq .d (.blk (.loop [0,3,9,10,11] [] .d))) (.cut [0,6] [⟨6,[],.own 5 (.int .u8)⟩] (.keep [0,3,6,23,24] true) (.cut [6] [] (.seq .d (.blk (.loop [6,25,26,27] [] .d))) .d))))),⟨[],gl,true⟩,[(155,(.seq .d (.cut [0,1] [] .d .d)))],f118⟩
def t14(a:List LB)(g:Int)(f:LB):S:=⟨[(6,.own 0),(25,.val (.list (.list (.int .u8))) a),(26,vi (Ac a)),(27,vi g)],[Ab 5 f],[]⟩
def z14:Nat->S->Option R_:=H.i P_ [r,r,r,r,l,r,d]
def t9(a:List LB)(b h:Int):S:=⟨[(0,.val (.list (.list (.int .u8))) a),(3,vi b),(9,.val (.list (.list (.int .u8))) a),(10,vi (Ac a)),(11,vi h)],[],[]⟩
def z9:Nat->S->Option R_:=H.i P_ [r,r,l,r,d]
def x16(f:LB):Option R_:=H.e P_ [r,r,r,r,r] ⟨[(6,.own 0)],[Ab 5 f],[]⟩
def x14(a:List LB)(g:Int)(f:LB):Option R_:=H.e P_ [r,r,r,r,l,r,d] (t14 a g f)
def x13(a:List LB)(k:LB):Option R_:=H.e P_ [r,r,r,r] ⟨[(0,.val (.list (.list (.int .u8))) a),(6,.own 0)],[Ab 5 k],[]⟩
def x12(b:Int)(a:List LB):Option R_:=H.e P_ [r,r,r,l,(call 1 155),r,r] ⟨[(0,.nils),(1,vi b)],[],[[(0,.val (.list (.list (.int .u8))) a),(3,vi b),(23,vi b)]]⟩
def x11(a:List LB)(b:Int):Option R_:=H.e P_ [r,r,r] ⟨[(0,.val (.list (.list (.int .u8))) a),(3,vi b)],[],[]⟩
def x9(a:List LB)(b h:Int):Option R_:=H.e P_ [r,r,l,r,d] (t9 a b h)
theorem e16:x16=Up:=by kernel_rfl
theorem i14(a:List LB):∀(q:Nat) (g:Int) (f:LB),z14 q (t14 a g f)=Mg a q g f:=
 ind (λ_ _=>by kernel_rfl) λq ih g f=>Eq.trans (b:=Ul x16 (λg f=>(z14 q) (t14 a g f)) a g f) (by kernel_rfl) (by simp only[e16,ih]<;>rfl)
theorem e14:x14=Vf:=by funext a g f;exact Eq.trans (by kernel_rfl) ((i14 a Dc g f).trans (by rw[Ax];rfl))
theorem e13:x13=Va:=Eq.trans (b:=Vl x14) (by kernel_rfl) (by simp only[e14]<;>rfl)
theorem e12:x12=Vp:=Eq.trans (b:=Uq x13) (by kernel_rfl) (by simp only[e13]<;>rfl)
theorem e11:x11=Vo:=Eq.trans (b:=Un x12) (by kernel_rfl) (by simp only[e12]<;>rfl)
theorem i9(a:List LB):∀(q:Nat) (b h:Int),z9 q (t9 a b h)=Nh a q b h:=
 ind (λ_ _=>by kernel_rfl) λq ih b h=>Eq.trans (b:=Wr x11 (λb h=>(z9 q) (t9 a b h)) a b h) (by kernel_rfl) (by simp only[e11,ih]<;>rfl)
theorem e9:x9=Wi:=by funext a b h;exact Eq.trans (by kernel_rfl) ((i9 a Dc b h).trans (by rw[Ax];rfl))
def F:=Lh
theorem rn x:H.u P_ x=F x:=Eq.trans (b:=Xb x9 x) (by kernel_rfl) (by simp only[e9]<;>rfl)
def c:Con:=⟨H.p,H.r,F⟩
theorem ok:ConOk P_ gl 118 c:=cr H func118 .nil (Dv.cons ent155 Dv.nil) rn
end F118
namespace F78
abbrev R_:=(LB×Int)
abbrev K_:=S->Option R_
def H:Hd:=⟨[.agg [Si,Si],.lf (.vec 16 (.int .i32)) none,Sw],[Ob 5,Si],(.seq .d (.seq .d (.seq .d (.seq .d (.seq .d (.cut [11] [] (.seq .d (.blk (.loop [3,10,11,30,31,32] [⟨11,[0],.own 5 (.int .u8)⟩] (.seq .d (.seq .d (.cut [3,10,11,30,31,32] [] (.blk (.seq .d (.seq .d (.seq .d (.seq .d (.keep [3,10,11,14,30,31,32,59] true)))))) .d)))))) .d)))))),⟨[(81,F81.c),(82,F82.c),(118,F118.c),(121,F121.c),(122,F122.c),(123,F123.c)],gl,false⟩,[(124,(.seq .d (.seq .d (.blk (.loop [0,3,7,8] [] (.seq .d (.seq .d (.seq (.blk (.seq .d (.cut [0,3,4,7,8] [] .d (.seq .d (.cut [0,3,7,8] [] .d .d))))) .d))))))))],f78⟩
def t44(a:LU)(b f h g:Int)(k:List (Int×Int×UInt64×UInt64×Unit))(m:LB)(o n:Int)(v:LB):S:=⟨[(0,.ptr 0 []),(3,.ptr 1 []),(7,vi h),(8,vi o)],[.box 153 (.agg [.own 7,vi n]),.box 153 (.agg [.own 6,vi h]),.box 41 (.agg [vi b,vi f]),.box 181 (.val (.vec 6 (.cons (.int .i64) (.cons (.int .i64) (.cons (.int .u64) (.cons (.int .u64) .nil))))) k),.box 153 (.agg [.own 6,vi h]),Av 137 a,Ab 5 m,Ab 5 v],[[(3,.ptr 2 []),(10,.ptr 3 []),(11,.ptr 0 []),(14,.ptr 4 []),(30,.own 5),(31,vi (Ac a)),(32,vi g),(59,.agg [.own 6,vi h])]]⟩
def z44(Kr:K_):Nat->S->Option R_:=H.i P_ [r,r,r,r,r,l,r,d,(lp Kr),r,r,l,d,r,r,r,r,(call 1 124),r,r,d]
def t27(a:LU)(b f g:Int)(w:List (Int×Int×UInt64×UInt64×Unit))(u:Int)(p:LB):S:=⟨[(3,.ptr 0 []),(10,.ptr 1 []),(11,.ptr 2 []),(30,.own 3),(31,vi (Ac a)),(32,vi g)],[.box 41 (.agg [vi b,vi f]),.box 181 (.val (.vec 6 (.cons (.int .i64) (.cons (.int .i64) (.cons (.int .u64) (.cons (.int .u64) .nil))))) w),.box 153 (.agg [.own 4,vi u]),Av 137 a,Ab 5 p],[]⟩
def z27:Nat->S->Option R_:=H.i P_ [r,r,r,r,r,l,r,d]
def x52(u:Int)(p:LB):Option R_:=H.e P_ [r,r,r,r,r,r] ⟨[(11,.ptr 0 [])],[.box 153 (.agg [.own 1,vi u]),Ab 5 p],[]⟩
def x50(Kr:K_)(a:LU)(b f g:Int)(k:List (Int×Int×UInt64×UInt64×Unit))(n:Int)(v:LB):Option R_:=H.e P_ [r,r,r,r,r,l,r,d,(lp Kr),r,r,r] ⟨[(3,.ptr 0 []),(10,.ptr 1 []),(11,.ptr 2 []),(30,.own 3),(31,vi (Ac a)),(32,vi g)],[.box 41 (.agg [vi b,vi f]),.box 181 (.val (.vec 6 (.cons (.int .i64) (.cons (.int .i64) (.cons (.int .u64) (.cons (.int .u64) .nil))))) k),.box 153 (.agg [.own 4,vi n]),Av 137 a,Ab 5 v],[]⟩
def x48(Kr YH:K_)(h:Int)(a:LU)(g b f:Int)(k:List (Int×Int×UInt64×UInt64×Unit))(m:LB)(o n:Int)(aa:LB):Option R_:=H.e P_ [r,r,r,r,r,l,r,d,(lp Kr),r,r,l,d,r,r,r,r,(call 1 124),r,r,d,(lp YH),r,r,l,d,r,r,r,r] ⟨[(0,.ptr 0 []),(3,.ptr 1 []),(7,vi h),(8,vi o)],[.box 153 (.agg [.own 7,vi n]),.box 153 (.agg [.own 6,vi h]),.box 41 (.agg [vi b,vi f]),.box 181 (.val (.vec 6 (.cons (.int .i64) (.cons (.int .i64) (.cons (.int .u64) (.cons (.int .u64) .nil))))) k),.box 153 (.agg [.own 6,vi h]),Av 137 a,Ab 5 m,Ab 5 aa],[[(3,.ptr 2 []),(10,.ptr 3 []),(11,.ptr 0 []),(14,.ptr 4 []),(30,.own 5),(31,vi (Ac a)),(32,vi g),(59,.agg [.own 6,vi h])]]⟩
def x47(Kr YH:K_)(h:Int)(a:LU)(g b f:Int)(k:List (Int×Int×UInt64×UInt64×Unit))(m:LB)(o n:Int)(y:LB):Option R_:=H.e P_ [r,r,r,r,r,l,r,d,(lp Kr),r,r,l,d,r,r,r,r,(call 1 124),r,r,d,(lp YH),r,r,l,d,r,r] ⟨[(0,.ptr 0 []),(3,.ptr 1 []),(4,vi o),(7,vi h),(8,vi o)],[.box 153 (.agg [.own 7,vi n]),.box 153 (.agg [.own 6,vi h]),.box 41 (.agg [vi b,vi f]),.box 181 (.val (.vec 6 (.cons (.int .i64) (.cons (.int .i64) (.cons (.int .u64) (.cons (.int .u64) .nil))))) k),.box 153 (.agg [.own 6,vi h]),Av 137 a,Ab 5 m,Ab 5 y],[[(3,.ptr 2 []),(10,.ptr 3 []),(11,.ptr 0 []),(14,.ptr 4 []),(30,.own 5),(31,vi (Ac a)),(32,vi g),(59,.agg [.own 6,vi h])]]⟩
def x44(Kr:K_)(a:LU)(b f h g:Int)(k:List (Int×Int×UInt64×UInt64×Unit))(m:LB)(o n:Int)(v:LB):Option R_:=H.e P_ [r,r,r,r,r,l,r,d,(lp Kr),r,r,l,d,r,r,r,r,(call 1 124),r,r,d] (t44 a b f h g k m o n v)
def x27(a:LU)(b f g:Int)(w:List (Int×Int×UInt64×UInt64×Unit))(u:Int)(p:LB):Option R_:=H.e P_ [r,r,r,r,r,l,r,d] (t27 a b f g w u p)
theorem e52:x52=RG:=by kernel_rfl
theorem e50(Kr:K_)(a:LU)(b f:Int):x50 Kr a b f=RP (λg w u p=>Kr (t27 a b f g w u p)) a b f:=by kernel_rfl
theorem e48(Kr YH:K_)(a:LU)(b f h g:Int)(k:List (Int×Int×UInt64×UInt64×Unit))(m:LB):x48 Kr YH h a g b f k m=SP (λo n v=>YH (t44 a b f h g k m o n v)) h a g b f k m:=by kernel_rfl
theorem e47(Kr YH:K_)(a:LU)(b f h g:Int)(k:List (Int×Int×UInt64×UInt64×Unit))(m:LB):x47 Kr YH h a g b f k m=TH (λo n v=>YH (t44 a b f h g k m o n v)) h a g b f k m:=Eq.trans (b:=UE (x48 Kr YH h a g b f k m) h a g b f k m) (by kernel_rfl) (by simp only[e48]<;>rfl)
theorem i44(Kr:K_)(a:LU)(b f h g:Int)(k:List (Int×Int×UInt64×UInt64×Unit))(m:LB):∀(q:Nat) (o n:Int) (v:LB),z44 Kr q (t44 a b f h g k m o n v)=BD (λg w u p=>Kr (t27 a b f g w u p)) a b f h g k m q o n v:=
 ind (λ_ _ _=>by kernel_rfl) λq ih o n v=>Eq.trans (b:=TT (x47 Kr (z44 Kr q) h a g b f k m) (x50 Kr a b f) a b f h g k m o n v) (by kernel_rfl) (by simp only[e47,e50,ih]<;>rfl)
theorem e44(Kr:K_)(a:LU)(b f:Int):x44 Kr a b f=TF (λg w u p=>Kr (t27 a b f g w u p)) a b f:=by funext h g k m o n v;exact Eq.trans (by kernel_rfl) ((i44 Kr a b f h g k m Dc o n v).trans (by rw[Ax];rfl))
theorem i27(a:LU)(b f:Int):∀(q:Nat) (g:Int) (w:List (Int×Int×UInt64×UInt64×Unit)) (u:Int) (p:LB),z27 q (t27 a b f g w u p)=AZ a b f q g w u p:=
 ind (λ_ _ _ _=>by kernel_rfl) λq ih g w u p=>Eq.trans (b:=TQ (x44 (z27 q) a b f) x52 a b f g w u p) (by kernel_rfl) (by simp only[e44,e52,ih]<;>rfl)
theorem e27:x27=UN:=by funext a b f g w u p;exact Eq.trans (by kernel_rfl) ((i27 a b f Dc g w u p).trans (by rw[Ax];rfl))
def F:=u4 Ri
theorem rn x:H.u P_ x=F x:=Eq.trans (b:=u4 (WO x27) x) (by kernel_rfl) (by simp only[e27]<;>rfl)
def c:Con:=⟨H.p,H.r,F⟩
theorem ok:ConOk P_ gl 78 c:=cr H func78 (.cons F81.ok (.cons F82.ok (.cons F118.ok (.cons F121.ok (.cons F122.ok (.cons F123.ok .nil)))))) (Dv.cons ent124 Dv.nil) rn
end F78
namespace F75
def H:Hd:=⟨[.agg [.agg [Si,Si],Si,Ss,Sb,Sw,.lf (.list (.list (.int .u8))) none,Sb,Sz,Si],Si],[.agg [.agg [Si,Si],Si,Ss,Ob 5,Ow 21,.lf (.list (.list (.int .u8))) (some 25),Ob 5,Sz,Si],Si],.d,⟨[],gl,false⟩,[],f75⟩
def F:=u11 GH
theorem rn x:H.u P_ x=F x:=by kernel_rfl
def c:Con:=⟨H.p,H.r,F⟩
theorem ok:ConOk P_ gl 75 c:=co H func75 .nil rn
end F75
namespace F32
abbrev R_:=(Int×Int×Int×LB×LB×LX×(List LB)×LB×Bool×Int×Int)
abbrev K_:=S->Option R_
def H:Hd:=⟨[.agg [.agg [Si,Si],Si,Ss,Sb,Sw,.lf (.list (.list (.int .u8))) none,Sb,Sz,Si],Sb],[.agg [.agg [Si,Si],Si,Ss,Ob 5,Ow 21,.lf (.list (.list (.int .u8))) (some 25),Ob 5,Sz,Si],Si],(.seq .d (.seq .d (.seq .d (.seq .d (.seq .d (.cut [2,4] [] (.seq .d (.blk (.loop [2,4,8,9,27,28,29] [] (.seq .d (.seq .d (.cut [2,4,8,9,27,28,29] [] (.blk (.seq .d (.seq .d (.seq .d (.cut [2,4,8,9,12,27,28,29] [⟨2,[3],.own 5 (.int .u8)⟩,⟨2,[4],.own 21 (.int .i32)⟩,⟨9,[0,3],.own 5 (.int .u8)⟩,⟨9,[0,4],.own 21 (.int .i32)⟩] (.keep [2,4,8,9,12,27,28,29,45] true) .d))))) .d)))))) .d)))))),⟨[(22,F22.c),(47,F47.c),(69,F69.c),(70,F70.c),(72,F72.c),(73,F73.c),(75,F75.c),(78,F78.c)],gl,false⟩,[(71,(.seq .d (.cut [0,1] [] .d (.seq .d (.seq .d (.seq .d (.seq .d (.cut [2] [] (.keep [2,43] true) .d)))))))),(74,.d)],f32⟩
def t14(p:Int)(n:LB)(a b g:Int)(f:LB)(h:Bool)(k o:Int)(m:LB)(u:Int)(y:LB)(w:LX)(v:List LB):S:=⟨[(2,.ptr 0 []),(4,.ptr 1 []),(8,vi p),(9,.fn 71 [.ptr 0 [],.ptr 2 []]),(27,vb n),(28,vi (Ac n)),(29,vi u)],[.box 66 (.agg [.agg [vi a,vi b],vi g,vs f,.own 3,.own 4,.own 5,.own 6,vt h,vi k]),.box 66 (.agg [.agg [vi 0,vi 0],vi 0,vs ([]:LB),.nils,.nils,.nils,.nils,vt false,vi 0]),.box 3 (vi o),Ab 5 y,Aw 21 w,.arr 25 (.list (.int .u8)) v,Ab 5 m],[]⟩
def z14:Nat->S->Option R_:=H.i P_ [r,r,r,r,r,l,r,d]
def x26(a b g:Int)(f:LB)(h:Bool)(k:Int)(y:LB)(w:LX)(v:List LB)(m:LB):Option R_:=H.e P_ [r,r,r,r,r,r] ⟨[(2,.ptr 0 []),(4,.ptr 1 [])],[.box 66 (.agg [.agg [vi a,vi b],vi g,vs f,.own 2,.own 3,.own 4,.own 5,vt h,vi k]),.box 66 (.agg [.agg [vi 0,vi 0],vi 0,vs ([]:LB),.nils,.nils,.nils,.nils,vt false,vi 0]),Ab 5 y,Aw 21 w,.arr 25 (.list (.int .u8)) v,Ab 5 m],[]⟩
def x24(DA:K_)(p:Int)(n:LB)(a b g:Int)(f:LB)(h:Bool)(k o:Int)(m:LB)(u:Int)(ah:LB)(ai:LX)(aj:List LB):Option R_:=H.e P_ [r,r,r,r,r,l,r,d,(lp DA),r,r,r] ⟨[(2,.ptr 0 []),(4,.ptr 1 []),(8,vi p),(9,.fn 71 [.ptr 0 [],.ptr 2 []]),(27,vb n),(28,vi (Ac n)),(29,vi u)],[.box 66 (.agg [.agg [vi a,vi b],vi g,vs f,.own 3,.own 4,.own 5,.own 6,vt h,vi k]),.box 66 (.agg [.agg [vi 0,vi 0],vi 0,vs ([]:LB),.nils,.nils,.nils,.nils,vt false,vi 0]),.box 3 (vi o),Ab 5 ah,Aw 21 ai,.arr 25 (.list (.int .u8)) aj,Ab 5 m],[]⟩
def x23(DA:K_)(p:Int)(n:LB)(a b g:Int)(f:LB)(h:Bool)(k o:Int)(m:LB)(u ad:Int)(ae:LB)(af:LX)(ag:List LB):Option R_:=H.e P_ [r,r,r,r,r,l,r,d,(lp DA),r,r,l,d,r,r,r,r] ⟨[(2,.ptr 0 []),(4,.ptr 1 []),(8,vi p),(9,.fn 71 [.ptr 0 [],.ptr 2 []]),(12,vi ad),(27,vb n),(28,vi (Ac n)),(29,vi u)],[.box 66 (.agg [.agg [vi a,vi b],vi g,vs f,.own 3,.own 4,.own 5,.own 6,vt h,vi k]),.box 66 (.agg [.agg [vi 0,vi 0],vi 0,vs ([]:LB),.nils,.nils,.nils,.nils,vt false,vi 0]),.box 3 (vi o),Ab 5 ae,Aw 21 af,.arr 25 (.list (.int .u8)) ag,Ab 5 m],[]⟩
def x21(DA:K_)(p:Int)(n:LB)(a b g:Int)(f:LB)(h:Bool)(k o:Int)(m:LB)(u:Int)(ab:LX)(v:List LB)(ak:Int):Option R_:=H.e P_ [r,r,r,r,r,l,r,d,(lp DA),r,r,l,d,r,r,r,l,(call 1 71),r,r,r,r,r,r,r] ⟨[(2,vi ak)],[.box 66 (.agg [.agg [vi a,vi b],vi g,vs f,.nils,.own 3,.own 4,.own 5,vt h,vi k]),.box 66 (.agg [.agg [vi 0,vi 0],vi 0,vs ([]:LB),.nils,.nils,.nils,.nils,vt false,vi 0]),.box 3 (vi o),Aw 21 ab,.arr 25 (.list (.int .u8)) v,Ab 5 m],[[(2,.ptr 0 []),(4,.ptr 1 []),(8,vi p),(9,.fn 71 [.ptr 0 [],.ptr 2 []]),(27,vb n),(28,vi (Ac n)),(29,vi u)]]⟩
def x22(DA:K_)(p:Int)(n:LB)(a b g:Int)(f:LB)(h:Bool)(k o:Int)(m:LB)(u:Int)(ac:List LB):Option R_:=H.e P_ [r,r,r,r,r,l,r,d,(lp DA),r,r,l,d,r,r,r,l,(call 1 71),r,r,r,r,r,r,r] ⟨[(2,vi 0)],[.box 66 (.agg [.agg [vi a,vi b],vi g,vs f,.nils,.nils,.own 3,.own 4,vt h,vi k]),.box 66 (.agg [.agg [vi 0,vi 0],vi 0,vs ([]:LB),.nils,.nils,.nils,.nils,vt false,vi 0]),.box 3 (vi o),.arr 25 (.list (.int .u8)) ac,Ab 5 m],[[(2,.ptr 0 []),(4,.ptr 1 []),(8,vi p),(9,.fn 71 [.ptr 0 [],.ptr 2 []]),(27,vb n),(28,vi (Ac n)),(29,vi u)]]⟩
def x20(DA:K_)(p:Int)(n:LB)(a b g:Int)(f:LB)(h:Bool)(k o:Int)(m:LB)(u:Int)(aa:LB)(w:LX)(v:List LB):Option R_:=H.e P_ [r,r,r,r,r,l,r,d,(lp DA),r,r,l,d,r,r,r,l,(call 1 71),r,r] ⟨[(0,.ptr 0 []),(1,.ptr 1 [])],[.box 66 (.agg [.agg [vi a,vi b],vi g,vs f,.own 3,.own 4,.own 5,.own 6,vt h,vi k]),.box 3 (vi o),.box 66 (.agg [.agg [vi 0,vi 0],vi 0,vs ([]:LB),.nils,.nils,.nils,.nils,vt false,vi 0]),Ab 5 aa,Aw 21 w,.arr 25 (.list (.int .u8)) v,Ab 5 m],[[(2,.ptr 0 []),(4,.ptr 2 []),(8,vi p),(9,.fn 71 [.ptr 0 [],.ptr 1 []]),(27,vb n),(28,vi (Ac n)),(29,vi u)]]⟩
def x14(p:Int)(n:LB)(a b g:Int)(f:LB)(h:Bool)(k o:Int)(m:LB)(u:Int)(y:LB)(w:LX)(v:List LB):Option R_:=H.e P_ [r,r,r,r,r,l,r,d] (t14 p n a b g f h k o m u y w v)
theorem e26:x26=aD:=by kernel_rfl
theorem e24(DA:K_)(p:Int)(n:LB)(a b g:Int)(f:LB)(h:Bool)(k o:Int)(m:LB):x24 DA p n a b g f h k o m=JA (λu y w v=>DA (t14 p n a b g f h k o m u y w v)) p n a b g f h k o m:=by kernel_rfl
theorem e23(DA:K_)(p:Int)(n:LB)(a b g:Int)(f:LB)(h:Bool)(k o:Int)(m:LB):x23 DA p n a b g f h k o m=Qp (λu y w v=>DA (t14 p n a b g f h k o m u y w v)) p n a b g f h k o m:=Eq.trans (b:=ZM (x24 DA p n a b g f h k o m) p n a b g f h k o m) (by kernel_rfl) (by simp only[e24]<;>rfl)
theorem e21(DA:K_)(p:Int)(n:LB)(a b g:Int)(f:LB)(h:Bool)(k o:Int)(m:LB):x21 DA p n a b g f h k o m=aM (λu y w v=>DA (t14 p n a b g f h k o m u y w v)) p n a b g f h k o m:=Eq.trans (b:=aS (x23 DA p n a b g f h k o m) p n a b g f h k o m) (by kernel_rfl) (by simp only[e23]<;>rfl)
theorem e22(DA:K_)(p:Int)(n:LB)(a b g:Int)(f:LB)(h:Bool)(k o:Int)(m:LB):x22 DA p n a b g f h k o m=aO (λu y w v=>DA (t14 p n a b g f h k o m u y w v)) p n a b g f h k o m:=Eq.trans (b:=aQ (x23 DA p n a b g f h k o m) p n a b g f h k o m) (by kernel_rfl) (by simp only[e23]<;>rfl)
theorem e20(DA:K_)(p:Int)(n:LB)(a b g:Int)(f:LB)(h:Bool)(k o:Int)(m:LB):x20 DA p n a b g f h k o m=YT (λu y w v=>DA (t14 p n a b g f h k o m u y w v)) p n a b g f h k o m:=Eq.trans (b:=YR (x23 DA p n a b g f h k o m) (x21 DA p n a b g f h k o m) (x22 DA p n a b g f h k o m) p n a b g f h k o m) (by kernel_rfl) (by simp only[e23,e21,e22]<;>rfl)
theorem i14(p:Int)(n:LB)(a b g:Int)(f:LB)(h:Bool)(k o:Int)(m:LB):∀(q:Nat) (u:Int) (y:LB) (w:LX) (v:List LB),z14 q (t14 p n a b g f h k o m u y w v)=Qx p n a b g f h k o m q u y w v:=
 ind (λ_ _ _ _=>by kernel_rfl) λq ih u y w v=>Eq.trans (b:=aC (x24 (z14 q) p n a b g f h k o m) (x23 (z14 q) p n a b g f h k o m) (x20 (z14 q) p n a b g f h k o m) x26 p n a b g f h k o m u y w v) (by kernel_rfl) (by simp only[e24,e23,e20,e26,ih]<;>rfl)
theorem e14:x14=ZZ:=by funext p n a b g f h k o m u y w v;exact Eq.trans (by kernel_rfl) ((i14 p n a b g f h k o m Dc u y w v).trans (by rw[Ax];rfl))
def F:=u11 sL
theorem rn x:H.u P_ x=F x:=Eq.trans (b:=u11 (eW x14) x) (by kernel_rfl) (by simp only[e14]<;>rfl)
def c:Con:=⟨H.p,H.r,F⟩
theorem ok:ConOk P_ gl 32 c:=cr H func32 (.cons F22.ok (.cons F47.ok (.cons F69.ok (.cons F70.ok (.cons F72.ok (.cons F73.ok (.cons F75.ok (.cons F78.ok .nil)))))))) (Dv.cons ent71 (Dv.cons ent74 Dv.nil)) rn
end F32
namespace F117
def H:Hd:=⟨[Ss],[Si,Si],.d,⟨[],gl,false⟩,[],f117⟩
def F:=nU
theorem rn x:H.u P_ x=F x:=by kernel_rfl
def c:Con:=⟨H.p,H.r,F⟩
theorem ok:ConOk P_ gl 117 c:=co H func117 .nil rn
end F117
namespace F125
abbrev R_:=Bool
def H:Hd:=⟨[.agg [Si,Si,Si,Si,Si]],[Sz],(.seq .d (.cut [1] [] .d .d)),⟨[],gl,false⟩,[],f125⟩
def x2(b f a g h:Int):Option R_:=H.e P_ [r,r] ⟨[(1,.ptr 0 [])],[.box 50 (.agg [vi b,vi f,vi a,vi g,vi h])],[]⟩
theorem e2:x2=Mu:=by kernel_rfl
def F:=u5 Pw
theorem rn x:H.u P_ x=F x:=Eq.trans (b:=u5 (Xw x2) x) (by kernel_rfl) (by simp only[e2]<;>rfl)
def c:Con:=⟨H.p,H.r,F⟩
theorem ok:ConOk P_ gl 125 c:=co H func125 .nil rn
end F125
namespace F115
def H:Hd:=⟨[Si,Si],[Si,Si],.d,⟨[(116,F116.c)],gl,false⟩,[],f115⟩
def F:=u2 Tq
theorem rn x:H.u P_ x=F x:=by kernel_rfl
def c:Con:=⟨H.p,H.r,F⟩
theorem ok:ConOk P_ gl 115 c:=co H func115 (.cons F116.ok .nil) rn
end F115
namespace F126
def H:Hd:=⟨[.agg [Si,Si,Si,Si,Si]],[Sz],.d,⟨[(115,F115.c)],gl,false⟩,[],f126⟩
def F:=u5 LH
theorem rn x:H.u P_ x=F x:=by kernel_rfl
def c:Con:=⟨H.p,H.r,F⟩
theorem ok:ConOk P_ gl 126 c:=co H func126 (.cons F115.ok .nil) rn
end F126
namespace F80
def H:Hd:=⟨[.agg [Si,Si,Si,Si,Si]],[Si],.d,⟨[(125,F125.c),(126,F126.c)],gl,false⟩,[],f80⟩
def F:=u5 Sy
theorem rn x:H.u P_ x=F x:=by kernel_rfl
def c:Con:=⟨H.p,H.r,F⟩
theorem ok:ConOk P_ gl 80 c:=co H func80 (.cons F125.ok (.cons F126.ok .nil)) rn
end F80
namespace F37
abbrev R_:=(LB×Int)
def H:Hd:=⟨[.agg [Si,Si,Si,Si,Si]],[Ob 5,Si],(.seq .d (.seq .d (.seq .d (.cut [5] [] (.seq .d (.blk (.loop [5,31,32] [] .d))) .d)))),⟨[(80,F80.c),(81,F81.c),(82,F82.c)],gl,false⟩,[],f37⟩
def t4(b f g h k m:Int)(a:LB):S:=⟨[(5,.own 0),(31,.val (.vec 5 (.int .i64)) ([b,f,g,h,k]:LI)),(32,vi m)],[Ab 5 a],[]⟩
def z4:Nat->S->Option R_:=H.i P_ [r,r,r,l,r,d]
def x6(a:LB):Option R_:=H.e P_ [r,r,r,r] ⟨[(5,.own 0)],[Ab 5 a],[]⟩
def x4(b f g h k m:Int)(a:LB):Option R_:=H.e P_ [r,r,r,l,r,d] (t4 b f g h k m a)
theorem e6:x6=fT:=by kernel_rfl
theorem i4(b f g h k:Int):∀(q:Nat) (m:Int) (a:LB),z4 q (t4 b f g h k m a)=NQ b f g h k q m a:=
 ind (λ_ _=>by kernel_rfl) λq ih m a=>Eq.trans (b:=eZ x6 (λm a=>(z4 q) (t4 b f g h k m a)) b f g h k m a) (by kernel_rfl) (by simp only[e6,ih]<;>rfl)
theorem e4:x4=eX:=by funext b f g h k m a;exact Eq.trans (by kernel_rfl) ((i4 b f g h k Dc m a).trans (by rw[Ax];rfl))
def F:=u5 bA
theorem rn x:H.u P_ x=F x:=Eq.trans (b:=u5 (fJ x4) x) (by kernel_rfl) (by simp only[e4]<;>rfl)
def c:Con:=⟨H.p,H.r,F⟩
theorem ok:ConOk P_ gl 37 c:=co H func37 (.cons F80.ok (.cons F81.ok (.cons F82.ok .nil))) rn
end F37
namespace F16
def H:Hd:=⟨[Ss],[Sq,Si],.d,⟨[(54,F54.c)],gl,false⟩,[],f16⟩
def F:=tZ
theorem rn x:H.u P_ x=F x:=by kernel_rfl
def c:Con:=⟨H.p,H.r,F⟩
theorem ok:ConOk P_ gl 16 c:=co H func16 (.cons F54.ok .nil) rn
end F16
namespace F38
def H:Hd:=⟨[Ss],[Ob 5,Si],.d,⟨[(16,F16.c),(81,F81.c)],gl,false⟩,[],f38⟩
def F:=Xv
theorem rn x:H.u P_ x=F x:=by kernel_rfl
def c:Con:=⟨H.p,H.r,F⟩
theorem ok:ConOk P_ gl 38 c:=co H func38 (.cons F16.ok (.cons F81.ok .nil)) rn
end F38
namespace F83
abbrev R_:=Int
def H:Hd:=⟨[Sl],[Si],(.seq .d (.seq .d (.seq .d (.cut [] [] (.seq .d (.blk (.loop [3,14,15,16] [] .d))) .d)))),⟨[],gl,false⟩,[],f83⟩
def t4(a:LI)(f b:Int):S:=⟨[(3,vi f),(14,vl a),(15,vi (Ac a)),(16,vi b)],[],[]⟩
def z4:Nat->S->Option R_:=H.i P_ [r,r,r,l,r,d]
def x6:Option R_:=H.e P_ [r,r,r,r] ⟨[],[],[]⟩
def x4(a:LI)(f b:Int):Option R_:=H.e P_ [r,r,r,l,r,d] (t4 a f b)
theorem e6:x6=jP:=by kernel_rfl
theorem i4(a:LI):∀(q:Nat) (f b:Int),z4 q (t4 a f b)=Rf a q f b:=
 ind (λ_ _=>by kernel_rfl) λq ih f b=>Eq.trans (b:=EH x6 (λf b=>(z4 q) (t4 a f b)) a f b) (by kernel_rfl) (by simp only[e6,ih]<;>rfl)
theorem e4:x4=TB:=by funext a f b;exact Eq.trans (by kernel_rfl) ((i4 a Dc f b).trans (by rw[Ax];rfl))
def F:=Pb
theorem rn x:H.u P_ x=F x:=Eq.trans (b:=FV x4 x) (by kernel_rfl) (by simp only[e4]<;>rfl)
def c:Con:=⟨H.p,H.r,F⟩
theorem ok:ConOk P_ gl 83 c:=co H func83 .nil rn
end F83
namespace F39
abbrev R_:=(LB×Int)
abbrev K_:=S->Option R_
def H:Hd:=⟨[Sl],[Ob 5,Si],(.seq .d (.seq .d (.seq .d (.seq .d (.cut [5,6] [] (.seq .d (.blk (.loop [5,6,17,18,19] [⟨5,[],.own 5 (.int .u8)⟩,⟨6,[0],.own 5 (.int .u8)⟩] (.seq .d (.seq .d (.cut [5,6,17,18,19] [] (.blk (.seq .d (.keep [5,6,8,17,18,19,23,24,25] true))) .d)))))) (.seq .d (.cut [5] [] (.keep [5,6,9,33,34,35] true) .d))))))),⟨[(81,F81.c),(82,F82.c),(83,F83.c)],gl,false⟩,[(84,.d)],f39⟩
def t8(a:LI)(f:Int)(b:LB):S:=⟨[(5,.ptr 0 []),(6,.fn 84 [.ptr 0 []]),(17,vl a),(18,vi (Ac a)),(19,vi f)],[.box 25 (.own 1),Ab 5 b],[]⟩
def z8:Nat->S->Option R_:=H.i P_ [r,r,r,r,l,r,d]
def x14(g:LB):Option R_:=H.e P_ [r,r,r,r,r,r,r] ⟨[(5,.ptr 0 [])],[.box 25 (.own 1),Ab 5 g],[]⟩
def x13(b:LB):Option R_:=H.e P_ [r,r,r,r,r] ⟨[(5,.ptr 0 []),(6,.fn 84 [.ptr 0 []])],[.box 25 (.own 1),Ab 5 b],[]⟩
def x11(kn8:K_)(a:LI)(f:Int)(h:LB):Option R_:=H.e P_ [r,r,r,r,l,r,d,(lp kn8),r,r,r] ⟨[(5,.ptr 0 []),(6,.fn 84 [.ptr 0 []]),(17,vl a),(18,vi (Ac a)),(19,vi f)],[.box 25 (.own 1),Ab 5 h],[]⟩
def x8(a:LI)(f:Int)(b:LB):Option R_:=H.e P_ [r,r,r,r,l,r,d] (t8 a f b)
theorem e14:x14=fQ:=by kernel_rfl
theorem e13:x13=eY:=Eq.trans (b:=fF x14) (by kernel_rfl) (by simp only[e14]<;>rfl)
theorem e11(kn8:K_)(a:LI):x11 kn8 a=eK (λf b=>kn8 (t8 a f b)) a:=by kernel_rfl
theorem i8(a:LI):∀(q:Nat) (f:Int) (b:LB),z8 q (t8 a f b)=SK a q f b:=
 ind (λ_ _=>by kernel_rfl) λq ih f b=>Eq.trans (b:=kR (x11 (z8 q) a) x13 a f b) (by kernel_rfl) (by simp only[e11,e13,ih]<;>rfl)
theorem e8:x8=iN:=by funext a f b;exact Eq.trans (by kernel_rfl) ((i8 a Dc f b).trans (by rw[Ax];rfl))
def F:=WG
theorem rn x:H.u P_ x=F x:=Eq.trans (b:=kV x8 x) (by kernel_rfl) (by simp only[e8]<;>rfl)
def c:Con:=⟨H.p,H.r,F⟩
theorem ok:ConOk P_ gl 39 c:=cr H func39 (.cons F81.ok (.cons F82.ok (.cons F83.ok .nil))) (Dv.cons ent84 Dv.nil) rn
end F39
namespace F76
def IC(f g h:Int)(b k:LB)(m:LX)(a:List LB)(n:LB)(o:Bool)(p:Int)(u:LB)(v:LI):Option (LB×Int):=
(WG v).bind λ(aa,y)=>
if(Bd y 0)then
some (([]:LB),y)
else
(λao:Option (LB×Int)=>
bo (
ao)) (
(De u aa).bind λab=>
(Lh a).bind λac=>
(De ab ac).bind λad=>
some (ad,0))
theorem mW: @IC= @NP:=by
  unfold IC NP;simp only[aZ,JK,JR]
abbrev R_:=(LB×Int)
def H:Hd:=⟨[.agg [.agg [Si,Si],Si,Ss,Sb,Sw,.lf (.list (.list (.int .u8))) none,Sb,Sz,Si],Si],[Ob 5,Si],(.seq .d (.seq .d (.seq .d (.seq .d (.seq .d (.cut [2,8] [] .d (.seq .d (.cut [2,8,11] [] (.seq .d (.blk (.loop [2,8,11,58,59,60] [⟨11,[],.own 3 (.int .i64)⟩] .d))) (.seq .d (.seq .d (.seq (.mode false) .d))))))))))),⟨[(37,F37.c),(38,F38.c),(39,F39.c),(117,F117.c),(118,F118.c)],gl,false⟩,[],f76⟩
def t6(a:List LB)(f g h:Int)(b k:LB)(m:LX)(n:LB)(o:Bool)(p:Int)(u:LB)(w:Int)(v:LI):S:=⟨[(2,.ptr 0 []),(8,.own 1),(11,.own 2),(58,.val (.list (.list (.int .u8))) a),(59,vi (Ac a)),(60,vi w)],[.box 66 (.agg [.agg [vi f,vi g],vi h,vs b,vb k,vw m,.val (.list (.list (.int .u8))) a,vb n,vt o,vi p]),Ab 5 u,Ai 3 v],[]⟩
def z6:Nat->S->Option R_:=H.i P_ [r,r,r,r,r,r,r,l,r,d]
def x8(f g h:Int)(b k:LB)(m:LX)(a:List LB)(n:LB)(o:Bool)(p:Int)(u:LB)(v:LI):Option R_:=H.e P_ [r,r,r,r,r,r,r,r] ⟨[(2,.ptr 0 []),(8,.own 1),(11,.own 2)],[.box 66 (.agg [.agg [vi f,vi g],vi h,vs b,vb k,vw m,.val (.list (.list (.int .u8))) a,vb n,vt o,vi p]),Ab 5 u,Ai 3 v],[]⟩
def x6(a:List LB)(f g h:Int)(b k:LB)(m:LX)(n:LB)(o:Bool)(p:Int)(u:LB)(w:Int)(v:LI):Option R_:=H.e P_ [r,r,r,r,r,r,r,l,r,d] (t6 a f g h b k m n o p u w v)
def x5(f g h:Int)(b k:LB)(m:LX)(a:List LB)(n:LB)(o:Bool)(p:Int)(u:LB):Option R_:=H.e P_ [r,r,r,r,r,r] ⟨[(2,.ptr 0 []),(8,.own 1)],[.box 66 (.agg [.agg [vi f,vi g],vi h,vs b,vb k,vw m,.val (.list (.list (.int .u8))) a,vb n,vt o,vi p]),Ab 5 u],[]⟩
theorem e8:x8=fC:=Eq.trans (b:=IC) (by kernel_rfl) (by rw[mW];rfl)
theorem i6(a:List LB)(f g h:Int)(b k:LB)(m:LX)(n:LB)(o:Bool)(p:Int)(u:LB):∀(q:Nat) (w:Int) (v:LI),z6 q (t6 a f g h b k m n o p u w v)=OC a f g h b k m n o p u q w v:=
 ind (λ_ _=>by kernel_rfl) λq ih w v=>Eq.trans (b:=eC x8 (λw v=>(z6 q) (t6 a f g h b k m n o p u w v)) a f g h b k m n o p u w v) (by kernel_rfl) (by simp only[e8,ih]<;>rfl)
theorem e6:x6=eD:=by funext a f g h b k m n o p u w v;exact Eq.trans (by kernel_rfl) ((i6 a f g h b k m n o p u Dc w v).trans (by rw[Ax];rfl))
theorem e5:x5=fN:=Eq.trans (b:=fA x6) (by kernel_rfl) (by simp only[e6]<;>rfl)
def F:=u11 rE
theorem rn x:H.u P_ x=F x:=Eq.trans (b:=u11 (fL x5) x) (by kernel_rfl) (by simp only[e5]<;>rfl)
def c:Con:=⟨H.p,H.r,F⟩
theorem ok:ConOk P_ gl 76 c:=co H func76 (.cons F37.ok (.cons F38.ok (.cons F39.ok (.cons F117.ok (.cons F118.ok .nil))))) rn
end F76
namespace F34
abbrev R_:=(Int×Int×Int×LB×LB×LX×(List LB)×LB×Bool×Int×Int)
def H:Hd:=⟨[.agg [.agg [Si,Si],Si,Ss,Sb,Sw,.lf (.list (.list (.int .u8))) none,Sb,Sz,Si]],[.agg [.agg [Si,Si],Si,Ss,Ob 5,Ow 21,.lf (.list (.list (.int .u8))) (some 25),Ob 5,Sz,Si],Si],(.seq .d (.seq .d (.seq .d (.seq .d (.seq .d (.cut [1,2,6] [] (.seq .d (.cond (.cut [1,2,6,7] [⟨1,[4],.own 21 (.int .i32)⟩] (.keep [1,2,6,7,38] true) .d) .d)) .d)))))),⟨[(47,F47.c),(69,F69.c),(73,F73.c),(75,F75.c),(76,F76.c),(78,F78.c)],gl,false⟩,[(74,.d)],f34⟩
def x4(o a b g:Int)(f:LB)(k:Bool)(m:Int)(h n:LB)(v:LX)(w:List LB):Option R_:=H.e P_ [r,r,r,r,r,r] ⟨[(1,.ptr 0 []),(2,.ptr 1 []),(6,vi o)],[.box 66 (.agg [.agg [vi a,vi b],vi g,vs f,.own 2,.own 3,.own 4,.own 5,vt k,vi m]),.box 66 (.agg [.agg [vi 0,vi 0],vi 0,vs ([]:LB),.nils,.nils,.nils,.nils,vt false,vi 0]),Ab 5 h,Aw 21 v,.arr 25 (.list (.int .u8)) w,Ab 5 n],[]⟩
def x3(o a b g:Int)(f:LB)(k:Bool)(m:Int)(h n:LB)(aa:Int)(ab:LX)(ac:List LB):Option R_:=H.e P_ [r,r,r,r,r,l,r,l,r] ⟨[(1,.ptr 0 []),(2,.ptr 1 []),(6,vi o),(7,vi aa)],[.box 66 (.agg [.agg [vi a,vi b],vi g,vs f,.own 2,.own 3,.own 4,.own 5,vt k,vi m]),.box 66 (.agg [.agg [vi 0,vi 0],vi 0,vs ([]:LB),.nils,.nils,.nils,.nils,vt false,vi 0]),Ab 5 h,Aw 21 ab,.arr 25 (.list (.int .u8)) ac,Ab 5 n],[]⟩
theorem e4:x4=GJ:=by kernel_rfl
theorem e3:x3=VH:=Eq.trans (b:=VX x4) (by kernel_rfl) (by simp only[e4]<;>rfl)
def F:=u10 jW
theorem rn x:H.u P_ x=F x:=Eq.trans (b:=u10 (VY x3 x4) x) (by kernel_rfl) (by simp only[e3,e4]<;>rfl)
def c:Con:=⟨H.p,H.r,F⟩
theorem ok:ConOk P_ gl 34 c:=cr H func34 (.cons F47.ok (.cons F69.ok (.cons F73.ok (.cons F75.ok (.cons F76.ok (.cons F78.ok .nil)))))) (Dv.cons ent74 Dv.nil) rn
end F34
namespace F58
def H:Hd:=⟨[.agg [.agg [Si,Si],Si,Ss,Sb,Sw,.lf (.list (.list (.int .u8))) none,Sb,Sz,Si],Si],[.agg [.agg [Si,Si],Si,Ss,Ob 5,Ow 21,.lf (.list (.list (.int .u8))) (some 25),Sb,Sz,Si],Ob 5,Si],.d,⟨[(105,F105.c),(106,F106.c),(107,F107.c)],gl,false⟩,[],f58⟩
def F:=u11 oS
theorem rn x:H.u P_ x=F x:=by kernel_rfl
def c:Con:=⟨H.p,H.r,F⟩
theorem ok:ConOk P_ gl 58 c:=co H func58 (.cons F105.ok (.cons F106.ok (.cons F107.ok .nil))) rn
end F58
namespace F20
abbrev R_:=(LB×Int)
abbrev K_:=S->Option R_
def H:Hd:=⟨[.agg [Si,Si],Si,Ss,Sb,Sq],[Ob 5,Si],(.seq .d (.seq .d (.seq .d (.seq .d (.seq .d (.cut [14] [] (.seq .d (.blk (.loop [3,14,39,40,41] [] (.seq .d (.seq .d (.seq (.blk (.seq .d (.seq (.cut [3,13,14,16,39,40,41] [] (.mode false) .d) .d))) .d)))))) .d)))))),⟨[(26,F26.c),(30,F30.c),(32,F32.c),(34,F34.c),(58,F58.c)],gl,false⟩,[],f20⟩
def t6(a:LI)(f:LB)(b g h k:Int)(m:LB)(n:Bool)(o:Int)(p:LB)(u:LX)(v:List LB)(w:LB):S:=⟨[(3,vb f),(14,.ptr 0 []),(39,.own 1),(40,vi (Ac a)),(41,vi b)],[.box 66 (.agg [.agg [vi g,vi h],vi k,vs m,.own 2,.own 3,.own 4,.own 5,vt n,vi o]),Ai 3 a,Ab 5 p,Aw 21 u,.arr 25 (.list (.int .u8)) v,Ab 5 w],[]⟩
def z6:Nat->S->Option R_:=H.i P_ [r,r,r,r,r,l,r,d]
def x10(g h k:Int)(m:LB)(n:Bool)(o:Int)(p:LB)(u:LX)(v:List LB)(w:LB):Option R_:=H.e P_ [r,r,r,r,r,r] ⟨[(14,.ptr 0 [])],[.box 66 (.agg [.agg [vi g,vi h],vi k,vs m,.own 1,.own 2,.own 3,.own 4,vt n,vi o]),Ab 5 p,Aw 21 u,.arr 25 (.list (.int .u8)) v,Ab 5 w],[]⟩
def x8(kn6:K_)(a:LI)(f:LB)(ac ae b y af ag:Int)(ah:LB)(ai:Bool)(ad:Int)(aa:LB)(ab:LX)(aj:List LB)(ak:LB):Option R_:=H.e P_ [r,r,r,r,r,l,r,d,(lp kn6),r,r,l,d,r,l,r] ⟨[(3,vb f),(13,vi ac),(14,.ptr 0 []),(16,vi ae),(39,.own 1),(40,vi (Ac a)),(41,vi b)],[.box 66 (.agg [.agg [vi y,vi af],vi ag,vs ah,.own 2,.own 3,.own 4,.own 5,vt ai,vi ad]),Ai 3 a,Ab 5 aa,Aw 21 ab,.arr 25 (.list (.int .u8)) aj,Ab 5 ak],[]⟩
def x6(a:LI)(f:LB)(b g h k:Int)(m:LB)(n:Bool)(o:Int)(p:LB)(u:LX)(v:List LB)(w:LB):Option R_:=H.e P_ [r,r,r,r,r,l,r,d] (t6 a f b g h k m n o p u v w)
theorem e10:x10=VB:=by kernel_rfl
theorem e8(kn6:K_)(a:LI):x8 kn6 a=YK (λf b g h k m n o p u v w=>kn6 (t6 a f b g h k m n o p u v w)) a:=by kernel_rfl
theorem i6(a:LI):∀(q:Nat) (f:LB) (b g h k:Int) (m:LB) (n:Bool) (o:Int) (p:LB) (u:LX) (v:List LB) (w:LB),z6 q (t6 a f b g h k m n o p u v w)=JQ a q f b g h k m n o p u v w:=
 ind (λ_ _ _ _ _ _ _ _ _ _ _ _=>by kernel_rfl) λq ih f b g h k m n o p u v w=>Eq.trans (b:=ZQ (x8 (z6 q) a) x10 a f b g h k m n o p u v w) (by kernel_rfl) (by simp only[e8,e10,ih]<;>rfl)
theorem e6:x6=aI:=by funext a f b g h k m n o p u v w;exact Eq.trans (by kernel_rfl) ((i6 a Dc f b g h k m n o p u v w).trans (by rw[Ax];rfl))
def F:=u6 Kv
theorem rn x:H.u P_ x=F x:=Eq.trans (b:=u6 (II x6) x) (by kernel_rfl) (by simp only[e6]<;>rfl)
def c:Con:=⟨H.p,H.r,F⟩
theorem ok:ConOk P_ gl 20 c:=co H func20 (.cons F26.ok (.cons F30.ok (.cons F32.ok (.cons F34.ok (.cons F58.ok .nil))))) rn
end F20
namespace F23
def H:Hd:=⟨[Ss],[.agg [Ss,Ob 5,.agg [Si,Si,Si,Si,Si],Ol 3,Si,Ob 5,Sz,Si],Si],.d,⟨[],gl,false⟩,[],f23⟩
def F:=BL
theorem rn x:H.u P_ x=F x:=by kernel_rfl
def c:Con:=⟨H.p,H.r,F⟩
theorem ok:ConOk P_ gl 23 c:=co H func23 .nil rn
end F23
namespace F113
def NF(a:LB):Option (LB):=
O5 a (
some ([]:LB)) (
(De ([]:LB) a).bind λb=>
some b)
theorem oY: @NF= @Lc:=by
  unfold NF Lc
  repeat (refine funext λ_=>?_)
  repeat' first
    |with_reducible rfl
    |with_reducible refine Nn ?_ ?_
    |with_reducible refine My ?_ ?_ ?_
    |with_reducible refine Mw ?_ ?_ ?_ ?_
    |((with_reducible refine Rq ?_ ?_);focus (intro h;first|(subst h;rfl)|(simp only[h];rfl)|(simp[De,Ac,h];done)))
    |with_reducible refine Sr λx=>?_
    |with_reducible refine AK (λ_=>?_) (λ_=>?_)
    |(refine Hp (λh=>by simp only[h,Ro,Es,El,ite_self]) (λx h=>?_);(try simp only[h,Es]))
    |(refine Ki (λh=>?_) (λh=>?_)<;>simp only[h,if_true,if_false,Bool.false_eq_true])
def H:Hd:=⟨[Sb],[Ob 5],.d,⟨[],gl,false⟩,[],f113⟩
def F:=Lc
theorem rn x:H.u P_ x=F x:=Eq.trans (b:=NF x) (by kernel_rfl) (by rw[oY];rfl)
def c:Con:=⟨H.p,H.r,F⟩
theorem ok:ConOk P_ gl 113 c:=co H func113 .nil rn
end F113
namespace F114
def Pm(a:LI):Option (LI):=
O5 a (
some ([]:LI)) (
(De ([]:LI) a).bind λb=>
some b)
theorem QO: @Pm= @Ga:=by
  unfold Pm Ga
  repeat (refine funext λ_=>?_)
  repeat' first
    |with_reducible rfl
    |with_reducible refine Nn ?_ ?_
    |with_reducible refine My ?_ ?_ ?_
    |with_reducible refine Mw ?_ ?_ ?_ ?_
    |((with_reducible refine Rq ?_ ?_);focus (intro h;first|(subst h;rfl)|(simp only[h];rfl)|(simp[De,Ac,h];done)))
    |with_reducible refine Sr λx=>?_
    |with_reducible refine AK (λ_=>?_) (λ_=>?_)
    |(refine Hp (λh=>by simp only[h,Ro,Es,El,ite_self]) (λx h=>?_);(try simp only[h,Es]))
    |(refine Ki (λh=>?_) (λh=>?_)<;>simp only[h,if_true,if_false,Bool.false_eq_true])
def H:Hd:=⟨[Sl],[Ol 3],.d,⟨[],gl,false⟩,[],f114⟩
def F:=Ga
theorem rn x:H.u P_ x=F x:=Eq.trans (b:=Pm x) (by kernel_rfl) (by rw[QO];rfl)
def c:Con:=⟨H.p,H.r,F⟩
theorem ok:ConOk P_ gl 114 c:=co H func114 .nil rn
end F114
namespace F63
def H:Hd:=⟨[.agg [Ss,Sb,.agg [Si,Si,Si,Si,Si],Sl,Si,Sb,Sz,Si]],[.agg [Ss,Ob 5,.agg [Si,Si,Si,Si,Si],Ol 3,Si,Ob 5,Sz,Si]],.d,⟨[(113,F113.c),(114,F114.c)],gl,false⟩,[],f63⟩
def F:=u12 Dt
theorem rn x:H.u P_ x=F x:=by kernel_rfl
def c:Con:=⟨H.p,H.r,F⟩
theorem ok:ConOk P_ gl 63 c:=co H func63 (.cons F113.ok (.cons F114.ok .nil)) rn
end F63
namespace F200
def H:Hd:=⟨[Sq,Sq],[Sq,Sq],.d,⟨[],gl,false⟩,[],f200⟩
def F:=u2 NJ
theorem rn x:H.u P_ x=F x:=by kernel_rfl
def c:Con:=⟨H.p,H.r,F⟩
theorem ok:ConOk P_ gl 200 c:=co H func200 .nil rn
end F200
namespace F182
def H:Hd:=⟨[Sq,Sq],[Sq,Sq],.d,⟨[(200,F200.c)],gl,false⟩,[],f182⟩
def F:=u2 KD
theorem rn x:H.u P_ x=F x:=by kernel_rfl
def c:Con:=⟨H.p,H.r,F⟩
theorem ok:ConOk P_ gl 182 c:=co H func182 (.cons F200.ok .nil) rn
end F182
namespace F156
def Oj(j10:LI->Option (LI))(bk8:Int->LI->Option (LI))(b:Int)(a:LI):Option (LI):=
if(Bt b (Ac a))then
both (
(nC (Ac a) b (Ac a)).bind λ_=>
(nC (Ac a) 0 b).bind λ_=>
bk8 (Ad b (RN ((Ac a)-b) (XM a 0 (b-(0:Int))).length)) (Ud a b ((Ac a)-b) (XM a 0 (b-(0:Int))))) [
(nC (Ac a) 0 b).bind λ_=>
(nC (Ac a) b (Ac a)).bind λ_=>
bk8 (Ad b (RN ((Ac a)-b) (XM a 0 (b-(0:Int))).length)) (Ud a b ((Ac a)-b) (XM a 0 (b-(0:Int))))]
else
j10 a
theorem NX: @Oj= @Ha:=by
  unfold Oj Ha
  repeat (refine funext λ_=>?_)
  repeat' first
    |with_reducible rfl
    |with_reducible refine Nn ?_ ?_
    |with_reducible refine My ?_ ?_ ?_
    |with_reducible refine Mw ?_ ?_ ?_ ?_
    |((with_reducible refine Rq ?_ ?_);focus (intro h;first|(subst h;rfl)|(simp only[h];rfl)|(simp[De,Ac,h];done)))
    |with_reducible refine Sr λx=>?_
    |with_reducible refine AK (λ_=>?_) (λ_=>?_)
    |(refine Hp (λh=>by simp only[h,Ro,Es,El,ite_self]) (λx h=>?_);(try simp only[h,Es]))
    |(refine Ki (λh=>?_) (λh=>?_)<;>simp only[h,if_true,if_false,Bool.false_eq_true])
abbrev R_:=LI
def H:Hd:=⟨[Sl,Si],[Ol 3],(.seq .d (.cut [0,1] [] .d (.seq .d (.cut [0,6] [] .d (.seq .d (.seq .d (.cut [7] [] (.blk (.loop [7,8] [] (.seq .d (.blk (.mode false))))) .d))))))),⟨[(182,F182.c)],gl,true⟩,[],f156⟩
def t8(b:Int)(a:LI):S:=⟨[(7,.own 0),(8,vi b)],[Ai 3 a],[]⟩
def z8:Nat->S->Option R_:=H.i P_ [r,r,r,r,r,r,l,d]
def x10(a:LI):Option R_:=H.e P_ [r,r,r,r,r,r,r] ⟨[(7,.own 0)],[Ai 3 a],[]⟩
def x8(b:Int)(a:LI):Option R_:=H.e P_ [r,r,r,r,r,r,l,d] (t8 b a)
def x7(f:LI)(g:UInt64):Option R_:=H.e P_ [r,r,r,r] ⟨[(0,vl f),(6,vq g)],[],[]⟩
def x6(f:LI)(h:Int):Option R_:=H.e P_ [r,r] ⟨[(0,vl f),(1,vi h)],[],[]⟩
theorem e10:x10=Jm:=by kernel_rfl
theorem i8:∀(q:Nat) (b:Int) (a:LI),z8 q (t8 b a)=Ev q b a:=
 ind (λ_ _=>by kernel_rfl) λq ih b a=>Eq.trans (b:=Oj x10 (λb a=>(z8 q) (t8 b a)) b a) (by kernel_rfl) (by rw[NX];simp only[e10,ih]<;>rfl)
theorem e8:x8=Ps:=by funext b a;exact Eq.trans (by kernel_rfl) ((i8 Dc b a).trans (by rw[Ax];rfl))
theorem e7:x7=Pk:=Eq.trans (b:=Pn x8) (by kernel_rfl) (by simp only[e8]<;>rfl)
theorem e6:x6=Pz:=Eq.trans (b:=Po x7) (by kernel_rfl) (by simp only[e7]<;>rfl)
def F:=u2 Nz
theorem rn x:H.u P_ x=F x:=Eq.trans (b:=u2 (Pr x6) x) (by kernel_rfl) (by simp only[e6]<;>rfl)
def c:Con:=⟨H.p,H.r,F⟩
theorem ok:ConOk P_ gl 156 c:=co H func156 (.cons F182.ok .nil) rn
end F156
namespace F183
abbrev R_:=LI
def H:Hd:=⟨[.lf (.list (.list (.int .i64))) none],[Ol 3],(.seq .d (.seq .d (.cut [0,3] [] (.seq .d (.blk (.loop [0,3,9,10,11] [] .d))) (.cut [0,6] [⟨6,[],.own 3 (.int .i64)⟩] (.keep [0,3,6,23,24] true) (.cut [6] [] (.seq .d (.blk (.loop [6,25,26,27] [] .d))) .d))))),⟨[],gl,true⟩,[(201,(.seq .d (.cut [0,1] [] .d .d)))],f183⟩
def t14(a:List LI)(g:Int)(f:LI):S:=⟨[(6,.own 0),(25,.val (.list (.list (.int .i64))) a),(26,vi (Ac a)),(27,vi g)],[Ai 3 f],[]⟩
def z14:Nat->S->Option R_:=H.i P_ [r,r,r,r,l,r,d]
def t9(a:List LI)(b h:Int):S:=⟨[(0,.val (.list (.list (.int .i64))) a),(3,vi b),(9,.val (.list (.list (.int .i64))) a),(10,vi (Ac a)),(11,vi h)],[],[]⟩
def z9:Nat->S->Option R_:=H.i P_ [r,r,l,r,d]
def x16(f:LI):Option R_:=H.e P_ [r,r,r,r,r] ⟨[(6,.own 0)],[Ai 3 f],[]⟩
def x14(a:List LI)(g:Int)(f:LI):Option R_:=H.e P_ [r,r,r,r,l,r,d] (t14 a g f)
def x13(a:List LI)(k:LI):Option R_:=H.e P_ [r,r,r,r] ⟨[(0,.val (.list (.list (.int .i64))) a),(6,.own 0)],[Ai 3 k],[]⟩
def x12(b:Int)(a:List LI):Option R_:=H.e P_ [r,r,r,l,(call 1 201),r,r] ⟨[(0,.nils),(1,vi b)],[],[[(0,.val (.list (.list (.int .i64))) a),(3,vi b),(23,vi b)]]⟩
def x11(a:List LI)(b:Int):Option R_:=H.e P_ [r,r,r] ⟨[(0,.val (.list (.list (.int .i64))) a),(3,vi b)],[],[]⟩
def x9(a:List LI)(b h:Int):Option R_:=H.e P_ [r,r,l,r,d] (t9 a b h)
theorem e16:x16=Yc:=by kernel_rfl
theorem i14(a:List LI):∀(q:Nat) (g:Int) (f:LI),z14 q (t14 a g f)=Eh a q g f:=
 ind (λ_ _=>by kernel_rfl) λq ih g f=>Eq.trans (b:=Gm x16 (λg f=>(z14 q) (t14 a g f)) a g f) (by kernel_rfl) (by simp only[e16,ih]<;>rfl)
theorem e14:x14=Og:=by funext a g f;exact Eq.trans (by kernel_rfl) ((i14 a Dc g f).trans (by rw[Ax];rfl))
theorem e13:x13=Jn:=Eq.trans (b:=Oc x14) (by kernel_rfl) (by simp only[e14]<;>rfl)
theorem e12:x12=Oe:=Eq.trans (b:=Ok x13) (by kernel_rfl) (by simp only[e13]<;>rfl)
theorem e11:x11=Oa:=Eq.trans (b:=Oh x12) (by kernel_rfl) (by simp only[e12]<;>rfl)
theorem i9(a:List LI):∀(q:Nat) (b h:Int),z9 q (t9 a b h)=Et a q b h:=
 ind (λ_ _=>by kernel_rfl) λq ih b h=>Eq.trans (b:=Gy x11 (λb h=>(z9 q) (t9 a b h)) a b h) (by kernel_rfl) (by simp only[e11,ih]<;>rfl)
theorem e9:x9=Qa:=by funext a b h;exact Eq.trans (by kernel_rfl) ((i9 a Dc b h).trans (by rw[Ax];rfl))
def F:=Nx
theorem rn x:H.u P_ x=F x:=Eq.trans (b:=Qb x9 x) (by kernel_rfl) (by simp only[e9]<;>rfl)
def c:Con:=⟨H.p,H.r,F⟩
theorem ok:ConOk P_ gl 183 c:=cr H func183 .nil (Dv.cons ent201 Dv.nil) rn
end F183
namespace F157
def H:Hd:=⟨[Sl,Sl],[Ol 3],.d,⟨[(183,F183.c)],gl,false⟩,[],f157⟩
def F:=u2 RV
theorem rn x:H.u P_ x=F x:=by kernel_rfl
def c:Con:=⟨H.p,H.r,F⟩
theorem ok:ConOk P_ gl 157 c:=co H func157 (.cons F183.ok .nil) rn
end F157
namespace F120
def H:Hd:=⟨[Si,Si],[Ol 3,Si],.d,⟨[(115,F115.c),(116,F116.c),(156,F156.c),(157,F157.c)],gl,false⟩,[],f120⟩
def F:=u2 Wx
theorem rn x:H.u P_ x=F x:=by kernel_rfl
def c:Con:=⟨H.p,H.r,F⟩
theorem ok:ConOk P_ gl 120 c:=co H func120 (.cons F115.ok (.cons F116.ok (.cons F156.ok (.cons F157.ok .nil)))) rn
end F120
namespace F88
def H:Hd:=⟨[.agg [Si,Si,Si,Si,Si]],[Ol 3,Si],.d,⟨[(80,F80.c),(120,F120.c)],gl,false⟩,[],f88⟩
def F:=u5 Dn
theorem rn x:H.u P_ x=F x:=by kernel_rfl
def c:Con:=⟨H.p,H.r,F⟩
theorem ok:ConOk P_ gl 88 c:=co H func88 (.cons F80.ok (.cons F120.ok .nil)) rn
end F88
namespace F153
def H:Hd:=⟨[.agg [Si,Si,Si,Si,Si],Ss],[Si],.d,⟨[],gl,false⟩,[],f153⟩
def F:=u6 Nb
theorem rn x:H.u P_ x=F x:=by kernel_rfl
def c:Con:=⟨H.p,H.r,F⟩
theorem ok:ConOk P_ gl 153 c:=co H func153 .nil rn
end F153
namespace F150
abbrev R_:=Bool
def H:Hd:=⟨[.agg [Ss,Sb,.agg [Si,Si,Si,Si,Si],Sl,Si,Sb,Sz,Si]],[Sz],(.seq .d (.seq .d (.seq .d (.cut [1,3] [] .d (.seq .d (.seq .d (.seq .d (.cut [1,5] [] (.seq .d (.blk (.loop [1,5,83,84,85] [] .d))) .d)))))))),⟨[(83,F83.c),(88,F88.c),(153,F153.c)],gl,false⟩,[],f150⟩
def t6(y:LI)(o p:LB)(h b f k m:Int)(g:LI)(a:Int)(n:LB)(u:Bool)(v w aa:Int):S:=⟨[(1,.ptr 0 []),(5,vi w),(83,vl y),(84,vi (Ac y)),(85,vi aa)],[.box 53 (.agg [vs o,vb p,.agg [vi h,vi b,vi f,vi k,vi m],vl g,vi a,vb n,vt u,vi v])],[]⟩
def z6:Nat->S->Option R_:=H.i P_ [r,r,r,r,r,r,r,l,r,d]
def x8(w:Int)(o p:LB)(h b f k m:Int)(g:LI)(a:Int)(n:LB)(u:Bool)(v:Int):Option R_:=H.e P_ [r,r,r,r,r,r,r,r] ⟨[(1,.ptr 0 []),(5,vi w)],[.box 53 (.agg [vs o,vb p,.agg [vi h,vi b,vi f,vi k,vi m],vl g,vi a,vb n,vt u,vi v])],[]⟩
def x6(y:LI)(o p:LB)(h b f k m:Int)(g:LI)(a:Int)(n:LB)(u:Bool)(v w aa:Int):Option R_:=H.e P_ [r,r,r,r,r,r,r,l,r,d] (t6 y o p h b f k m g a n u v w aa)
def x5(o p:LB)(h b f k m:Int)(g:LI)(a:Int)(n:LB)(u:Bool)(v:Int)(ab:LI):Option R_:=H.e P_ [r,r,r,r] ⟨[(1,.ptr 0 []),(3,.own 1)],[.box 53 (.agg [vs o,vb p,.agg [vi h,vi b,vi f,vi k,vi m],vl g,vi a,vb n,vt u,vi v]),Ai 3 ab],[]⟩
theorem e8:x8=OB:=by kernel_rfl
theorem i6(y:LI)(o p:LB)(h b f k m:Int)(g:LI)(a:Int)(n:LB)(u:Bool)(v:Int):∀(q:Nat) (w aa:Int),z6 q (t6 y o p h b f k m g a n u v w aa)=Oq y o p h b f k m g a n u v q w aa:=
 ind (λ_ _=>by kernel_rfl) λq ih w aa=>Eq.trans (b:=AE x8 (λw aa=>(z6 q) (t6 y o p h b f k m g a n u v w aa)) y o p h b f k m g a n u v w aa) (by kernel_rfl) (by simp only[e8,ih]<;>rfl)
theorem e6:x6=NN:=by funext y o p h b f k m g a n u v w aa;exact Eq.trans (by kernel_rfl) ((i6 y o p h b f k m g a n u v Dc w aa).trans (by rw[Ax];rfl))
theorem e5:x5=OM:=Eq.trans (b:=NG x6) (by kernel_rfl) (by simp only[e6]<;>rfl)
def F:=u12 Xk
theorem rn x:H.u P_ x=F x:=Eq.trans (b:=u12 (NW x5) x) (by kernel_rfl) (by simp only[e5]<;>rfl)
def c:Con:=⟨H.p,H.r,F⟩
theorem ok:ConOk P_ gl 150 c:=co H func150 (.cons F83.ok (.cons F88.ok (.cons F153.ok .nil))) rn
end F150
namespace F66
def H:Hd:=⟨[Sb,Sb],[Sz],.d,⟨[],gl,false⟩,[],f66⟩
def F:=u2 Fy
theorem rn x:H.u P_ x=F x:=by kernel_rfl
def c:Con:=⟨H.p,H.r,F⟩
theorem ok:ConOk P_ gl 66 c:=co H func66 .nil rn
end F66
namespace F142
def H:Hd:=⟨[Sb,Sb],[Sz],.d,⟨[(66,F66.c)],gl,false⟩,[],f142⟩
def F:=u2 Lp
theorem rn x:H.u P_ x=F x:=by kernel_rfl
def c:Con:=⟨H.p,H.r,F⟩
theorem ok:ConOk P_ gl 142 c:=co H func142 (.cons F66.ok .nil) rn
end F142
namespace F203
abbrev R_:=(Int×Int)
def H:Hd:=⟨[Sb],[Si,Si],(.seq .d (.seq .d (.seq .d (.cut [4] [] (.seq .d (.blk (.loop [4,10,11,12] [] .d))) .d)))),⟨[],gl,false⟩,[],f203⟩
def t4(a:LB)(b f:Int):S:=⟨[(4,vi b),(10,vb a),(11,vi (Ac a)),(12,vi f)],[],[]⟩
def z4:Nat->S->Option R_:=H.i P_ [r,r,r,l,r,d]
def x6(b:Int):Option R_:=H.e P_ [r,r,r,r] ⟨[(4,vi b)],[],[]⟩
def x4(a:LB)(b f:Int):Option R_:=H.e P_ [r,r,r,l,r,d] (t4 a b f)
theorem e6:x6=ZU:=by kernel_rfl
theorem i4(a:LB):∀(q:Nat) (b f:Int),z4 q (t4 a b f)=Mv a q b f:=
 ind (λ_ _=>by kernel_rfl) λq ih b f=>Eq.trans (b:=Xu x6 (λb f=>(z4 q) (t4 a b f)) a b f) (by kernel_rfl) (by simp only[e6,ih]<;>rfl)
theorem e4:x4=IE:=by funext a b f;exact Eq.trans (by kernel_rfl) ((i4 a Dc b f).trans (by rw[Ax];rfl))
def F:=KF
theorem rn x:H.u P_ x=F x:=Eq.trans (b:=IQ x4 x) (by kernel_rfl) (by simp only[e4]<;>rfl)
def c:Con:=⟨H.p,H.r,F⟩
theorem ok:ConOk P_ gl 203 c:=co H func203 .nil rn
end F203
namespace F190
def JC(j5:LB->UInt8->UInt8->Option (Int×Int))(a:LB):Option (Int×Int):=
(Lp a ([(73:UInt8),(68:UInt8),(51:UInt8)]:LB)).bind λn=>
if(!n)then
some (0,6)
else
if(Bt (Ac a) 10)then
some (0,24)
else
(Am a 3).bind λf=>
(Am a 5).bind λb=>
(λo:Option (Int×Int)=>
(λp:Option (Int×Int)=>
both (
both (
bo (
j5 a f b)) [
o,
o]) [
bo2 (
bo (
j5 a f b)),
p,
p]) (
both (
o) [
bo (
j5 a f b),
both (
bo (
j5 a f b)) [
j5 a f b]])) (
both (
j5 a f b) [
bo (
j5 a f b)])
theorem nB: @JC= @AG:=by
  unfold JC AG
  try simp only[aZ,JK,JR]
  all_goals
    repeat (refine funext λ_=>?_)
    repeat' first
      |with_reducible rfl
      |with_reducible refine Nn ?_ ?_
      |with_reducible refine My ?_ ?_ ?_
      |with_reducible refine Mw ?_ ?_ ?_ ?_
      |((with_reducible refine Rq ?_ ?_);focus (intro h;first|(subst h;rfl)|(simp only[h];rfl)|(simp[De,Ac,h];done)))
      |with_reducible refine Sr λx=>?_
      |with_reducible refine AK (λ_=>?_) (λ_=>?_)
      |(refine Hp (λh=>by simp only[h,Ro,Es,El,ite_self]) (λx h=>?_);(try simp only[h,Es]))
      |(refine Ki (λh=>?_) (λh=>?_)<;>simp only[h,if_true,if_false,Bool.false_eq_true])
abbrev R_:=(Int×Int)
def H:Hd:=⟨[Sb],[Si,Si],(.seq .d (.seq .d (.seq .d (.cut [0,4,5] [] (.mode false) (.seq .d (.seq .d (.cut [0,5,6] [] (.cut [0,5,6,43] [] (.keep [0,5,6,7,8,31,32,33,34,35,36,37,38,39,40,41,42,43] true) .d) (.seq .d (.cut [0,5,6] [] .d .d))))))))),⟨[(66,F66.c),(142,F142.c),(203,F203.c)],gl,false⟩,[(204,.d)],f190⟩
def x8(a:LB)(b:UInt8)(h:Int):Option R_:=H.e P_ [r,r,r,r,r,r,r,r,r] ⟨[(0,vb a),(5,.ptr 0 []),(6,vi h)],[.box 5 (vc b)],[]⟩
def x7(a:LB)(g:Int)(b:UInt8):Option R_:=H.e P_ [r,r,r,r,r,r,r] ⟨[(0,vb a),(5,.ptr 0 []),(6,vi g)],[.box 5 (vc b)],[]⟩
def x6(a:LB)(g:Int)(b:UInt8)(m:Bool):Option R_:=H.e P_ [r,r,r,r,r,r,l,r] ⟨[(0,vb a),(5,.ptr 0 []),(6,vi g),(43,vt m)],[.box 5 (vc b)],[]⟩
def x5(a:LB)(f b:UInt8):Option R_:=H.e P_ [r,r,r,r] ⟨[(0,vb a),(4,.ptr 0 []),(5,.ptr 1 [])],[.box 5 (vc f),.box 5 (vc b)],[]⟩
theorem e8:x8=Zw:=by kernel_rfl
theorem e7:x7=Zx:=Eq.trans (b:=NH x8) (by kernel_rfl) (by simp only[e8]<;>rfl)
theorem e6:x6=OJ:=Eq.trans (b:=NK x7) (by kernel_rfl) (by simp only[e7]<;>rfl)
theorem e5:x5=OD:=Eq.trans (b:=NO x6) (by kernel_rfl) (by simp only[e6]<;>rfl)
def F:=QE
theorem rn x:H.u P_ x=F x:=Eq.trans (b:=JC x5 x) (by kernel_rfl) (by unfold F;rw[nB];simp only[e5]<;>rfl)
def c:Con:=⟨H.p,H.r,F⟩
theorem ok:ConOk P_ gl 190 c:=cr H func190 (.cons F66.ok (.cons F142.ok (.cons F203.ok .nil))) (Dv.cons ent204 Dv.nil) rn
end F190
namespace F132
abbrev R_:=(UInt64×Int)
def H:Hd:=⟨[Sb],[Sq,Si],(.seq .d (.seq .d (.seq .d (.cut [4] [] (.seq .d (.blk (.loop [4,15,16,17] [] .d))) .d)))),⟨[],gl,false⟩,[],f132⟩
def t4(a:LB)(b:UInt64)(f:Int):S:=⟨[(4,vq b),(15,vb a),(16,vi (Ac a)),(17,vi f)],[],[]⟩
def z4:Nat->S->Option R_:=H.i P_ [r,r,r,l,r,d]
def x6(b:UInt64):Option R_:=H.e P_ [r,r,r,r] ⟨[(4,vq b)],[],[]⟩
def x4(a:LB)(b:UInt64)(f:Int):Option R_:=H.e P_ [r,r,r,l,r,d] (t4 a b f)
theorem e6:x6=wP:=by kernel_rfl
theorem i4(a:LB):∀(q:Nat) (b:UInt64) (f:Int),z4 q (t4 a b f)=CJ a q b f:=
 ind (λ_ _=>by kernel_rfl) λq ih b f=>Eq.trans (b:=WA x6 (λb f=>(z4 q) (t4 a b f)) a b f) (by kernel_rfl) (by simp only[e6,ih]<;>rfl)
theorem e4:x4=iH:=by funext a b f;exact Eq.trans (by kernel_rfl) ((i4 a Dc b f).trans (by rw[Ax];rfl))
def F:=jG
theorem rn x:H.u P_ x=F x:=Eq.trans (b:=iY x4 x) (by kernel_rfl) (by simp only[e4]<;>rfl)
def c:Con:=⟨H.p,H.r,F⟩
theorem ok:ConOk P_ gl 132 c:=co H func132 .nil rn
end F132
namespace F131
def H:Hd:=⟨[Sb,Si,Si],[Sq,Si],.d,⟨[(132,F132.c)],gl,false⟩,[],f131⟩
def F:=u3 YO
theorem rn x:H.u P_ x=F x:=by kernel_rfl
def c:Con:=⟨H.p,H.r,F⟩
theorem ok:ConOk P_ gl 131 c:=co H func131 (.cons F132.ok .nil) rn
end F131
namespace F144
abbrev R_:=LB
def H:Hd:=⟨[Si,Si,Sq],[Ob 5],(.seq .d (.seq .d (.cut [7] [] (.seq .d (.blk (.loop [7,20,21,22] [] .d))) .d))),⟨[(81,F81.c)],gl,false⟩,[],f144⟩
def t4(a b:Int)(f:UInt64)(h:Int)(g:LB):S:=⟨[(7,.own 0),(20,.own 1),(21,vi (Ac ([(2000:UInt64),(Ae (Ad a (32:Int)):UInt64),(Ae b:UInt64),f,(0:UInt64),(0:UInt64)]:LQ))),(22,vi h)],[Ab 5 g,.arr 36 (.int .u64) ([(2000:UInt64),(Ae (Ad a (32:Int)):UInt64),(Ae b:UInt64),f,(0:UInt64),(0:UInt64)]:LQ)],[]⟩
def z4:Nat->S->Option R_:=H.i P_ [r,r,l,r,d]
def x6(g:LB):Option R_:=H.e P_ [r,r,r] ⟨[(7,.own 0)],[Ab 5 g],[]⟩
def x4(a b:Int)(f:UInt64)(h:Int)(g:LB):Option R_:=H.e P_ [r,r,l,r,d] (t4 a b f h g)
theorem e6:x6=pN:=by kernel_rfl
theorem i4(a b:Int)(f:UInt64):∀(q:Nat) (h:Int) (g:LB),z4 q (t4 a b f h g)=AL a b f q h g:=
 ind (λ_ _=>by kernel_rfl) λq ih h g=>Eq.trans (b:=bI x6 (λh g=>(z4 q) (t4 a b f h g)) a b f h g) (by kernel_rfl) (by simp only[e6,ih]<;>rfl)
theorem e4:x4=pD:=by funext a b f h g;exact Eq.trans (by kernel_rfl) ((i4 a b f Dc h g).trans (by rw[Ax];rfl))
def F:=u3 lY
theorem rn x:H.u P_ x=F x:=Eq.trans (b:=u3 (oX x4) x) (by kernel_rfl) (by simp only[e4]<;>rfl)
def c:Con:=⟨H.p,H.r,F⟩
theorem ok:ConOk P_ gl 144 c:=co H func144 (.cons F81.ok .nil) rn
end F144
namespace F143
def H:Hd:=⟨[Sb,Sq],[.agg [Si,Si],Sz],.d,⟨[(66,F66.c),(131,F131.c),(144,F144.c)],gl,false⟩,[],f143⟩
def F:=u2 QY
theorem rn x:H.u P_ x=F x:=by kernel_rfl
def c:Con:=⟨H.p,H.r,F⟩
theorem ok:ConOk P_ gl 143 c:=co H func143 (.cons F66.ok (.cons F131.ok (.cons F144.ok .nil))) rn
end F143
namespace F191
def H:Hd:=⟨[Sb],[Si,Si],.d,⟨[(66,F66.c),(142,F142.c),(143,F143.c),(144,F144.c)],gl,false⟩,[],f191⟩
def F:=lW
theorem rn x:H.u P_ x=F x:=by kernel_rfl
def c:Con:=⟨H.p,H.r,F⟩
theorem ok:ConOk P_ gl 191 c:=co H func191 (.cons F66.ok (.cons F142.ok (.cons F143.ok (.cons F144.ok .nil)))) rn
end F191
namespace F169
def H:Hd:=⟨[Sb],[Si,Si],.d,⟨[(190,F190.c),(191,F191.c)],gl,false⟩,[],f169⟩
def F:=Vx
theorem rn x:H.u P_ x=F x:=by kernel_rfl
def c:Con:=⟨H.p,H.r,F⟩
theorem ok:ConOk P_ gl 169 c:=co H func169 (.cons F190.ok (.cons F191.ok .nil)) rn
end F169
theorem SX:ConOk Tryz.prog gl 86 Zs:=O2 ent86 F169.ok
namespace F112
def H:Hd:=⟨[Si],[.agg [Sz,Si]],.d,⟨[],gl,false⟩,[],f112⟩
def F:=Ah
theorem rn x:H.u P_ x=F x:=by kernel_rfl
def c:Con:=⟨H.p,H.r,F⟩
theorem ok:ConOk P_ gl 112 c:=co H func112 .nil rn
end F112
namespace F170
def H:Hd:=⟨[Ss,Ss],[Sz],.d,⟨[],gl,false⟩,[],f170⟩
def F:=u2 Gg
theorem rn x:H.u P_ x=F x:=by kernel_rfl
def c:Con:=⟨H.p,H.r,F⟩
theorem ok:ConOk P_ gl 170 c:=co H func170 .nil rn
end F170
namespace F130
def H:Hd:=⟨[Ss,Ss],[Sz],.d,⟨[(170,F170.c)],gl,false⟩,[],f130⟩
def F:=u2 Ih
theorem rn x:H.u P_ x=F x:=by kernel_rfl
def c:Con:=⟨H.p,H.r,F⟩
theorem ok:ConOk P_ gl 130 c:=co H func130 (.cons F170.ok .nil) rn
end F130
namespace F152
abbrev R_:=Bool
def H:Hd:=⟨[Sb],[Sz],(.seq .d (.cut [] [] (.seq .d (.blk (.loop [0,5,6] [] .d))) .d)),⟨[(130,F130.c)],gl,false⟩,[],f152⟩
def t4(a:LB)(b:Int):S:=⟨[(0,vb a),(5,.val (.vec 2 .str) ([([73,68,51]:LB),([65,80,69,84,65,71,69,88]:LB)]:List LB)),(6,vi b)],[],[]⟩
def z4:Nat->S->Option R_:=H.i P_ [r,l,r,d]
def x6:Option R_:=H.e P_ [r,r] ⟨[],[],[]⟩
def x4(a:LB)(b:Int):Option R_:=H.e P_ [r,l,r,d] (t4 a b)
theorem e6:x6=eT:=by kernel_rfl
theorem i4(a:LB):∀(q:Nat) (b:Int),z4 q (t4 a b)=Jg a q b:=
 ind (λ_=>by kernel_rfl) λq ih b=>Eq.trans (b:=Ti x6 (λb=>(z4 q) (t4 a b)) a b) (by kernel_rfl) (by simp only[e6,ih]<;>rfl)
theorem e4:x4=NZ:=by funext a b;exact Eq.trans (by kernel_rfl) ((i4 a Dc b).trans (by rw[Ax];rfl))
def F:=Pf
theorem rn x:H.u P_ x=F x:=Eq.trans (b:=NV x4 x) (by kernel_rfl) (by simp only[e4]<;>rfl)
def c:Con:=⟨H.p,H.r,F⟩
theorem ok:ConOk P_ gl 152 c:=co H func152 (.cons F130.ok .nil) rn
end F152
namespace F87
abbrev R_:=(Int×Int×Int×Int×Int×Int)
def H:Hd:=⟨[Sb],[.agg [Si,Si,Si,Si,Si],Si],(.seq .d (.seq .d (.seq .d (.seq .d (.seq .d (.seq .d (.seq .d (.cut [2,8] [] (.seq .d (.blk (.loop [0,2,8,9,44,45] [] .d))) .d)))))))),⟨[(82,F82.c),(125,F125.c),(126,F126.c),(130,F130.c),(131,F131.c)],gl,false⟩,[],f87⟩
def t4(b:LB)(g f:Int)(a:LI):S:=⟨[(0,vb b),(2,.ptr 0 []),(8,.ptr 1 []),(9,vi g),(44,.val (.vec 5 (.int .i64)) ([(2:Int),(2:Int),(2:Int),(4:Int),(4:Int)]:LI)),(45,vi f)],[.box 50 (.agg [vi 0,vi 0,vi 0,vi 0,vi 0]),.box 135 (.val (.vec 5 (.int .i64)) a)],[]⟩
def z4:Nat->S->Option R_:=H.i P_ [r,r,r,r,r,r,r,l,r,d]
def x6(a:LI):Option R_:=H.e P_ [r,r,r,r,r,r,r,r] ⟨[(2,.ptr 0 []),(8,.ptr 1 [])],[.box 50 (.agg [vi 0,vi 0,vi 0,vi 0,vi 0]),.box 135 (.val (.vec 5 (.int .i64)) a)],[]⟩
def x4(b:LB)(g f:Int)(a:LI):Option R_:=H.e P_ [r,r,r,r,r,r,r,l,r,d] (t4 b g f a)
theorem e6:x6=DE:=by kernel_rfl
theorem i4(b:LB):∀(q:Nat) (g f:Int) (a:LI),z4 q (t4 b g f a)=Mz b q g f a:=
 ind (λ_ _ _=>by kernel_rfl) λq ih g f a=>Eq.trans (b:=GN x6 (λg f a=>(z4 q) (t4 b g f a)) b g f a) (by kernel_rfl) (by simp only[e6,ih]<;>rfl)
theorem e4:x4=DT:=by funext b g f a;exact Eq.trans (by kernel_rfl) ((i4 b Dc g f a).trans (by rw[Ax];rfl))
def F:=Mm
theorem rn x:H.u P_ x=F x:=Eq.trans (b:=TM x4 x) (by kernel_rfl) (by simp only[e4]<;>rfl)
def c:Con:=⟨H.p,H.r,F⟩
theorem ok:ConOk P_ gl 87 c:=co H func87 (.cons F82.ok (.cons F125.ok (.cons F126.ok (.cons F130.ok (.cons F131.ok .nil))))) rn
end F87
namespace F89
def H:Hd:=⟨[Sb,Ss],[Sz,Si],.d,⟨[(38,F38.c),(66,F66.c)],gl,false⟩,[],f89⟩
def F:=u2 Xn
theorem rn x:H.u P_ x=F x:=by kernel_rfl
def c:Con:=⟨H.p,H.r,F⟩
theorem ok:ConOk P_ gl 89 c:=co H func89 (.cons F38.ok (.cons F66.ok .nil)) rn
end F89
namespace F90
abbrev R_:=(LI×Int)
def H:Hd:=⟨[Sb,Si],[Ol 3,Si],(.seq .d (.seq .d (.seq .d (.seq .d (.seq .d (.seq .d (.cut [10] [] (.seq .d (.blk (.loop [0,10,48,49] [] .d))) .d))))))),⟨[(82,F82.c),(83,F83.c),(131,F131.c)],gl,false⟩,[],f90⟩
def t4(b:LB)(f:LI)(g:Int)(a:LI):S:=⟨[(0,vb b),(10,.own 0),(48,vi (Ac f)),(49,vi g)],[Ai 3 a],[]⟩
def z4:Nat->S->Option R_:=H.i P_ [r,r,r,r,r,r,l,r,d]
def x6(a:LI):Option R_:=H.e P_ [r,r,r,r,r,r,r] ⟨[(10,.own 0)],[Ai 3 a],[]⟩
def x4(b:LB)(f:LI)(g:Int)(a:LI):Option R_:=H.e P_ [r,r,r,r,r,r,l,r,d] (t4 b f g a)
theorem e6:x6=JY:=by kernel_rfl
theorem i4(b:LB)(f:LI):∀(q:Nat) (g:Int) (a:LI),z4 q (t4 b f g a)=Tk b f q g a:=
 ind (λ_ _=>by kernel_rfl) λq ih g a=>Eq.trans (b:=KL x6 (λg a=>(z4 q) (t4 b f g a)) b f g a) (by kernel_rfl) (by simp only[e6,ih]<;>rfl)
theorem e4:x4=XK:=by funext b f g a;exact Eq.trans (by kernel_rfl) ((i4 b f Dc g a).trans (by rw[Ax];rfl))
def F:=u2 JB
theorem rn x:H.u P_ x=F x:=Eq.trans (b:=u2 (XT x4) x) (by kernel_rfl) (by simp only[e4]<;>rfl)
def c:Con:=⟨H.p,H.r,F⟩
theorem ok:ConOk P_ gl 90 c:=co H func90 (.cons F82.ok (.cons F83.ok (.cons F131.ok .nil))) rn
end F90
namespace F154
def H:Hd:=⟨[.agg [Si,Si,Si,Si,Si]],[.agg [Si,Si]],.d,⟨[],gl,false⟩,[],f154⟩
def F:=u5 Zn
theorem rn x:H.u P_ x=F x:=by kernel_rfl
def c:Con:=⟨H.p,H.r,F⟩
theorem ok:ConOk P_ gl 154 c:=co H func154 .nil rn
end F154
namespace F93
def H:Hd:=⟨[Sb],[Sb,Si],.d,⟨[(82,F82.c),(132,F132.c)],gl,false⟩,[],f93⟩
def F:=DM
theorem rn x:H.u P_ x=F x:=by kernel_rfl
def c:Con:=⟨H.p,H.r,F⟩
theorem ok:ConOk P_ gl 93 c:=co H func93 (.cons F82.ok (.cons F132.ok .nil)) rn
end F93
namespace F94
def H:Hd:=⟨[Sb],[.agg [Ob 5,Si],Si],.d,⟨[(107,F107.c)],gl,false⟩,[],f94⟩
def F:=ig
theorem rn x:H.u P_ x=F x:=by kernel_rfl
def c:Con:=⟨H.p,H.r,F⟩
theorem ok:ConOk P_ gl 94 c:=co H func94 (.cons F107.ok .nil) rn
end F94
namespace F137
abbrev R_:=UInt64
def H:Hd:=⟨[.agg [Sb,Si],Si,Si],[Sq],(.seq .d (.seq .d (.cut [7] [] (.blk (.loop [1,2,3,7,8] [] .d)) .d))),⟨[],gl,false⟩,[],f137⟩
def t4(b f:Int)(h:LB)(k:Int)(g:UInt64)(a:Int):S:=⟨[(1,vi b),(2,vi f),(3,.ptr 0 []),(7,vq g),(8,vi a)],[.box 153 (.agg [vb h,vi k])],[]⟩
def z4:Nat->S->Option R_:=H.i P_ [r,r,l,d]
def x6(g:UInt64):Option R_:=H.e P_ [r,r,r] ⟨[(7,vq g)],[],[]⟩
def x4(b f:Int)(h:LB)(k:Int)(g:UInt64)(a:Int):Option R_:=H.e P_ [r,r,l,d] (t4 b f h k g a)
theorem e6:x6=xI:=by kernel_rfl
theorem i4(b f:Int)(h:LB)(k:Int):∀(q:Nat) (g:UInt64) (a:Int),z4 q (t4 b f h k g a)=MF b f h k q g a:=
 ind (λ_ _=>by kernel_rfl) λq ih g a=>Eq.trans (b:=iL x6 (λg a=>(z4 q) (t4 b f h k g a)) b f h k g a) (by kernel_rfl) (by simp only[e6,ih]<;>rfl)
theorem e4:x4=xQ:=by funext b f h k g a;exact Eq.trans (by kernel_rfl) ((i4 b f h k Dc g a).trans (by rw[Ax];rfl))
def F:=u4 sM
theorem rn x:H.u P_ x=F x:=Eq.trans (b:=u4 (xR x4) x) (by kernel_rfl) (by simp only[e4]<;>rfl)
def c:Con:=⟨H.p,H.r,F⟩
theorem ok:ConOk P_ gl 137 c:=co H func137 .nil rn
end F137
namespace F134
abbrev R_:=(LB×Int×Int)
abbrev K_:=S->Option R_
def H:Hd:=⟨[.agg [Sb,Si],Si,Si],[.agg [Ob 5,Si],Si],(.seq .d (.seq .d (.seq .d (.seq .d (.cut [6,8] [] (.seq .d (.blk (.loop [2,3,6,8,9] [⟨8,[0],.own 5 (.int .u8)⟩] (.seq .d (.cut [2,3,6,8,9] [] (.blk (.seq .d (.keep [2,3,6,8,9,10,39,40,41,42,43] true))) .d))))) .d))))),⟨[(136,F136.c),(137,F137.c)],gl,false⟩,[(171,(.blk (.loop [0,1,2] [] (.seq .d (.blk (.cut [0,1,2] [] .d (.seq .d (.cut [0,1,2,7] [] .d .d))))))))],f134⟩
def t44(a:Int)(g:LB)(f b:Int)(k n:UInt64)(m h:Int)(u:LB):S:=⟨[(0,.ptr 0 []),(1,vq n),(2,vi m)],[.box 153 (.agg [.own 3,vi h]),.box 153 (.agg [vb g,vi f]),.box 153 (.agg [.nils,vi 0]),Ab 5 u],[[(2,vi a),(3,.ptr 1 []),(6,.ptr 2 []),(8,.ptr 0 []),(9,vi b),(10,vi (Eo (64:Int) (Ak a b))),(39,.agg [vb g,vi f]),(40,vi b),(41,vi (Eo (64:Int) (Ak a b))),(42,vq k),(43,vi (Eo (64:Int) (Ak a b)))]]⟩
def z44(Kr:K_):Nat->S->Option R_:=H.i P_ [r,r,r,r,l,r,d,(lp Kr),r,l,d,r,(call 5 171),d]
def t27(a:Int)(g:LB)(f b o:Int)(p:LB):S:=⟨[(2,vi a),(3,.ptr 0 []),(6,.ptr 1 []),(8,.ptr 2 []),(9,vi b)],[.box 153 (.agg [vb g,vi f]),.box 153 (.agg [.nils,vi 0]),.box 153 (.agg [.own 3,vi o]),Ab 5 p],[]⟩
def z27:Nat->S->Option R_:=H.i P_ [r,r,r,r,l,r,d]
def x52(o:Int)(p:LB):Option R_:=H.e P_ [r,r,r,r,r] ⟨[(6,.ptr 0 []),(8,.ptr 1 [])],[.box 153 (.agg [.nils,vi 0]),.box 153 (.agg [.own 2,vi o]),Ab 5 p],[]⟩
def x50(Kr:K_)(a:Int)(g:LB)(f b h:Int)(u:LB):Option R_:=H.e P_ [r,r,r,r,l,r,d,(lp Kr),r,r] ⟨[(2,vi a),(3,.ptr 0 []),(6,.ptr 1 []),(8,.ptr 2 []),(9,vi b)],[.box 153 (.agg [vb g,vi f]),.box 153 (.agg [.nils,vi 0]),.box 153 (.agg [.own 3,vi h]),Ab 5 u],[]⟩
def x48(Kr YH:K_)(a b:Int)(g:LB)(f:Int)(k n:UInt64)(m h:Int)(w:LB):Option R_:=H.e P_ [r,r,r,r,l,r,d,(lp Kr),r,l,d,r,(call 5 171),d,(lp YH),r,d,r,r,r] ⟨[(0,.ptr 0 []),(1,vq n),(2,vi m),(7,vi (Eo m (Ak (8:Int) (Eb h (7:Int)))))],[.box 153 (.agg [.own 3,vi h]),.box 153 (.agg [vb g,vi f]),.box 153 (.agg [.nils,vi 0]),Ab 5 w],[[(2,vi a),(3,.ptr 1 []),(6,.ptr 2 []),(8,.ptr 0 []),(9,vi b),(10,vi (Eo (64:Int) (Ak a b))),(39,.agg [vb g,vi f]),(40,vi b),(41,vi (Eo (64:Int) (Ak a b))),(42,vq k),(43,vi (Eo (64:Int) (Ak a b)))]]⟩
def x47(Kr YH:K_)(a b:Int)(g:LB)(f:Int)(k n:UInt64)(m h:Int)(v:LB):Option R_:=H.e P_ [r,r,r,r,l,r,d,(lp Kr),r,l,d,r,(call 5 171),d,(lp YH),r,d,r] ⟨[(0,.ptr 0 []),(1,vq n),(2,vi m)],[.box 153 (.agg [.own 3,vi h]),.box 153 (.agg [vb g,vi f]),.box 153 (.agg [.nils,vi 0]),Ab 5 v],[[(2,vi a),(3,.ptr 1 []),(6,.ptr 2 []),(8,.ptr 0 []),(9,vi b),(10,vi (Eo (64:Int) (Ak a b))),(39,.agg [vb g,vi f]),(40,vi b),(41,vi (Eo (64:Int) (Ak a b))),(42,vq k),(43,vi (Eo (64:Int) (Ak a b)))]]⟩
def x44(Kr:K_)(a:Int)(g:LB)(f b:Int)(k n:UInt64)(m h:Int)(u:LB):Option R_:=H.e P_ [r,r,r,r,l,r,d,(lp Kr),r,l,d,r,(call 5 171),d] (t44 a g f b k n m h u)
def x27(a:Int)(g:LB)(f b o:Int)(p:LB):Option R_:=H.e P_ [r,r,r,r,l,r,d] (t27 a g f b o p)
theorem e52:x52=cE:=by kernel_rfl
theorem e50(Kr:K_)(a:Int)(g:LB)(f:Int):x50 Kr a g f=QM (λb o p=>Kr (t27 a g f b o p)) a g f:=by kernel_rfl
theorem e48(Kr YH:K_)(a:Int)(g:LB)(f b:Int)(k:UInt64):x48 Kr YH a b g f k=cC (λn m h u=>YH (t44 a g f b k n m h u)) a b g f k:=by kernel_rfl
theorem e47(Kr YH:K_)(a:Int)(g:LB)(f b:Int)(k:UInt64):x47 Kr YH a b g f k=QL (λn m h u=>YH (t44 a g f b k n m h u)) a b g f k:=Eq.trans (b:=dL (x48 Kr YH a b g f k) a b g f k) (by kernel_rfl) (by simp only[e48]<;>rfl)
theorem i44(Kr:K_)(a:Int)(g:LB)(f b:Int)(k:UInt64):∀(q:Nat) (n:UInt64) (m h:Int) (u:LB),z44 Kr q (t44 a g f b k n m h u)=Pa (λb o p=>Kr (t27 a g f b o p)) a g f b k q n m h u:=
 ind (λ_ _ _ _=>by kernel_rfl) λq ih n m h u=>Eq.trans (b:=QU (x47 Kr (z44 Kr q) a b g f k) (x50 Kr a g f) a g f b k n m h u) (by kernel_rfl) (by simp only[e47,e50,ih]<;>rfl)
theorem e44(Kr:K_)(a:Int)(g:LB)(f:Int):x44 Kr a g f=bV (λb o p=>Kr (t27 a g f b o p)) a g f:=by funext b k n m h u;exact Eq.trans (by kernel_rfl) ((i44 Kr a g f b k Dc n m h u).trans (by rw[Ax];rfl))
theorem i27(a:Int)(g:LB)(f:Int):∀(q:Nat) (b o:Int) (p:LB),z27 q (t27 a g f b o p)=Xy a g f q b o p:=
 ind (λ_ _ _=>by kernel_rfl) λq ih b o p=>Eq.trans (b:=dR (x44 (z27 q) a g f) x52 a g f b o p) (by kernel_rfl) (by simp only[e44,e52,ih]<;>rfl)
theorem e27:x27=bS:=by funext a g f b o p;exact Eq.trans (by kernel_rfl) ((i27 a g f Dc b o p).trans (by rw[Ax];rfl))
def F:=u4 lC
theorem rn x:H.u P_ x=F x:=Eq.trans (b:=u4 (jX x27) x) (by kernel_rfl) (by simp only[e27]<;>rfl)
def c:Con:=⟨H.p,H.r,F⟩
theorem ok:ConOk P_ gl 134 c:=cr H func134 (.cons F136.ok (.cons F137.ok .nil)) (Dv.cons ent171 Dv.nil) rn
end F134
namespace F96
def H:Hd:=⟨[.agg [Sb,Si],Si,Si],[Sq,Si],.d,⟨[(136,F136.c),(137,F137.c)],gl,false⟩,[],f96⟩
def F:=u4 FW
theorem rn x:H.u P_ x=F x:=by kernel_rfl
def c:Con:=⟨H.p,H.r,F⟩
theorem ok:ConOk P_ gl 96 c:=co H func96 (.cons F136.ok (.cons F137.ok .nil)) rn
end F96
namespace F206
def H:Hd:=⟨[Sq],[Si],.d,⟨[],gl,false⟩,[],f206⟩
def F:=Gn
theorem rn x:H.u P_ x=F x:=by kernel_rfl
def c:Con:=⟨H.p,H.r,F⟩
theorem ok:ConOk P_ gl 206 c:=co H func206 .nil rn
end F206
namespace F192
def SD(j6:Int->UInt64->Int->LB->Int->Option (Int×Int×Int))(g:LB)(b a:Int):Option (Int×Int×Int):=
(Kh g b).bind λm=>
if(Bd m 0)then
some (0,0,m)
else
if(Bt a 0)then
some (0,0,2)
else
if(Je a b)then
some (0,0,24)
else
(λn:Option (Int×Int×Int)=>
(λo:Option (Int×Int×Int)=>
bo2 (
o)) (
bo (
n))) (
(FW g b a (Eo 48 (Ak b a))).bind λ(k,h)=>
j6 h k a g b)
theorem tR: @SD= @Zl:=by
  unfold SD Zl;simp only[aZ,JK,JR]
abbrev R_:=(Int×Int×Int)
def H:Hd:=⟨[.agg [Sb,Si],Si],[Si,Si,Si],(.seq .d (.seq .d (.seq .d (.seq .d (.seq .d (.cut [3,5,6,8,9] [] (.keep [2,3,5,6,8,9,22,23,24,25,26,27,28,29] false) (.seq .d (.seq .d (.cut [] [] (.blk (.seq (.blk (.seq (.blk (.cut [] [] (.cut [3,4,5] [] (.cut [3,4,5,36] [] (.keep [3,4,5,8,36,37,38,39,40] true) .d) .d) .d)) .d)) .d)) .d))))))))),⟨[(96,F96.c),(136,F136.c),(206,F206.c)],gl,false⟩,[(205,.d)],f192⟩
def x10:Option R_:=H.e P_ [r,r,r,r,r,r,r,r,r] ⟨[],[],[]⟩
def x9:Option R_:=H.e P_ [r,r,r,r,r,r,r,r,l,d,l,d,l,d,r] ⟨[],[],[]⟩
def x8(f a:Int):Option R_:=H.e P_ [r,r,r,r,r,r,r,r,l,d,l,d,l,d,l,r] ⟨[(3,.ptr 0 []),(4,vi f),(5,vi 0)],[.box 3 (vi a)],[]⟩
def x7(f b a:Int):Option R_:=H.e P_ [r,r,r,r,r,r,r,r,l,d,l,d,l,d,l,l,r] ⟨[(3,.ptr 0 []),(4,vi f),(5,vi 0),(36,vt (Bt f (Eo (48:Int) (Ak b a))))],[.box 3 (vi a)],[]⟩
def x6(h:Int)(k:UInt64)(a:Int)(g:LB)(b:Int):Option R_:=H.e P_ [r,r,r,r,r,r] ⟨[(3,.ptr 0 []),(5,vi 0),(6,vi h),(8,.fn 205 [.ptr 1 [],.ptr 0 []]),(9,vq k)],[.box 3 (vi a),.box 153 (.agg [vb g,vi b])],[]⟩
theorem e10:x10=jF:=by kernel_rfl
theorem e9:x9=oR:=Eq.trans (b:=oM x10) (by kernel_rfl) (by simp only[e10]<;>rfl)
theorem e8:x8=XA:=Eq.trans (b:=XY x9) (by kernel_rfl) (by simp only[e9]<;>rfl)
theorem e7:x7=WV:=Eq.trans (b:=XX x8) (by kernel_rfl) (by simp only[e8]<;>rfl)
theorem e6:x6=YF:=Eq.trans (b:=YG x7) (by kernel_rfl) (by simp only[e7]<;>rfl)
def F:=u3 IM
theorem rn x:H.u P_ x=F x:=Eq.trans (b:=u3 (SD x6) x) (by kernel_rfl) (by unfold F;rw[tR];simp only[e6]<;>rfl)
def c:Con:=⟨H.p,H.r,F⟩
theorem ok:ConOk P_ gl 192 c:=cr H func192 (.cons F96.ok (.cons F136.ok (.cons F206.ok .nil))) (Dv.cons ent205 Dv.nil) rn
end F192
namespace F172
abbrev R_:=(UInt32×Int×Int)
def H:Hd:=⟨[.agg [Sb,Si],Si,Si],[Su,Si,Si],(.seq .d (.seq .d (.seq .d (.seq .d (.seq .d (.seq .d (.cut [2,3,7,10,11] [] .d .d))))))),⟨[(96,F96.c),(136,F136.c),(187,F187.c),(192,F192.c)],gl,false⟩,[],f172⟩
def x2(a b f:Int)(g:LB)(h k:Int):Option R_:=H.e P_ [r,r,r,r,r,r,r] ⟨[(2,vi a),(3,.ptr 0 []),(7,vi b),(10,vi f),(11,vi k)],[.box 153 (.agg [vb g,vi h])],[]⟩
theorem e2:x2=QW:=by kernel_rfl
def F:=u4 mE
theorem rn x:H.u P_ x=F x:=Eq.trans (b:=u4 (bO x2) x) (by kernel_rfl) (by simp only[e2]<;>rfl)
def c:Con:=⟨H.p,H.r,F⟩
theorem ok:ConOk P_ gl 172 c:=co H func172 (.cons F96.ok (.cons F136.ok (.cons F187.ok (.cons F192.ok .nil)))) rn
end F172
namespace F135
abbrev R_:=(UInt32×Int×Int×Int×UInt64×UInt64×Int)
def H:Hd:=⟨[.agg [Sb,Si],Si,.agg [Si,Si,Sq,Sq]],[Su,Si,.agg [Si,Si,Sq,Sq],Si],(.seq .d (.cut [1,3,5,8] [] .d (.seq .d (.seq .d (.cut [5,6,7,8] [] .d (.cut [5,6,7,8] [] (.keep [5,6,7,8,81] true) .d)))))),⟨[(96,F96.c),(136,F136.c),(162,F162.c),(163,F163.c),(172,F172.c)],gl,false⟩,[(166,(.seq .d (.seq .d (.seq .d (.blk (.cut [0,1,4] [] (.blk (.seq .d (.keep [0,1,4,6,18,19,20,21,22,23,24,25] true))) (.cut [] [] (.keep [0,1,4,27,28,29,30,31,32,33,34] true) .d))))))),(189,.d)],f135⟩
def x10(f:UInt32)(k w m:Int)(a n:UInt64):Option R_:=H.e P_ [r,r,r,r,r,r] ⟨[(5,.ptr 0 []),(6,vu f),(7,vi k),(8,.ptr 1 [])],[.box 180 (.agg [vi w,vi m,vq (Ad a (Ak (Ae f:UInt64) (Ce a (GI.toZ (4:UInt64)).toNat))),vq n]),.box 180 (.agg [vi 0,vi 0,vq 0,vq 0])],[]⟩
def x9(f:UInt32)(k m:Int)(a n:UInt64)(w:Int):Option R_:=H.e P_ [r,r,r,r,r,l,(call 1 166),r,r,r,d,r,r] ⟨[],[.box 180 (.agg [vi w,vi m,vq (Ad a (Ak (Ae f:UInt64) (Ce a (GI.toZ (4:UInt64)).toNat))),vq n]),.box 180 (.agg [vi 0,vi 0,vq 0,vq 0])],[[(5,.ptr 0 []),(6,vu f),(7,vi k),(8,.ptr 1 []),(81,vu f)]]⟩
def x8(f:UInt32)(k b:Int)(a:UInt64)(m:Int)(n:UInt64):Option R_:=H.e P_ [r,r,r,r,r,l,(call 1 166),r,r,r,d,r] ⟨[(0,.ptr 0 []),(1,vu f),(4,.fn 189 [])],[.box 180 (.agg [vi b,vi m,vq a,vq n]),.box 180 (.agg [vi 0,vi 0,vq 0,vq 0])],[[(5,.ptr 0 []),(6,vu f),(7,vi k),(8,.ptr 1 []),(81,vu f)]]⟩
def x7(b h:Int)(a g:UInt64)(f:UInt32)(k:Int):Option R_:=H.e P_ [r,r,r,r,r] ⟨[(5,.ptr 0 []),(6,vu f),(7,vi k),(8,.ptr 1 [])],[.box 180 (.agg [vi b,vi h,vq a,vq g]),.box 180 (.agg [vi 0,vi 0,vq 0,vq 0])],[]⟩
def x6(p:Int)(u:LB)(v b h:Int)(a g:UInt64):Option R_:=H.e P_ [r,r] ⟨[(1,vi p),(3,.ptr 0 []),(5,.ptr 1 []),(8,.ptr 2 [])],[.box 153 (.agg [vb u,vi v]),.box 180 (.agg [vi b,vi h,vq a,vq g]),.box 180 (.agg [vi 0,vi 0,vq 0,vq 0])],[]⟩
theorem e10:x10=XI:=by kernel_rfl
theorem e9:x9=bY:=Eq.trans (b:=cR x10) (by kernel_rfl) (by simp only[e10]<;>rfl)
theorem e8:x8=ES:=Eq.trans (b:=dQ x9) (by kernel_rfl) (by simp only[e9]<;>rfl)
theorem e7:x7=QI:=Eq.trans (b:=bG x8) (by kernel_rfl) (by simp only[e8]<;>rfl)
theorem e6:x6=dE:=Eq.trans (b:=dD x7) (by kernel_rfl) (by simp only[e7]<;>rfl)
def F:=u7 IY
theorem rn x:H.u P_ x=F x:=Eq.trans (b:=u7 (cW x6) x) (by kernel_rfl) (by simp only[e6]<;>rfl)
def c:Con:=⟨H.p,H.r,F⟩
theorem ok:ConOk P_ gl 135 c:=cr H func135 (.cons F96.ok (.cons F136.ok (.cons F162.ok (.cons F163.ok (.cons F172.ok .nil))))) (Dv.cons ent166 (Dv.cons ent189 Dv.nil)) rn
end F135
namespace F95
def Yw(j21:Int->Int->Int->UInt32->Int-> (List (Int×Int×UInt64×UInt64×Unit))->LU->Int->Int->UInt64->UInt64->Option (LU×Int×Int))(j24:Int->LU->Option (LU×Int×Int))(a f:Int)(g:LB)(b k h:Int)(n:List (Int×Int×UInt64×UInt64×Unit))(m:LU):Option (LU×Int×Int):=
if(Bt h (Bj f a))then
(lC g b k (Eo (Ad k 81) b)).bind λ(ah,ae,af)=>
if(Bd af 0)then
some (([]:LU),0,af)
else
(Hj (Bd a 0)).bind λ_=>
(Am n (Fl h a)).bind λ_=>
(λai:Option (LU×Int×Int)=>
both (
both (
(Am n (Fl h a)).bind λp=>
(λao:Option (LU×Int×Int)=>
bo (
ao)) (
(IY ah ae 0 p.1 p.2.1 p.2.2.1 p.2.2.2.1).bind λ(w,v,aa,ab,ac,ad,y)=>
j21 k h y w v n m aa ab ac ad)) [
ai]) [
(Am n (Fl h a)).bind λp=>
(λaj:Option (LU×Int×Int)=>
both (
bo (
aj)) [
aj]) (
(IY ah ae 0 p.1 p.2.1 p.2.2.1 p.2.2.2.1).bind λ(w,v,aa,ab,ac,ad,y)=>
j21 k h y w v n m aa ab ac ad),
bo (
ai)]) (
(Am n (Fl h a)).bind λp=>
(IY ah ae 0 p.1 p.2.1 p.2.2.1 p.2.2.2.1).bind λ(w,v,aa,ab,ac,ad,y)=>
j21 k h y w v n m aa ab ac ad)
else
j24 k m
theorem dC: @Yw= @Rr:=by
  unfold Yw Rr
  try simp only[aZ,JK,JR]
  all_goals
    repeat (refine funext λ_=>?_)
    repeat' first
      |with_reducible rfl
      |with_reducible refine Nn ?_ ?_
      |with_reducible refine My ?_ ?_ ?_
      |with_reducible refine Mw ?_ ?_ ?_ ?_
      |((with_reducible refine Rq ?_ ?_);focus (intro h;first|(subst h;rfl)|(simp only[h];rfl)|(simp[De,Ac,h];done)))
      |with_reducible refine Sr λx=>?_
      |with_reducible refine AK (λ_=>?_) (λ_=>?_)
      |(refine Hp (λh=>by simp only[h,Ro,Es,El,ite_self]) (λx h=>?_);(try simp only[h,Es]))
      |(refine Ki (λh=>?_) (λh=>?_)<;>simp only[h,if_true,if_false,Bool.false_eq_true])
abbrev R_:=(LU×Int×Int)
abbrev K_:=S->Option R_
def H:Hd:=⟨[Si,Si,.agg [Sb,Si]],[Ov 137,Si,Si],(.seq .d (.seq .d (.cut [0,1,5,9] [] (.seq .d (.blk (.loop [0,1,5,9,19] [] .d))) (.seq .d (.seq .d (.cut [11,12] [] (.seq .d (.blk (.loop [0,5,9,11,12,28,29] [⟨11,[],.own 137 (.int .u32)⟩] (.seq .d (.seq .d (.seq (.blk (.seq .d (.seq .d (.seq .d (.cut [0,5,9,11,12,13,15,16,17,18,28,29] [] (.mode false) (.seq .d (.cut [0,5,9,11,12,16,28,29] [] .d .d))))))) .d)))))) .d)))))),⟨[(133,F133.c),(134,F134.c),(135,F135.c)],gl,false⟩,[],f95⟩
def t16(a f:Int)(g:LB)(b k h:Int)(n:List (Int×Int×UInt64×UInt64×Unit))(m:LU):S:=⟨[(0,vi a),(5,.ptr 0 []),(9,.ptr 1 []),(11,.own 2),(12,vi k),(28,vi (Bj f a)),(29,vi h)],[.box 153 (.agg [vb g,vi b]),.box 181 (.val (.vec 6 (.cons (.int .i64) (.cons (.int .i64) (.cons (.int .u64) (.cons (.int .u64) .nil))))) n),Av 137 m],[]⟩
def z16:Nat->S->Option R_:=H.i P_ [r,r,r,r,r,l,r,d]
def t13(a f:Int)(g:LB)(b u:Int)(o:List (Int×Int×UInt64×UInt64×Unit)):S:=⟨[(0,vi a),(1,vi f),(5,.ptr 0 []),(9,.ptr 1 []),(19,vi u)],[.box 153 (.agg [vb g,vi b]),.box 181 (.val (.vec 6 (.cons (.int .i64) (.cons (.int .i64) (.cons (.int .u64) (.cons (.int .u64) .nil))))) o)],[]⟩
def z13:Nat->S->Option R_:=H.i P_ [r,r,l,r,d]
def x24(k:Int)(m:LU):Option R_:=H.e P_ [r,r,r,r,r,r] ⟨[(11,.own 0),(12,vi k)],[Av 137 m],[]⟩
def x22(Ch:K_)(a f:Int)(g:LB)(b k v:Int)(w:UInt32)(h:Int)(ag:List (Int×Int×UInt64×UInt64×Unit))(m:LU):Option R_:=H.e P_ [r,r,r,r,r,l,r,d,(lp Ch),r,r,l,d,r,r,r,r,r,r] ⟨[(0,vi a),(5,.ptr 0 []),(9,.ptr 1 []),(11,.own 2),(12,vi (Ad k v)),(16,vu w),(28,vi (Bj f a)),(29,vi h)],[.box 153 (.agg [vb g,vi b]),.box 181 (.val (.vec 6 (.cons (.int .i64) (.cons (.int .i64) (.cons (.int .u64) (.cons (.int .u64) .nil))))) ag),Av 137 m],[]⟩
def x21(Ch:K_)(a f:Int)(g:LB)(b k h y:Int)(w:UInt32)(v:Int)(n:List (Int×Int×UInt64×UInt64×Unit))(m:LU)(aa ab:Int)(ac ad:UInt64):Option R_:=H.e P_ [r,r,r,r,r,l,r,d,(lp Ch),r,r,l,d,r,r,r,r] ⟨[(0,vi a),(5,.ptr 0 []),(9,.ptr 1 []),(11,.own 2),(12,vi k),(13,vi h),(15,vi y),(16,vu w),(17,vi v),(18,.ptr 3 []),(28,vi (Bj f a)),(29,vi h)],[.box 153 (.agg [vb g,vi b]),.box 181 (.val (.vec 6 (.cons (.int .i64) (.cons (.int .i64) (.cons (.int .u64) (.cons (.int .u64) .nil))))) n),Av 137 m,.box 180 (.agg [vi aa,vi ab,vq ac,vq ad])],[]⟩
def x16(a f:Int)(g:LB)(b k h:Int)(n:List (Int×Int×UInt64×UInt64×Unit))(m:LU):Option R_:=H.e P_ [r,r,r,r,r,l,r,d] (t16 a f g b k h n m)
def x15(a f:Int)(g:LB)(b:Int)(o:List (Int×Int×UInt64×UInt64×Unit)):Option R_:=H.e P_ [r,r,r] ⟨[(0,vi a),(1,vi f),(5,.ptr 0 []),(9,.ptr 1 [])],[.box 153 (.agg [vb g,vi b]),.box 181 (.val (.vec 6 (.cons (.int .i64) (.cons (.int .i64) (.cons (.int .u64) (.cons (.int .u64) .nil))))) o)],[]⟩
def x13(a f:Int)(g:LB)(b u:Int)(o:List (Int×Int×UInt64×UInt64×Unit)):Option R_:=H.e P_ [r,r,l,r,d] (t13 a f g b u o)
theorem e24:x24=SU:=by kernel_rfl
theorem e22(Ch:K_)(a f:Int)(g:LB)(b:Int):x22 Ch a f g b=AQ (λk h n m=>Ch (t16 a f g b k h n m)) a f g b:=by kernel_rfl
theorem e21(Ch:K_)(a f:Int)(g:LB)(b:Int):x21 Ch a f g b=Sk (λk h n m=>Ch (t16 a f g b k h n m)) a f g b:=Eq.trans (b:=Tc (x22 Ch a f g b) a f g b) (by kernel_rfl) (by simp only[e22]<;>rfl)
theorem i16(a f:Int)(g:LB)(b:Int):∀(q:Nat) (k h:Int) (n:List (Int×Int×UInt64×UInt64×Unit)) (m:LU),z16 q (t16 a f g b k h n m)=Nc a f g b q k h n m:=
 ind (λ_ _ _ _=>by kernel_rfl) λq ih k h n m=>Eq.trans (b:=Yw (x21 (z16 q) a f g b) x24 a f g b k h n m) (by kernel_rfl) (by rw[dC];simp only[e21,e24,ih]<;>rfl)
theorem e16:x16=UM:=by funext a f g b k h n m;exact Eq.trans (by kernel_rfl) ((i16 a f g b Dc k h n m).trans (by rw[Ax];rfl))
theorem e15:x15=AS:=Eq.trans (b:=RL x16) (by kernel_rfl) (by simp only[e16]<;>rfl)
theorem i13(a f:Int)(g:LB)(b:Int):∀(q:Nat) (u:Int) (o:List (Int×Int×UInt64×UInt64×Unit)),z13 q (t13 a f g b u o)=AY a f g b q u o:=
 ind (λ_ _=>by kernel_rfl) λq ih u o=>Eq.trans (b:=TA x15 (λu o=>(z13 q) (t13 a f g b u o)) a f g b u o) (by kernel_rfl) (by simp only[e15,ih]<;>rfl)
theorem e13:x13=Td:=by funext a f g b u o;exact Eq.trans (by kernel_rfl) ((i13 a f g b Dc u o).trans (by rw[Ax];rfl))
def F:=u4 EF
theorem rn x:H.u P_ x=F x:=Eq.trans (b:=u4 (DC x13) x) (by kernel_rfl) (by simp only[e13]<;>rfl)
def c:Con:=⟨H.p,H.r,F⟩
theorem ok:ConOk P_ gl 95 c:=co H func95 (.cons F133.ok (.cons F134.ok (.cons F135.ok .nil))) rn
end F95
namespace F140
def H:Hd:=⟨[Su],[Sx],.d,⟨[],gl,false⟩,[],f140⟩
def F:=Xr
theorem rn x:H.u P_ x=F x:=by kernel_rfl
def c:Con:=⟨H.p,H.r,F⟩
theorem ok:ConOk P_ gl 140 c:=co H func140 .nil rn
end F140
namespace F176
def H:Hd:=⟨[.agg [Si,.lf (.vec 16 (.int .i32)) none,.lf (.vec 16 (.int .i32)) none],Sx],[Sx,.agg [Si,.lf (.vec 16 (.int .i32)) none,.lf (.vec 16 (.int .i32)) none],Si],.d,⟨[(195,F195.c),(196,F196.c)],gl,false⟩,[],f176⟩
def F:=u4 lI
theorem rn x:H.u P_ x=F x:=by kernel_rfl
def c:Con:=⟨H.p,H.r,F⟩
theorem ok:ConOk P_ gl 176 c:=co H func176 (.cons F195.ok (.cons F196.ok .nil)) rn
end F176
namespace F139
def TG(a:Int)(b:Int32)(f:Int)(g h:LX)(o:Int32):Option (Int32×Int×Int32×Int×LX×LX×Int):=
(Wf a b f g h).bind λk=>
if(Bd k 0)then
some (0,0,0,0,(List.replicate 16 (0:Int32)),(List.replicate 16 (0:Int32)),k)
else
(Wo a b).bind λ(m,y)=>
(lI f g h o).bind λ(n,p,u,v,w)=>
(λaa:Option (Int32×Int×Int32×Int×LX×LX×Int)=>
bo (
aa)) (
some ((Ad n m),a,(Ad n m),p,u,v,w))
theorem rI: @TG= @Lm:=by
  unfold TG Lm;simp only[aZ,JK,JR]
def H:Hd:=⟨[.agg [Si,Sx,.agg [Si,.lf (.vec 16 (.int .i32)) none,.lf (.vec 16 (.int .i32)) none]],Sx],[Sx,.agg [Si,Sx,.agg [Si,.lf (.vec 16 (.int .i32)) none,.lf (.vec 16 (.int .i32)) none]],Si],(.seq .d (.seq .d (.seq .d (.seq .d (.seq (.mode false) .d))))),⟨[(174,F174.c),(175,F175.c),(176,F176.c)],gl,false⟩,[],f139⟩
def F:=u6 Lm
theorem rn x:H.u P_ x=F x:=Eq.trans (b:=u6 TG x) (by kernel_rfl) (by rw[rI];rfl)
def c:Con:=⟨H.p,H.r,F⟩
theorem ok:ConOk P_ gl 139 c:=co H func139 (.cons F174.ok (.cons F175.ok (.cons F176.ok .nil))) rn
end F139
namespace F141
abbrev R_:=(LX×Int)
abbrev K_:=S->Option R_
def H:Hd:=⟨[Si,Sw],[Ow 21,Si],(.seq .d (.seq .d (.seq .d (.cut [7] [] (.seq .d (.blk (.loop [0,7,8] [] (.seq .d (.cut [0,7,8] [] (.blk (.keep [0,7,8,24,25,26,27,28,29] true)) .d))))) .d)))),⟨[(149,F149.c),(177,F177.c)],gl,true⟩,[(178,(.seq .d (.cut [0,2] [] .d (.seq .d (.blk (.loop [0,3] [] .d))))))],f141⟩
def t18(b a g:Int)(h:LX):S:=⟨[(0,.view true 0 [] (.int .i32) a ((Ad a b)-a)),(3,vi g)],[Aw 21 h],[[(0,vi b),(7,.own 0),(8,vi a),(24,.own 0),(25,vi a),(26,vi a),(27,vi b),(28,vi (Ad a b)),(29,.view true 0 [] (.int .i32) a ((Ad a b)-a))]]⟩
def z18(Gb:K_):Nat->S->Option R_:=H.i P_ [r,r,r,l,r,d,(lp Gb),r,l,d,(call 6 178),r,r,r,d]
def t12(b a:Int)(f:LX):S:=⟨[(0,vi b),(7,.own 0),(8,vi a)],[Aw 21 f],[]⟩
def z12:Nat->S->Option R_:=H.i P_ [r,r,r,l,r,d]
def x22(f:LX):Option R_:=H.e P_ [r,r,r,r] ⟨[(7,.own 0)],[Aw 21 f],[]⟩
def x20(Gb:K_)(b a:Int)(h:LX):Option R_:=H.e P_ [r,r,r,l,r,d,(lp Gb),r,r] ⟨[(0,vi b),(7,.own 0),(8,vi a)],[Aw 21 h],[]⟩
def x18(Gb:K_)(b a g:Int)(h:LX):Option R_:=H.e P_ [r,r,r,l,r,d,(lp Gb),r,l,d,(call 6 178),r,r,r,d] (t18 b a g h)
def x17(Gb:K_)(b a:Int)(k:LX):Option R_:=H.e P_ [r,r,r,l,r,d,(lp Gb),r,l,d,(call 6 178),r,r] ⟨[(0,.view true 0 [] (.int .i32) a ((Ad a b)-a)),(2,vi (Ak ((Ad a b)-a) (1:Int)))],[Aw 21 k],[[(0,vi b),(7,.own 0),(8,vi a),(24,.own 0),(25,vi a),(26,vi a),(27,vi b),(28,vi (Ad a b)),(29,.view true 0 [] (.int .i32) a ((Ad a b)-a))]]⟩
def x12(b a:Int)(f:LX):Option R_:=H.e P_ [r,r,r,l,r,d] (t12 b a f)
theorem e22:x22=sC:=by kernel_rfl
theorem e20(Gb:K_)(b:Int):x20 Gb b=dB (λa f=>Gb (t12 b a f)) b:=by kernel_rfl
theorem i18(Gb:K_)(b a:Int):∀(q:Nat) (g:Int) (h:LX),z18 Gb q (t18 b a g h)=Xx (λa f=>Gb (t12 b a f)) b a q g h:=
 ind (λ_ _=>by kernel_rfl) λq ih g h=>Eq.trans (b:=QP (x20 Gb b) (λg h=>(z18 Gb q) (t18 b a g h)) b a g h) (by kernel_rfl) (by simp only[e20,ih]<;>rfl)
theorem e18(Gb:K_)(b:Int):x18 Gb b=cS (λa f=>Gb (t12 b a f)) b:=by funext a g h;exact Eq.trans (by kernel_rfl) ((i18 Gb b a Dc g h).trans (by rw[Ax];rfl))
theorem e17(Gb:K_)(b:Int):x17 Gb b=QS (λa f=>Gb (t12 b a f)) b:=Eq.trans (b:=cV (x18 Gb b) b) (by kernel_rfl) (by simp only[e18]<;>rfl)
theorem i12(b:Int):∀(q:Nat) (a:Int) (f:LX),z12 q (t12 b a f)=So b q a f:=
 ind (λ_ _=>by kernel_rfl) λq ih a f=>Eq.trans (b:=dM (x17 (z12 q) b) x22 b a f) (by kernel_rfl) (by simp only[e17,e22,ih]<;>rfl)
theorem e12:x12=bK:=by funext b a f;exact Eq.trans (by kernel_rfl) ((i12 b Dc a f).trans (by rw[Ax];rfl))
def F:=u2 rP
theorem rn x:H.u P_ x=F x:=Eq.trans (b:=u2 (lM x12) x) (by kernel_rfl) (by simp only[e12]<;>rfl)
def c:Con:=⟨H.p,H.r,F⟩
theorem ok:ConOk P_ gl 141 c:=cr H func141 (.cons F149.ok (.cons F177.ok .nil)) (Dv.cons ent178 Dv.nil) rn
end F141
namespace F97
def Vy(j16:Int->Int32->Int-> (List (Int×Int32×(Int×LX×LX×Unit)×Unit))->LX->Int->Int32->Int->LX->LX->Option (LX×Int))(j18:Int->Int->LX->Option (LX×Int))(f:LU)(a b g:Int)(h:List (Int×Int32×(Int×LX×LX×Unit)×Unit))(k:LX):Option (LX×Int):=
if(Bt g (Ac f))then
(Am f g).bind λag=>
(Hj (Bd a 0)).bind λ_=>
(Am h (Fl g a)).bind λ_=>
both (
(Am h (Fl g a)).bind λm=>
both (
(Xr ag).bind λae=>
(λao:Option (LX×Int)=>
bo (
ao)) (
(Lm m.1 m.2.1 m.2.2.1.1 m.2.2.1.2.1 m.2.2.1.2.2.1 ae).bind λ(w,y,v,aa,ab,ac,u)=>
j16 g w u h k y v aa ab ac)) [
(Xr ag).bind λae=>
(Lm m.1 m.2.1 m.2.2.1.1 m.2.2.1.2.1 m.2.2.1.2.2.1 ae).bind λ(w,y,v,aa,ab,ac,u)=>
j16 g w u h k y v aa ab ac]) [
(Xr ag).bind λaf=>
both (
(Am h (Fl g a)).bind λad=>
(λap:Option (LX×Int)=>
bo (
ap)) (
(Lm ad.1 ad.2.1 ad.2.2.1.1 ad.2.2.1.2.1 ad.2.2.1.2.2.1 af).bind λ(w,y,v,aa,ab,ac,u)=>
j16 g w u h k y v aa ab ac)) [
(Am h (Fl g a)).bind λad=>
(Lm ad.1 ad.2.1 ad.2.2.1.1 ad.2.2.1.2.1 ad.2.2.1.2.2.1 af).bind λ(w,y,v,aa,ab,ac,u)=>
j16 g w u h k y v aa ab ac],
both (
(Am h (Fl g a)).bind λm=>
(Xr ag).bind λae=>
(Lm m.1 m.2.1 m.2.2.1.1 m.2.2.1.2.1 m.2.2.1.2.2.1 ae).bind λ(w,y,v,aa,ab,ac,u)=>
j16 g w u h k y v aa ab ac) [
(Xr ag).bind λaf=>
(Am h (Fl g a)).bind λad=>
(Lm ad.1 ad.2.1 ad.2.2.1.1 ad.2.2.1.2.1 ad.2.2.1.2.2.1 af).bind λ(w,y,v,aa,ab,ac,u)=>
j16 g w u h k y v aa ab ac]]
else
j18 a b k
theorem YX: @Vy= @Md:=by
  unfold Vy Md
  try simp only[aZ,JK,JR]
  all_goals
    repeat (refine funext λ_=>?_)
    repeat' first
      |with_reducible rfl
      |with_reducible refine Nn ?_ ?_
      |with_reducible refine My ?_ ?_ ?_
      |with_reducible refine Mw ?_ ?_ ?_ ?_
      |((with_reducible refine Rq ?_ ?_);focus (intro h;first|(subst h;rfl)|(simp only[h];rfl)|(simp[De,Ac,h];done)))
      |with_reducible refine Sr λx=>?_
      |with_reducible refine AK (λ_=>?_) (λ_=>?_)
      |(refine Hp (λh=>by simp only[h,Ro,Es,El,ite_self]) (λx h=>?_);(try simp only[h,Es]))
      |(refine Ki (λh=>?_) (λh=>?_)<;>simp only[h,if_true,if_false,Bool.false_eq_true])
abbrev R_:=(LX×Int)
abbrev K_:=S->Option R_
def H:Hd:=⟨[.agg [Si,Si],.lf (.vec 16 (.int .i32)) none,Sv],[Ow 21,Si],(.seq .d (.seq .d (.cut [2,3,8] [] (.seq .d (.blk (.loop [2,3,4,8,20] [] .d))) (.seq .d (.cut [3,10] [] (.seq .d (.blk (.loop [3,8,10,33,34,35] [⟨10,[],.own 21 (.int .i32)⟩] (.seq .d (.seq .d (.seq (.blk (.seq .d (.seq .d (.cut [3,8,10,13,14,15,16,33,34,35] [] (.mode false) .d)))) .d)))))) .d))))),⟨[(59,F59.c),(138,F138.c),(139,F139.c),(140,F140.c),(141,F141.c)],gl,false⟩,[],f97⟩
def t13(f:LU)(a b g:Int)(h:List (Int×Int32×(Int×LX×LX×Unit)×Unit))(k:LX):S:=⟨[(3,.ptr 0 []),(8,.ptr 1 []),(10,.own 2),(33,vv f),(34,vi (Ac f)),(35,vi g)],[.box 41 (.agg [vi a,vi b]),.box 206 (.val (.vec 6 (.cons (.int .i64) (.cons (.int .i32) (.cons (.cons (.int .i64) (.cons (.vec 16 (.int .i32)) (.cons (.vec 16 (.int .i32)) .nil))) .nil)))) h),Aw 21 k],[]⟩
def z13:Nat->S->Option R_:=H.i P_ [r,r,r,r,l,r,d]
def t10(f:LU)(a b:Int)(o:LX)(p:Int)(n:List (Int×Int32×(Int×LX×LX×Unit)×Unit)):S:=⟨[(2,vv f),(3,.ptr 0 []),(4,.ptr 1 []),(8,.ptr 2 []),(20,vi p)],[.box 41 (.agg [vi a,vi b]),.box 91 (.val (.vec 16 (.int .i32)) o),.box 206 (.val (.vec 6 (.cons (.int .i64) (.cons (.int .i32) (.cons (.cons (.int .i64) (.cons (.vec 16 (.int .i32)) (.cons (.vec 16 (.int .i32)) .nil))) .nil)))) n)],[]⟩
def z10:Nat->S->Option R_:=H.i P_ [r,r,l,r,d]
def x18(a b:Int)(k:LX):Option R_:=H.e P_ [r,r,r,r,r] ⟨[(3,.ptr 0 []),(10,.own 1)],[.box 41 (.agg [vi a,vi b]),Aw 21 k],[]⟩
def x16(Arl:K_)(a:Int)(f:LU)(b g:Int)(w:Int32)(u:Int)(h:List (Int×Int32×(Int×LX×LX×Unit)×Unit))(k:LX)(y:Int)(v:Int32)(aa:Int)(ab ac:LX):Option R_:=H.e P_ [r,r,r,r,l,r,d,(lp Arl),r,r,l,d,r,r,r] ⟨[(3,.ptr 0 []),(8,.ptr 1 []),(10,.own 2),(13,.ptr 1 [.idx (Fl g a) 35]),(14,vx w),(15,.ptr 3 []),(16,vi u),(33,vv f),(34,vi (Ac f)),(35,vi g)],[.box 41 (.agg [vi a,vi b]),.box 206 (.val (.vec 6 (.cons (.int .i64) (.cons (.int .i32) (.cons (.cons (.int .i64) (.cons (.vec 16 (.int .i32)) (.cons (.vec 16 (.int .i32)) .nil))) .nil)))) h),Aw 21 k,.box 205 (.agg [vi y,vx v,.agg [vi aa,.val (.vec 16 (.int .i32)) ab,.val (.vec 16 (.int .i32)) ac]])],[]⟩
def x13(f:LU)(a b g:Int)(h:List (Int×Int32×(Int×LX×LX×Unit)×Unit))(k:LX):Option R_:=H.e P_ [r,r,r,r,l,r,d] (t13 f a b g h k)
def x12(f:LU)(a b:Int)(n:List (Int×Int32×(Int×LX×LX×Unit)×Unit)):Option R_:=H.e P_ [r,r,r] ⟨[(2,vv f),(3,.ptr 0 []),(8,.ptr 1 [])],[.box 41 (.agg [vi a,vi b]),.box 206 (.val (.vec 6 (.cons (.int .i64) (.cons (.int .i32) (.cons (.cons (.int .i64) (.cons (.vec 16 (.int .i32)) (.cons (.vec 16 (.int .i32)) .nil))) .nil)))) n)],[]⟩
def x10(f:LU)(a b:Int)(o:LX)(p:Int)(n:List (Int×Int32×(Int×LX×LX×Unit)×Unit)):Option R_:=H.e P_ [r,r,l,r,d] (t10 f a b o p n)
theorem e18:x18=Mc:=by kernel_rfl
theorem e16(Arl:K_)(f:LU)(a b:Int):x16 Arl a f b=Yx (λg h k=>Arl (t13 f a b g h k)) a f b:=by kernel_rfl
theorem i13(f:LU)(a b:Int):∀(q:Nat) (g:Int) (h:List (Int×Int32×(Int×LX×LX×Unit)×Unit)) (k:LX),z13 q (t13 f a b g h k)=Iz f a b q g h k:=
 ind (λ_ _ _=>by kernel_rfl) λq ih g h k=>Eq.trans (b:=Vy (x16 (z13 q) a f b) x18 f a b g h k) (by kernel_rfl) (by rw[YX];simp only[e16,e18,ih]<;>rfl)
theorem e13:x13=PT:=by funext f a b g h k;exact Eq.trans (by kernel_rfl) ((i13 f a b Dc g h k).trans (by rw[Ax];rfl))
theorem e12:x12=Yd:=Eq.trans (b:=PD x13) (by kernel_rfl) (by simp only[e13]<;>rfl)
theorem i10(f:LU)(a b:Int)(o:LX):∀(q:Nat) (p:Int) (n:List (Int×Int32×(Int×LX×LX×Unit)×Unit)),z10 q (t10 f a b o p n)=Zc f a b o q p n:=
 ind (λ_ _=>by kernel_rfl) λq ih p n=>Eq.trans (b:=OW x12 (λp n=>(z10 q) (t10 f a b o p n)) f a b o p n) (by kernel_rfl) (by simp only[e12,ih]<;>rfl)
theorem e10:x10=Qe:=by funext f a b o p n;exact Eq.trans (by kernel_rfl) ((i10 f a b o Dc p n).trans (by rw[Ax];rfl))
def F:=u4 Th
theorem rn x:H.u P_ x=F x:=Eq.trans (b:=u4 (AM x10) x) (by kernel_rfl) (by simp only[e10]<;>rfl)
def c:Con:=⟨H.p,H.r,F⟩
theorem ok:ConOk P_ gl 97 c:=co H func97 (.cons F59.ok (.cons F138.ok (.cons F139.ok (.cons F140.ok (.cons F141.ok .nil))))) rn
end F97
namespace F48
def H:Hd:=⟨[.agg [Si,Si],.lf (.vec 16 (.int .i32)) none,Si,Sb],[Ow 21,Si],.d,⟨[(92,F92.c),(93,F93.c),(94,F94.c),(95,F95.c),(96,F96.c),(97,F97.c)],gl,false⟩,[],f48⟩
def F:=u5 Nq
theorem rn x:H.u P_ x=F x:=by kernel_rfl
def c:Con:=⟨H.p,H.r,F⟩
theorem ok:ConOk P_ gl 48 c:=co H func48 (.cons F92.ok (.cons F93.ok (.cons F94.ok (.cons F95.ok (.cons F96.ok (.cons F97.ok .nil)))))) rn
end F48
namespace F21
abbrev R_:=(LB×Int)
abbrev K_:=S->Option R_
def H:Hd:=⟨[Si,Sw],[Ob 5,Si],(.seq .d (.seq .d (.seq .d (.cut [7] [] (.seq .d (.blk (.loop [0,7,17,18,19] [⟨7,[],.own 5 (.int .u8)⟩] (.seq .d (.seq .d (.cut [0,7,17,18,19] [] (.blk (.seq .d (.cut [0,7,9,17,18,19] [] .d (.seq .d (.blk (.loop [0,7,9,17,18,19,28,29] [] .d)))))) .d)))))) .d)))),⟨[(59,F59.c)],gl,false⟩,[],f21⟩
def t26(b:Int)(a:LX)(k:Int32)(f m:Int)(h:LB):S:=⟨[(0,vi b),(7,.own 0),(9,vx k),(17,vw a),(18,vi (Ac a)),(19,vi f),(28,vi (By b (8:Int))),(29,vi m)],[Ab 5 h],[]⟩
def z26(Ch:K_):Nat->S->Option R_:=H.i P_ [r,r,r,l,r,d,(lp Ch),r,r,l,d,r,r,r,d]
def t16(b:Int)(a:LX)(f:Int)(g:LB):S:=⟨[(0,vi b),(7,.own 0),(17,vw a),(18,vi (Ac a)),(19,vi f)],[Ab 5 g],[]⟩
def z16:Nat->S->Option R_:=H.i P_ [r,r,r,l,r,d]
def x30(g:LB):Option R_:=H.e P_ [r,r,r,r] ⟨[(7,.own 0)],[Ab 5 g],[]⟩
def x28(Ch:K_)(b:Int)(a:LX)(f:Int)(h:LB):Option R_:=H.e P_ [r,r,r,l,r,d,(lp Ch),r,r,r] ⟨[(0,vi b),(7,.own 0),(17,vw a),(18,vi (Ac a)),(19,vi f)],[Ab 5 h],[]⟩
def x26(Ch:K_)(b:Int)(a:LX)(k:Int32)(f m:Int)(h:LB):Option R_:=H.e P_ [r,r,r,l,r,d,(lp Ch),r,r,l,d,r,r,r,d] (t26 b a k f m h)
def x25(Ch:K_)(b:Int)(a:LX)(f:Int)(g:LB)(k:Int32):Option R_:=H.e P_ [r,r,r,l,r,d,(lp Ch),r,r,l,d,r,r] ⟨[(0,vi b),(7,.own 0),(9,vx k),(17,vw a),(18,vi (Ac a)),(19,vi f)],[Ab 5 g],[]⟩
def x16(b:Int)(a:LX)(f:Int)(g:LB):Option R_:=H.e P_ [r,r,r,l,r,d] (t16 b a f g)
theorem e30:x30=fG:=by kernel_rfl
theorem e28(Ch:K_)(b:Int)(a:LX):x28 Ch b a=OH (λf g=>Ch (t16 b a f g)) b a:=by kernel_rfl
theorem i26(Ch:K_)(b:Int)(a:LX)(k:Int32)(f:Int):∀(q:Nat) (m:Int) (h:LB),z26 Ch q (t26 b a k f m h)=Jb (λf g=>Ch (t16 b a f g)) b a k f q m h:=
 ind (λ_ _=>by kernel_rfl) λq ih m h=>Eq.trans (b:=AA (x28 Ch b a) (λm h=>(z26 Ch q) (t26 b a k f m h)) b a k f m h) (by kernel_rfl) (by simp only[e28,ih]<;>rfl)
theorem e26(Ch:K_)(b:Int)(a:LX):x26 Ch b a=NT (λf g=>Ch (t16 b a f g)) b a:=by funext k f m h;exact Eq.trans (by kernel_rfl) ((i26 Ch b a k f Dc m h).trans (by rw[Ax];rfl))
theorem e25(Ch:K_)(b:Int)(a:LX):x25 Ch b a=Ll (λf g=>Ch (t16 b a f g)) b a:=Eq.trans (b:=NY (x26 Ch b a) b a) (by kernel_rfl) (by simp only[e26]<;>rfl)
theorem i16(b:Int)(a:LX):∀(q:Nat) (f:Int) (g:LB),z16 q (t16 b a f g)=Gd b a q f g:=
 ind (λ_ _=>by kernel_rfl) λq ih f g=>Eq.trans (b:=Zz (x25 (z16 q) b a) x30 b a f g) (by kernel_rfl) (by simp only[e25,e30,ih]<;>rfl)
theorem e16:x16=fI:=by funext b a f g;exact Eq.trans (by kernel_rfl) ((i16 b a Dc f g).trans (by rw[Ax];rfl))
def F:=u2 Rj
theorem rn x:H.u P_ x=F x:=Eq.trans (b:=u2 (UB x16) x) (by kernel_rfl) (by simp only[e16]<;>rfl)
def c:Con:=⟨H.p,H.r,F⟩
theorem ok:ConOk P_ gl 21 c:=co H func21 (.cons F59.ok .nil) rn
end F21
namespace F198
abbrev R_:=Int
def H:Hd:=⟨[Sl,Si],[Si],(.seq .d (.cut [] [] (.seq .d (.blk (.loop [0,1,7,8] [] .d))) .d)),⟨[],gl,false⟩,[],f198⟩
def t4(a:LI)(b f:Int):S:=⟨[(0,vl a),(1,vi b),(7,vi (Ac a)),(8,vi f)],[],[]⟩
def z4:Nat->S->Option R_:=H.i P_ [r,l,r,d]
def x6:Option R_:=H.e P_ [r,r] ⟨[],[],[]⟩
def x4(a:LI)(b f:Int):Option R_:=H.e P_ [r,l,r,d] (t4 a b f)
theorem e6:x6=Mn:=by kernel_rfl
theorem i4(a:LI)(b:Int):∀(q:Nat) (f:Int),z4 q (t4 a b f)=Br a b q f:=
 ind (λ_=>by kernel_rfl) λq ih f=>Eq.trans (b:=Ed x6 (λf=>(z4 q) (t4 a b f)) a b f) (by kernel_rfl) (by simp only[e6,ih]<;>rfl)
theorem e4:x4=Gz:=by funext a b f;exact Eq.trans (by kernel_rfl) ((i4 a b Dc f).trans (by rw[Ax];rfl))
def F:=u2 Ip
theorem rn x:H.u P_ x=F x:=Eq.trans (b:=u2 (He x4) x) (by kernel_rfl) (by simp only[e4]<;>rfl)
def c:Con:=⟨H.p,H.r,F⟩
theorem ok:ConOk P_ gl 198 c:=co H func198 .nil rn
end F198
namespace F181
def H:Hd:=⟨[Sl,Si],[Sz],.d,⟨[(198,F198.c)],gl,false⟩,[],f181⟩
def F:=u2 Hb
theorem rn x:H.u P_ x=F x:=by kernel_rfl
def c:Con:=⟨H.p,H.r,F⟩
theorem ok:ConOk P_ gl 181 c:=co H func181 (.cons F198.ok .nil) rn
end F181
namespace F151
def H:Hd:=⟨[Si],[Sz],.d,⟨[(181,F181.c)],gl,false⟩,[],f151⟩
def F:=Px
theorem rn x:H.u P_ x=F x:=by kernel_rfl
def c:Con:=⟨H.p,H.r,F⟩
theorem ok:ConOk P_ gl 151 c:=co H func151 (.cons F181.ok .nil) rn
end F151
namespace F108
def BC(j28:Bool->Int->Option Int)(w ah:Int)(g a:LB)(k p o u v b:Int)(m:Bool)(n:Int)(ao:LX)(f:LI)(h:LB):Option Int:=
if(Bd ah 0)then
(Ah ah).bind λ(br,bs)=>
j28 br bs
else
(Rj o ao).bind λ(bt,be)=>
if(Bd be 0)then
(Ah be).bind λ(bu,bv)=>
j28 bu bv
else
(De h bt).bind λdv=>
(λfa:Option Int=>
bo (
fa)) (
(Bf a w (Ac a)).bind λdw=>
j28 false 0)
theorem gB: @BC= @Uo:=by
  unfold BC Uo;simp only[aZ,JK,JR]
def ER(j13:Bool->Int->Option Int)(j12:LB->LB->Int->Int->Int->Int->Int->Int->Bool->Int->LI->LB->Option Int)(j25:Bool->Int->Option Int)(j23:LB->LB->Int->Int->Int->Int->Int->Int->Bool->Int->LI->LB->Option Int)(j24:LB->LB->Int->Int->Int->Int->Int->Int->Bool->Int->LI->LB->Int->Option Int)(j28:Bool->Int->Option Int)(j26:Int->LB->LB->Int->Int->Int->Int->Int->Int->Bool->Int->LX->LI->LI->LB->Option Int)(j22:Bool->Option Int)(j21:Option Int)(aq ar:LB)(au av aw ax ay:Int)(az:LI)(ai:Int)(aj:LB)(ac:Bool)(y:Int):Option Int:=
if(Dx (Ac aq) 64)then
some 8
else
if((geq y 0)&&(!ac))then
(Dt aq ar au av aw ax ay az ai aj ac y).bind λ(g,a,k,p,o,u,v,f,b,h,m,n)=>
(Xk aq ar au av aw ax ay az ai aj ac y).bind λbw=>
if bw then
if(geq k 0)then
(Jd a).bind λ(al,ba)=>
if(geq ba 24)then
j13 true 0
else
if(Bd ba 0)then
(Ah ba).bind λ(bx,bz)=>
j13 bx bz
else
(Bf a al (Ac a)).bind λda=>
(Pf da).bind λan=>
if an then
j13 true 0
else
(Bf a al (Ac a)).bind λdb=>
(Mm db).bind λ(ae,af,aa,ag,ab,bb)=>
if(geq bb 24)then
j13 true 0
else
if(Bd bb 0)then
(Ah bb).bind λ(dc,dd)=>
j13 dc dd
else
both (
(Bf a (Ad al 22) (Ac a)).bind λak=>
(λfb:Option Int=>
bo (
fb)) (
j12 g ak ae af aa ag ab b m n f h)) [
(Bf a (Ad al 22) (Ac a)).bind λak=>
j12 g ak ae af aa ag ab b m n f h]
else
if(geq (Ac f) 0)then
if(geq k 2)then
if(Bt (Ac a) 8)then
j25 true 0
else
j23 g a k p o u v b m n f h
else
j24 g a k p o u v b m n f h 0
else
if(Bt b (Ac f))then
(Am f b).bind λ_=>
(Am f b).bind λw=>
if(Bt (Ac a) w)then
j28 true 0
else
(Ms g).bind λ(ap,am)=>
if(Bd am 0)then
(Ah am).bind λ(de,df)=>
j28 de df
else
(Dn k p o u v).bind λ(ad,dg)=>
if((Bd dg 0)||(Je b (Ac ad)))then
(Ah 8).bind λ(dh,di)=>
j28 dh di
else
j26 w g a k p o u v b m n ap ad f h
else
if(Dx (Ac a) 4000)then
(Ah 38).bind λ(dj,bf)=>
j22 ((dj==true)&&((geq bf 0)&&true))
else
j21
else
j22 false
else
if((geq (Ac ar) 0)&&(geq (Ac az) 0))then
if((((geq au 0)&&((geq av 0)&&((geq aw 0)&&((geq ax 0)&&((geq ay 0)&&true)))))&&(geq ai 0))&&(xZ (Ac aj) 12000))then
if(geq y 0)then
j22 true
else
if(!ac)then
(Px y).bind λdk=>
j22 dk
else
j22 false
else
j22 false
else
if((false&&(geq ai 0))&&(xZ (Ac aj) 12000))then
if(geq y 0)then
j22 true
else
if(!ac)then
(Px y).bind λdl=>
j22 dl
else
j22 false
else
j22 false
theorem iU: @ER= @Xz:=by
  unfold ER Xz
  try simp only[aZ,JK,JR]
  all_goals
    repeat (refine funext λ_=>?_)
    repeat' first
      |with_reducible rfl
      |with_reducible refine Nn ?_ ?_
      |with_reducible refine My ?_ ?_ ?_
      |with_reducible refine Mw ?_ ?_ ?_ ?_
      |((with_reducible refine Rq ?_ ?_);focus (intro h;first|(subst h;rfl)|(simp only[h];rfl)|(simp[De,Ac,h];done)))
      |with_reducible refine Sr λx=>?_
      |with_reducible refine AK (λ_=>?_) (λ_=>?_)
      |(refine Hp (λh=>by simp only[h,Ro,Es,El,ite_self]) (λx h=>?_);(try simp only[h,Es]))
      |(refine Ki (λh=>?_) (λh=>?_)<;>simp only[h,if_true,if_false,Bool.false_eq_true])
abbrev R_:=Int
def H:Hd:=⟨[.agg [Ss,Sb,.agg [Si,Si,Si,Si,Si],Sl,Si,Sb,Sz,Si]],[Si],(.seq .d (.seq .d (.seq .d (.cut [3] [] (.seq .d (.cond (.seq .d (.keep [3,21,22,23,24,25] false)) .d)) .d)))),⟨[(21,F21.c),(47,F47.c),(48,F48.c),(63,F63.c),(86,Zs),(87,F87.c),(88,F88.c),(89,F89.c),(90,F90.c),(112,F112.c),(150,F150.c),(151,F151.c),(152,F152.c),(153,F153.c),(154,F154.c)],gl,false⟩,[(62,(.seq .d (.cut [2] [] (.blk (.seq .d (.cond (.cut [2] [] (.keep [2,11] true) .d) (.seq .d (.cond (.cut [2] [] (.keep [2,20] true) .d) (.seq .d (.cond (.cut [2] [] (.keep [2,33] true) .d) .d))))))) .d))),(109,(.seq .d (.seq .d (.seq .d (.seq .d (.seq .d (.cut [0,2,5] [] (.mode false) .d))))))),(110,(.seq .d (.seq .d (.cut [0,2,3] [⟨0,[1],.ro (.int .u8)⟩] (.seq .d (.cond (.seq .d (.cut [0,2,3] [⟨0,[1],.ro (.int .u8)⟩,⟨9,[1],.ro (.int .u8)⟩,⟨10,[1],.ro (.int .u8)⟩,⟨15,[1],.ro (.int .u8)⟩,⟨16,[1],.ro (.int .u8)⟩,⟨18,[],.ro (.int .u8)⟩] .d (.cut [0,2,3,4,5] [] .d .d))) .d)) .d)))),(111,(.seq .d (.seq .d (.seq .d (.seq .d (.seq .d (.seq .d (.cut [0,2,3,4,6] [⟨0,[1],.ro (.int .u8)⟩,⟨9,[1],.ro (.int .u8)⟩,⟨10,[1],.ro (.int .u8)⟩,⟨13,[1],.ro (.int .u8)⟩,⟨14,[1],.ro (.int .u8)⟩,⟨19,[1],.ro (.int .u8)⟩,⟨20,[1],.ro (.int .u8)⟩,⟨22,[],.ro (.int .u8)⟩,⟨28,[1],.ro (.int .u8)⟩,⟨29,[1],.ro (.int .u8)⟩,⟨40,[1],.ro (.int .u8)⟩,⟨41,[1],.ro (.int .u8)⟩] .d (.cut [0,2,3,5,7] [] .d (.seq .d (.seq .d (.seq .d (.seq .d (.seq (.mode false) .d))))))))))))))],f108⟩
def x22(bi:Bool):Option R_:=H.e P_ [r,r,r,r] ⟨[(3,vt bi)],[],[]⟩
def x21:Option R_:=H.e P_ [r,r,r,l,r,l,r,(dcall 3 62 3 #[true,true,true,true,true,true,true,true] #[true,true,true,true,true,false,false,false]),r,r] ⟨[(2,.ptr 0 [])],[.box 111 (.agg [vt false,vi 0])],[[(3,vt false),(21,.cst (.bool true)),(23,.agg [vt true,vi 0])]]⟩
def x13(bj:Bool)(bk:Int):Option R_:=H.e P_ [r,r,r,l,r,l,r,(dcall 3 62 3 #[true,true,true,true,true,true,true,true] #[true,true,true,true,true,false,false,false]),r,l,d,r,l,r] ⟨[(2,.ptr 0 [])],[.box 111 (.agg [vt bj,vi bk])],[[(3,vt false),(21,.cst (.bool true)),(23,.agg [vt true,vi 0])]]⟩
def x12(g ak:LB)(ae af aa ag ab b:Int)(m:Bool)(n:Int)(f:LI)(h:LB):Option R_:=H.e P_ [r,r,r,l,r,l,r,(dcall 3 62 3 #[true,true,true,true,true,true,true,true] #[true,true,true,true,true,false,false,false]),r,l,d,r,l,l,(call 1 109),r,r,r,r,r,r] ⟨[(0,.ptr 0 []),(2,.ptr 1 []),(5,.ptr 2 [])],[.box 53 (.agg [vs g,vb ak,.agg [vi ae,vi af,vi aa,vi ag,vi ab],.own 4,vi b,.own 5,vt m,vi n]),.box 111 (.agg [vt false,vi 0]),.box 50 (.agg [vi ae,vi af,vi aa,vi ag,vi ab]),.box 111 (.agg [vt false,vi 0]),Ai 3 f,Ab 5 h],[[(2,.ptr 3 [])],[(3,vt false),(21,.cst (.bool true)),(23,.agg [vt true,vi 0])]]⟩
def x25(bl:Bool)(bm:Int):Option R_:=H.e P_ [r,r,r,l,r,l,r,(dcall 3 62 3 #[true,true,true,true,true,true,true,true] #[true,true,true,true,true,false,false,false]),r,l,d,r,r,r,l,r] ⟨[(2,.ptr 0 [])],[.box 111 (.agg [vt bl,vi bm])],[[(3,vt false),(21,.cst (.bool true)),(23,.agg [vt true,vi 0])]]⟩
def x24(g a:LB)(k p o u v b:Int)(m:Bool)(n:Int)(f:LI)(h:LB)(bg:Int):Option R_:=H.e P_ [r,r,r,l,r,l,r,(dcall 3 62 3 #[true,true,true,true,true,true,true,true] #[true,true,true,true,true,false,false,false]),r,l,d,r,r,r,l,l,(call 1 110),r,r,r] ⟨[(0,.ptr 0 []),(2,.ptr 1 []),(3,vi bg)],[.box 53 (.agg [vs g,vb a,.agg [vi k,vi p,vi o,vi u,vi v],.own 3,vi b,.own 4,vt m,vi n]),.box 111 (.agg [vt false,vi 0]),.box 111 (.agg [vt false,vi 0]),Ai 3 f,Ab 5 h],[[(2,.ptr 2 [])],[(3,vt false),(21,.cst (.bool true)),(23,.agg [vt true,vi 0])]]⟩
def x15(bd:Bool)(bc:Int)(g a:LB)(k p o u v b:Int)(m:Bool)(n:Int)(f:LI)(h:LB):Option R_:=H.e P_ [r,r,r,l,r,l,r,(dcall 3 62 3 #[true,true,true,true,true,true,true,true] #[true,true,true,true,true,false,false,false]),r,l,d,r,r,r,l,l,(call 1 110),r,r,l,r,l,r,r,r] ⟨[(0,.ptr 0 []),(2,.ptr 1 []),(3,vi 8),(4,vt bd),(5,vi bc)],[.box 53 (.agg [vs g,vb a,.agg [vi k,vi p,vi o,vi u,vi v],.own 3,vi b,.own 4,vt m,vi n]),.box 111 (.agg [vt false,vi 0]),.box 111 (.agg [vt false,vi 0]),Ai 3 f,Ab 5 h],[[(2,.ptr 2 [])],[(3,vt false),(21,.cst (.bool true)),(23,.agg [vt true,vi 0])]]⟩
def x23(g a:LB)(k p o u v b:Int)(m:Bool)(n:Int)(f:LI)(h:LB):Option R_:=H.e P_ [r,r,r,l,r,l,r,(dcall 3 62 3 #[true,true,true,true,true,true,true,true] #[true,true,true,true,true,false,false,false]),r,l,d,r,r,r,l,l,(call 1 110),r,r,l,r,l,r,r] ⟨[(0,.ptr 0 []),(2,.ptr 1 []),(3,vi 8)],[.box 53 (.agg [vs g,vb a,.agg [vi k,vi p,vi o,vi u,vi v],.own 3,vi b,.own 4,vt m,vi n]),.box 111 (.agg [vt false,vi 0]),.box 111 (.agg [vt false,vi 0]),Ai 3 f,Ab 5 h],[[(2,.ptr 2 [])],[(3,vt false),(21,.cst (.bool true)),(23,.agg [vt true,vi 0])]]⟩
def x28(bp:Bool)(bq:Int):Option R_:=H.e P_ [r,r,r,l,r,l,r,(dcall 3 62 3 #[true,true,true,true,true,true,true,true] #[true,true,true,true,true,false,false,false]),r,l,d,r,r,r,r,r,l,r] ⟨[(2,.ptr 0 [])],[.box 111 (.agg [vt bp,vi bq])],[[(3,vt false),(21,.cst (.bool true)),(23,.agg [vt true,vi 0])]]⟩
def x27(w ah:Int)(g a:LB)(k p o u v b:Int)(m:Bool)(n:Int)(ao:LX)(f:LI)(h:LB):Option R_:=H.e P_ [r,r,r,l,r,l,r,(dcall 3 62 3 #[true,true,true,true,true,true,true,true] #[true,true,true,true,true,false,false,false]),r,l,d,r,r,r,r,r,l,l,(call 1 111),r,r,r,r,r,r,r,r] ⟨[(0,.ptr 0 []),(2,.ptr 1 []),(3,vi w),(5,vi ah),(7,.own 2)],[.box 53 (.agg [vs g,vb a,.agg [vi k,vi p,vi o,vi u,vi v],.own 4,vi b,.own 5,vt m,vi n]),.box 111 (.agg [vt false,vi 0]),Aw 21 ao,.box 111 (.agg [vt false,vi 0]),Ai 3 f,Ab 5 h],[[(2,.ptr 3 [])],[(3,vt false),(21,.cst (.bool true)),(23,.agg [vt true,vi 0])]]⟩
def x26(w:Int)(g a:LB)(k p o u v b:Int)(m:Bool)(n:Int)(ap:LX)(ad f:LI)(h:LB):Option R_:=H.e P_ [r,r,r,l,r,l,r,(dcall 3 62 3 #[true,true,true,true,true,true,true,true] #[true,true,true,true,true,false,false,false]),r,l,d,r,r,r,r,r,l,l,(call 1 111),r,r,r,r,r,r,r] ⟨[(0,.ptr 0 []),(2,.ptr 1 []),(3,vi w),(4,.ptr 2 []),(6,.own 3)],[.box 53 (.agg [vs g,vb a,.agg [vi k,vi p,vi o,vi u,vi v],.own 5,vi b,.own 6,vt m,vi n]),.box 111 (.agg [vt false,vi 0]),.box 91 (.val (.vec 16 (.int .i32)) ap),Ai 3 ad,.box 111 (.agg [vt false,vi 0]),Ai 3 f,Ab 5 h],[[(2,.ptr 4 [])],[(3,vt false),(21,.cst (.bool true)),(23,.agg [vt true,vi 0])]]⟩
theorem e22:x22=Bl:=by kernel_rfl
theorem e21:x21=Uu:=Eq.trans (b:=FF x22) (by kernel_rfl) (by simp only[e22]<;>rfl)
theorem e13:x13=Ee:=Eq.trans (b:=DW x22) (by kernel_rfl) (by simp only[e22]<;>rfl)
theorem e12:x12=Vn:=Eq.trans (b:=EI x13) (by kernel_rfl) (by simp only[e13]<;>rfl)
theorem e25:x25=Ig:=Eq.trans (b:=FA x22) (by kernel_rfl) (by simp only[e22]<;>rfl)
theorem e24:x24=It:=Eq.trans (b:=DB x25) (by kernel_rfl) (by simp only[e25]<;>rfl)
theorem e15:x15=GX:=Eq.trans (b:=GO x25 x24) (by kernel_rfl) (by simp only[e25,e24]<;>rfl)
theorem e23:x23=Vm:=Eq.trans (b:=GZ x15) (by kernel_rfl) (by simp only[e15]<;>rfl)
theorem e28:x28=Gw:=Eq.trans (b:=FG x22) (by kernel_rfl) (by simp only[e22]<;>rfl)
theorem e27:x27=GM:=Eq.trans (b:=BC x28) (by kernel_rfl) (by rw[gB];simp only[e28]<;>rfl)
theorem e26:x26=Uw:=Eq.trans (b:=GL x27) (by kernel_rfl) (by simp only[e27]<;>rfl)
def F:=u12 Pu
theorem rn x:H.u P_ x=F x:=Eq.trans (b:=u12 (ER x13 x12 x25 x23 x24 x28 x26 x22 x21) x) (by kernel_rfl) (by unfold F;rw[iU];simp only[e13,e12,e25,e23,e24,e28,e26,e22,e21]<;>rfl)
def c:Con:=⟨H.p,H.r,F⟩
theorem ok:ConOk P_ gl 108 c:=cr H func108 (.cons F21.ok (.cons F47.ok (.cons F48.ok (.cons F63.ok (.cons SX (.cons F87.ok (.cons F88.ok (.cons F89.ok (.cons F90.ok (.cons F112.ok (.cons F150.ok (.cons F151.ok (.cons F152.ok (.cons F153.ok (.cons F154.ok .nil))))))))))))))) (Dv.cons ent62 (Dv.cons ent109 (Dv.cons ent110 (Dv.cons ent111 Dv.nil)))) rn
end F108
namespace F61
def FP(f g:LB)(h k m n o:Int)(p:LI)(u:Int)(v:LB)(b:Bool)(a:Int):Option (LB×LB×Int×Int×Int×Int×Int×LI×Int×LB×Bool×Int×Int):=
(Pu f g h k m n o p u v b a).bind λw=>
if(Bd w 0)then
some (([]:LB),([]:LB),0,0,0,0,0,([]:LI),0,([]:LB),false,0,w)
else
if(Bd a 0)then
(λbl:Option (LB×LB×Int×Int×Int×Int×Int×LI×Int×LB×Bool×Int×Int)=>
both (
both (
(Dt f g h k m n o p u v b a).bind λ(y,aa,ab,ac,ad,ae,af,ag,ah,ai,aj,ak)=>
(λbm:Option (LB×LB×Int×Int×Int×Int×Int×LI×Int×LB×Bool×Int×Int)=>
bo (
bm)) (
some (y,aa,ab,ac,ad,ae,af,ag,ah,ai,aj,ak,a))) [
bl]) [
bl]) (
(Dt f g h k m n o p u v b a).bind λ(y,aa,ab,ac,ad,ae,af,ag,ah,ai,aj,ak)=>
some (y,aa,ab,ac,ad,ae,af,ag,ah,ai,aj,ak,a))
else
if b then
(Dt f g h k m n o p u v b a).bind λ(al,am,an,ao,ap,aq,ar,au,av,aw,ax,ay)=>
some (al,am,an,ao,ap,aq,ar,au,av,aw,ax,ay,36)
else
(Dt f g h k m n o p u v b a).bind λ(az,ba,bb,bc,bd,be,bf,bg,bh,bi,bj,bk)=>
some (az,ba,bb,bc,bd,be,bf,bg,bh,bi,bj,bk,0)
theorem gY: @FP= @Py:=by
  unfold FP Py
  try simp only[aZ,JK,JR]
  all_goals
    repeat (refine funext λ_=>?_)
    repeat' first
      |with_reducible rfl
      |with_reducible refine Nn ?_ ?_
      |with_reducible refine My ?_ ?_ ?_
      |with_reducible refine Mw ?_ ?_ ?_ ?_
      |((with_reducible refine Rq ?_ ?_);focus (intro h;first|(subst h;rfl)|(simp only[h];rfl)|(simp[De,Ac,h];done)))
      |with_reducible refine Sr λx=>?_
      |with_reducible refine AK (λ_=>?_) (λ_=>?_)
      |(refine Hp (λh=>by simp only[h,Ro,Es,El,ite_self]) (λx h=>?_);(try simp only[h,Es]))
      |(refine Ki (λh=>?_) (λh=>?_)<;>simp only[h,if_true,if_false,Bool.false_eq_true])
def H:Hd:=⟨[.agg [Ss,Sb,.agg [Si,Si,Si,Si,Si],Sl,Si,Sb,Sz,Si]],[.agg [Ss,Ob 5,.agg [Si,Si,Si,Si,Si],Ol 3,Si,Ob 5,Sz,Si],Si],(.seq .d (.seq .d (.seq (.blk (.seq .d (.cond (.seq (.mode false) .d) .d))) .d))),⟨[(63,F63.c),(108,F108.c)],gl,false⟩,[],f61⟩
def F:=u12 Py
theorem rn x:H.u P_ x=F x:=Eq.trans (b:=u12 FP x) (by kernel_rfl) (by rw[gY];rfl)
def c:Con:=⟨H.p,H.r,F⟩
theorem ok:ConOk P_ gl 61 c:=co H func61 (.cons F63.ok (.cons F108.ok .nil)) rn
end F61
namespace F64
def H:Hd:=⟨[.agg [Ss,Sb,.agg [Si,Si,Si,Si,Si],Sl,Si,Sb,Sz,Si],Si],[.agg [Ss,Ob 5,.agg [Si,Si,Si,Si,Si],Ol 3,Si,Sb,Sz,Si],Si],.d,⟨[],gl,false⟩,[],f64⟩
def F:=u13 cL
theorem rn x:H.u P_ x=F x:=by kernel_rfl
def c:Con:=⟨H.p,H.r,F⟩
theorem ok:ConOk P_ gl 64 c:=co H func64 .nil rn
end F64
namespace F24
def GF(j78:Int->Int->Int->Int->Int->LI->Bool->Int->LB->Int->LB->Option (LB×LB×Int×Int×Int×Int×Int×LI×Int×LB×Bool×Int×Int))(a:LB)(b:Bool)(f w ag:Int)(g:LB)(m p o u v h:Int)(am:LX)(k:LI)(n:LB):Option (LB×LB×Int×Int×Int×Int×Int×LI×Int×LB×Bool×Int×Int):=
if(Bd ag 0)then
(Ah ag).bind λ(dd,de)=>
j78 m p o u v k dd de g h n
else
(Rj o am).bind λ(df,aj)=>
if(Bd aj 0)then
(Ah aj).bind λ(dg,dh)=>
j78 m p o u v k dg dh g h n
else
(De n df).bind λdi=>
(λhb:Option (LB×LB×Int×Int×Int×Int×Int×LI×Int×LB×Bool×Int×Int)=>
bo (
hb)) (
(Bf g w (Ac g)).bind λdj=>
j78 m p o u v k false 0 dj (Ad h 1) di)
theorem jJ: @GF= @Xm:=by
  unfold GF Xm;simp only[aZ,JK,JR]
def DP(j62:Int->LI->LB->Bool->Int->LB->Int->Int->Int->Int->Int->Option (LB×LB×Int×Int×Int×Int×Int×LI×Int×LB×Bool×Int×Int))(j61:LB->Int->Int->Int->Int->Int->Int->LI->LB->Option (LB×LB×Int×Int×Int×Int×Int×LI×Int×LB×Bool×Int×Int))(j75:Int->Int->Int->Int->Int->Int->LB->Bool->Int->LB->LI->Option (LB×LB×Int×Int×Int×Int×Int×LI×Int×LB×Bool×Int×Int))(j73:LB->Int->Int->Int->Int->Int->Int->LI->LB->Option (LB×LB×Int×Int×Int×Int×Int×LI×Int×LB×Bool×Int×Int))(j74:LB->Int->Int->Int->Int->Int->Int->LI->LB->Int->Option (LB×LB×Int×Int×Int×Int×Int×LI×Int×LB×Bool×Int×Int))(j78:Int->Int->Int->Int->Int->LI->Bool->Int->LB->Int->LB->Option (LB×LB×Int×Int×Int×Int×Int×LI×Int×LB×Bool×Int×Int))(j76:Int->LB->Int->Int->Int->Int->Int->Int->LX->LI->LI->LB->Option (LB×LB×Int×Int×Int×Int×Int×LI×Int×LB×Bool×Int×Int))(j71:LB->Int->Int->Int->Int->Int->Int->Bool->Int->LI->LB->Option (LB×LB×Int×Int×Int×Int×Int×LI×Int×LB×Bool×Int×Int))(j70:LB->Int->Int->Int->Int->Int->Int->LI->LB->Option (LB×LB×Int×Int×Int×Int×Int×LI×Int×LB×Bool×Int×Int))(a:LB)(b:Bool)(f:Int)(g:LB)(m p o u v h:Int)(k:LI)(n:LB):Option (LB×LB×Int×Int×Int×Int×Int×LI×Int×LB×Bool×Int×Int):=
if(geq m 0)then
(Jd g).bind λ(ah,ao)=>
if(geq ao 24)then
j62 h k n true 0 g m p o u v
else
if(Bd ao 0)then
(Ah ao).bind λ(dk,dl)=>
j62 h k n dk dl g m p o u v
else
(Bf g ah (Ac g)).bind λdm=>
(Pf dm).bind λal=>
if al then
j62 h k n true 0 g m p o u v
else
(Bf g ah (Ac g)).bind λdn=>
(Mm dn).bind λ(ab,ac,y,ad,aa,ap)=>
if(geq ap 24)then
j62 h k n true 0 g m p o u v
else
if(Bd ap 0)then
(Ah ap).bind λ(dp,dq)=>
j62 h k n dp dq g m p o u v
else
both (
(Bf g (Ad ah 22) (Ac g)).bind λaf=>
bo (
j61 af ab ac y ad aa h k n)) [
(Bf g (Ad ah 22) (Ac g)).bind λaf=>
j61 af ab ac y ad aa h k n]
else
if(geq (Ac k) 0)then
if(geq m 2)then
if(Bt (Ac g) 8)then
j75 m p o u v h n true 0 g k
else
j73 g m p o u v h k n
else
j74 g m p o u v h k n 0
else
if(Bt h (Ac k))then
(Am k h).bind λ_=>
(Am k h).bind λw=>
if(Bt (Ac g) w)then
j78 m p o u v k true 0 g h n
else
(Ms a).bind λ(an,ak)=>
if(Bd ak 0)then
(Ah ak).bind λ(dr,ds)=>
j78 m p o u v k dr ds g h n
else
(Dn m p o u v).bind λ(ae,dt)=>
if((Bd dt 0)||(Je h (Ac ae)))then
(Ah 8).bind λ(du,bc)=>
j78 m p o u v k du bc g h n
else
j76 w g m p o u v h an ae k n
else
if(Dx (Ac g) 4000)then
(Ah 38).bind λ(dv,ai)=>
j71 g m p o u v h dv ai k n
else
j70 g m p o u v h k n
theorem jL: @DP= @Hs:=by
  unfold DP Hs
  repeat (refine funext λ_=>?_)
  repeat' first
    |with_reducible rfl
    |with_reducible refine Nn ?_ ?_
    |with_reducible refine My ?_ ?_ ?_
    |with_reducible refine Mw ?_ ?_ ?_ ?_
    |((with_reducible refine Rq ?_ ?_);focus (intro h;first|(subst h;rfl)|(simp only[h];rfl)|(simp[De,Ac,h];done)))
    |with_reducible refine Sr λx=>?_
    |with_reducible refine AK (λ_=>?_) (λ_=>?_)
    |(refine Hp (λh=>by simp only[h,Ro,Es,El,ite_self]) (λx h=>?_);(try simp only[h,Es]))
    |(refine Ki (λh=>?_) (λh=>?_)<;>simp only[h,if_true,if_false,Bool.false_eq_true])
abbrev R_:=(LB×LB×Int×Int×Int×Int×Int×LI×Int×LB×Bool×Int×Int)
abbrev K_:=S->Option R_
def H:Hd:=⟨[.agg [Ss,Sb,.agg [Si,Si,Si,Si,Si],Sl,Si,Sb,Sz,Si],Sb],[.agg [Ss,Ob 5,.agg [Si,Si,Si,Si,Si],Ol 3,Si,Sb,Sz,Si],Si],(.seq .d (.seq .d (.seq .d (.seq .d (.blk (.loop [2,4] [⟨2,[1],.ro (.int .u8)⟩] (.blk (.cut [2,4,7] [] (.keep [2,4,7,22] true) .d)))))))),⟨[(21,F21.c),(47,F47.c),(48,F48.c),(61,F61.c),(63,F63.c),(64,F64.c),(86,Zs),(87,F87.c),(88,F88.c),(89,F89.c),(90,F90.c),(112,F112.c),(152,F152.c),(153,F153.c),(154,F154.c)],gl,false⟩,[(62,(.seq .d (.cut [2] [] (.blk (.seq .d (.cond (.cut [2] [] (.keep [2,11] true) .d) (.seq .d (.cond (.cut [2] [] (.keep [2,20] true) .d) (.seq .d (.cond (.cut [2] [] (.keep [2,33] true) .d) .d))))))) .d))),(109,(.seq .d (.seq .d (.seq .d (.seq .d (.seq .d (.cut [0,2,5] [] (.mode false) .d))))))),(110,(.seq .d (.seq .d (.cut [0,2,3] [] (.seq .d (.cond (.seq .d (.cut [0,2,3] [⟨0,[1],.ro (.int .u8)⟩,⟨9,[1],.ro (.int .u8)⟩,⟨10,[1],.ro (.int .u8)⟩,⟨15,[1],.ro (.int .u8)⟩,⟨16,[1],.ro (.int .u8)⟩,⟨18,[],.ro (.int .u8)⟩] .d (.cut [0,2,3,4,5] [] .d .d))) .d)) .d)))),(111,(.seq .d (.seq .d (.seq .d (.seq .d (.seq .d (.seq .d (.cut [0,2,3,4,6] [⟨0,[1],.ro (.int .u8)⟩,⟨9,[1],.ro (.int .u8)⟩,⟨10,[1],.ro (.int .u8)⟩,⟨13,[1],.ro (.int .u8)⟩,⟨14,[1],.ro (.int .u8)⟩,⟨19,[1],.ro (.int .u8)⟩,⟨20,[1],.ro (.int .u8)⟩,⟨22,[],.ro (.int .u8)⟩,⟨28,[1],.ro (.int .u8)⟩,⟨29,[1],.ro (.int .u8)⟩,⟨40,[1],.ro (.int .u8)⟩,⟨41,[1],.ro (.int .u8)⟩] .d (.cut [0,2,3,5,7] [] .d (.seq .d (.seq .d (.seq .d (.seq .d (.seq (.mode false) .d))))))))))))))],f24⟩
def t37(a:LB)(b:Bool)(f:Int)(g:LB)(m p o u v h:Int)(k:LI)(n:LB):S:=⟨[(2,.ptr 0 []),(4,.ptr 1 [])],[.box 53 (.agg [vs a,vb g,.agg [vi m,vi p,vi o,vi u,vi v],.own 2,vi h,.own 3,vt b,vi f]),.box 53 (.agg [vs ([]:LB),.nils,.agg [vi 0,vi 0,vi 0,vi 0,vi 0],.nils,vi 0,.nils,vt false,vi 0]),Ai 3 k,Ab 5 n],[]⟩
def z37:Nat->S->Option R_:=H.i P_ [r,r,r,r,d]
def x71(Hh:K_)(a:LB)(b:Bool)(f:Int)(ar:LB)(au av aw ax ay az:Int)(bh:Bool)(be:Int)(ba:LI)(bb:LB):Option R_:=H.e P_ [r,r,r,r,d,(lp Hh),d,r] ⟨[(2,.ptr 0 []),(4,.ptr 1 []),(7,.ptr 2 [])],[.box 53 (.agg [vs a,vb ar,.agg [vi au,vi av,vi aw,vi ax,vi ay],.own 3,vi az,.own 4,vt b,vi f]),.box 53 (.agg [vs ([]:LB),.nils,.agg [vi 0,vi 0,vi 0,vi 0,vi 0],.nils,vi 0,.nils,vt false,vi 0]),.box 111 (.agg [vt bh,vi be]),Ai 3 ba,Ab 5 bb],[]⟩
def x70(Hh:K_)(a:LB)(b:Bool)(f:Int)(g:LB)(m p o u v h:Int)(k:LI)(n:LB):Option R_:=H.e P_ [r,r,r,r,d,(lp Hh),d,l,(call 0 62),r,r] ⟨[(2,.ptr 0 [])],[.box 111 (.agg [vt false,vi 0]),.box 53 (.agg [vs a,vb g,.agg [vi m,vi p,vi o,vi u,vi v],.own 3,vi h,.own 4,vt b,vi f]),.box 53 (.agg [vs ([]:LB),.nils,.agg [vi 0,vi 0,vi 0,vi 0,vi 0],.nils,vi 0,.nils,vt false,vi 0]),Ai 3 k,Ab 5 n],[[(2,.ptr 1 []),(4,.ptr 2 [])]]⟩
def x62(Hh:K_)(a:LB)(b:Bool)(f h:Int)(k:LI)(n:LB)(bj:Bool)(bk:Int)(bl:LB)(bm bn bp bq br:Int):Option R_:=H.e P_ [r,r,r,r,d,(lp Hh),d,l,(call 0 62),r,l,d,r,l,r] ⟨[(2,.ptr 0 [])],[.box 111 (.agg [vt bj,vi bk]),.box 53 (.agg [vs a,vb bl,.agg [vi bm,vi bn,vi bp,vi bq,vi br],.own 3,vi h,.own 4,vt b,vi f]),.box 53 (.agg [vs ([]:LB),.nils,.agg [vi 0,vi 0,vi 0,vi 0,vi 0],.nils,vi 0,.nils,vt false,vi 0]),Ai 3 k,Ab 5 n],[[(2,.ptr 1 []),(4,.ptr 2 [])]]⟩
def x61(Hh:K_)(a:LB)(b:Bool)(f:Int)(af:LB)(ab ac y ad aa h:Int)(k:LI)(n:LB):Option R_:=H.e P_ [r,r,r,r,d,(lp Hh),d,l,(call 0 62),r,l,d,r,l,l,(call 1 109),r,r,r,r,r,r] ⟨[(0,.ptr 0 []),(2,.ptr 1 []),(5,.ptr 2 [])],[.box 53 (.agg [vs a,vb af,.agg [vi ab,vi ac,vi y,vi ad,vi aa],.own 5,vi h,.own 6,vt b,vi f]),.box 111 (.agg [vt false,vi 0]),.box 50 (.agg [vi ab,vi ac,vi y,vi ad,vi aa]),.box 111 (.agg [vt false,vi 0]),.box 53 (.agg [vs ([]:LB),.nils,.agg [vi 0,vi 0,vi 0,vi 0,vi 0],.nils,vi 0,.nils,vt false,vi 0]),Ai 3 k,Ab 5 n],[[(2,.ptr 3 [])],[(2,.ptr 0 []),(4,.ptr 4 [])]]⟩
def x75(Hh:K_)(a:LB)(b:Bool)(f m p o u v h:Int)(n:LB)(bs:Bool)(bt:Int)(bu:LB)(bv:LI):Option R_:=H.e P_ [r,r,r,r,d,(lp Hh),d,l,(call 0 62),r,l,d,r,r,r,l,r] ⟨[(2,.ptr 0 [])],[.box 111 (.agg [vt bs,vi bt]),.box 53 (.agg [vs a,vb bu,.agg [vi m,vi p,vi o,vi u,vi v],.own 3,vi h,.own 4,vt b,vi f]),.box 53 (.agg [vs ([]:LB),.nils,.agg [vi 0,vi 0,vi 0,vi 0,vi 0],.nils,vi 0,.nils,vt false,vi 0]),Ai 3 bv,Ab 5 n],[[(2,.ptr 1 []),(4,.ptr 2 [])]]⟩
def x74(Hh:K_)(a:LB)(b:Bool)(f:Int)(g:LB)(m p o u v h:Int)(k:LI)(n:LB)(bf:Int):Option R_:=H.e P_ [r,r,r,r,d,(lp Hh),d,l,(call 0 62),r,l,d,r,r,r,l,l,(call 1 110),r,r,r] ⟨[(0,.ptr 0 []),(2,.ptr 1 []),(3,vi bf)],[.box 53 (.agg [vs a,vb g,.agg [vi m,vi p,vi o,vi u,vi v],.own 4,vi h,.own 5,vt b,vi f]),.box 111 (.agg [vt false,vi 0]),.box 111 (.agg [vt false,vi 0]),.box 53 (.agg [vs ([]:LB),.nils,.agg [vi 0,vi 0,vi 0,vi 0,vi 0],.nils,vi 0,.nils,vt false,vi 0]),Ai 3 k,Ab 5 n],[[(2,.ptr 2 [])],[(2,.ptr 0 []),(4,.ptr 3 [])]]⟩
def x64(Hh:K_)(a:LB)(b:Bool)(f:Int)(bd:Bool)(aq:Int)(g:LB)(m p o u v h:Int)(k:LI)(n:LB):Option R_:=H.e P_ [r,r,r,r,d,(lp Hh),d,l,(call 0 62),r,l,d,r,r,r,l,l,(call 1 110),r,r,l,r,l,r,r,r] ⟨[(0,.ptr 0 []),(2,.ptr 1 []),(3,vi 8),(4,vt bd),(5,vi aq)],[.box 53 (.agg [vs a,vb g,.agg [vi m,vi p,vi o,vi u,vi v],.own 4,vi h,.own 5,vt b,vi f]),.box 111 (.agg [vt false,vi 0]),.box 111 (.agg [vt false,vi 0]),.box 53 (.agg [vs ([]:LB),.nils,.agg [vi 0,vi 0,vi 0,vi 0,vi 0],.nils,vi 0,.nils,vt false,vi 0]),Ai 3 k,Ab 5 n],[[(2,.ptr 2 [])],[(2,.ptr 0 []),(4,.ptr 3 [])]]⟩
def x73(Hh:K_)(a:LB)(b:Bool)(f:Int)(g:LB)(m p o u v h:Int)(k:LI)(n:LB):Option R_:=H.e P_ [r,r,r,r,d,(lp Hh),d,l,(call 0 62),r,l,d,r,r,r,l,l,(call 1 110),r,r,l,r,l,r,r] ⟨[(0,.ptr 0 []),(2,.ptr 1 []),(3,vi 8)],[.box 53 (.agg [vs a,vb g,.agg [vi m,vi p,vi o,vi u,vi v],.own 4,vi h,.own 5,vt b,vi f]),.box 111 (.agg [vt false,vi 0]),.box 111 (.agg [vt false,vi 0]),.box 53 (.agg [vs ([]:LB),.nils,.agg [vi 0,vi 0,vi 0,vi 0,vi 0],.nils,vi 0,.nils,vt false,vi 0]),Ai 3 k,Ab 5 n],[[(2,.ptr 2 [])],[(2,.ptr 0 []),(4,.ptr 3 [])]]⟩
def x78(Hh:K_)(a:LB)(b:Bool)(f m p o u v:Int)(k:LI)(bx:Bool)(bz:Int)(da:LB)(db:Int)(dc:LB):Option R_:=H.e P_ [r,r,r,r,d,(lp Hh),d,l,(call 0 62),r,l,d,r,r,r,r,r,l,r] ⟨[(2,.ptr 0 [])],[.box 111 (.agg [vt bx,vi bz]),.box 53 (.agg [vs a,vb da,.agg [vi m,vi p,vi o,vi u,vi v],.own 3,vi db,.own 4,vt b,vi f]),.box 53 (.agg [vs ([]:LB),.nils,.agg [vi 0,vi 0,vi 0,vi 0,vi 0],.nils,vi 0,.nils,vt false,vi 0]),Ai 3 k,Ab 5 dc],[[(2,.ptr 1 []),(4,.ptr 2 [])]]⟩
def x77(Hh:K_)(a:LB)(b:Bool)(f w ag:Int)(g:LB)(m p o u v h:Int)(am:LX)(k:LI)(n:LB):Option R_:=H.e P_ [r,r,r,r,d,(lp Hh),d,l,(call 0 62),r,l,d,r,r,r,r,r,l,l,(call 1 111),r,r,r,r,r,r,r,r] ⟨[(0,.ptr 0 []),(2,.ptr 1 []),(3,vi w),(5,vi ag),(7,.own 2)],[.box 53 (.agg [vs a,vb g,.agg [vi m,vi p,vi o,vi u,vi v],.own 5,vi h,.own 6,vt b,vi f]),.box 111 (.agg [vt false,vi 0]),Aw 21 am,.box 111 (.agg [vt false,vi 0]),.box 53 (.agg [vs ([]:LB),.nils,.agg [vi 0,vi 0,vi 0,vi 0,vi 0],.nils,vi 0,.nils,vt false,vi 0]),Ai 3 k,Ab 5 n],[[(2,.ptr 3 [])],[(2,.ptr 0 []),(4,.ptr 4 [])]]⟩
def x76(Hh:K_)(a:LB)(b:Bool)(f w:Int)(g:LB)(m p o u v h:Int)(an:LX)(ae k:LI)(n:LB):Option R_:=H.e P_ [r,r,r,r,d,(lp Hh),d,l,(call 0 62),r,l,d,r,r,r,r,r,l,l,(call 1 111),r,r,r,r,r,r,r] ⟨[(0,.ptr 0 []),(2,.ptr 1 []),(3,vi w),(4,.ptr 2 []),(6,.own 3)],[.box 53 (.agg [vs a,vb g,.agg [vi m,vi p,vi o,vi u,vi v],.own 6,vi h,.own 7,vt b,vi f]),.box 111 (.agg [vt false,vi 0]),.box 91 (.val (.vec 16 (.int .i32)) an),Ai 3 ae,.box 111 (.agg [vt false,vi 0]),.box 53 (.agg [vs ([]:LB),.nils,.agg [vi 0,vi 0,vi 0,vi 0,vi 0],.nils,vi 0,.nils,vt false,vi 0]),Ai 3 k,Ab 5 n],[[(2,.ptr 4 [])],[(2,.ptr 0 []),(4,.ptr 5 [])]]⟩
def x37(a:LB)(b:Bool)(f:Int)(g:LB)(m p o u v h:Int)(k:LI)(n:LB):Option R_:=H.e P_ [r,r,r,r,d] (t37 a b f g m p o u v h k n)
theorem e71(Hh:K_)(a:LB)(b:Bool)(f:Int):x71 Hh a b f=Bv (λg m p o u v h k n=>Hh (t37 a b f g m p o u v h k n)) a b f:=by kernel_rfl
theorem e70(Hh:K_)(a:LB)(b:Bool)(f:Int):x70 Hh a b f=Xt (λg m p o u v h k n=>Hh (t37 a b f g m p o u v h k n)) a b f:=Eq.trans (b:=ZJ (x71 Hh a b f) a b f) (by kernel_rfl) (by simp only[e71]<;>rfl)
theorem e62(Hh:K_)(a:LB)(b:Bool)(f:Int):x62 Hh a b f=Mt (λg m p o u v h k n=>Hh (t37 a b f g m p o u v h k n)) a b f:=Eq.trans (b:=aP (x71 Hh a b f) a b f) (by kernel_rfl) (by simp only[e71]<;>rfl)
theorem e61(Hh:K_)(a:LB)(b:Bool)(f:Int):x61 Hh a b f=Qt (λg m p o u v h k n=>Hh (t37 a b f g m p o u v h k n)) a b f:=Eq.trans (b:=JN (x62 Hh a b f) a b f) (by kernel_rfl) (by simp only[e62]<;>rfl)
theorem e75(Hh:K_)(a:LB)(b:Bool)(f:Int):x75 Hh a b f=Ke (λg m p o u v h k n=>Hh (t37 a b f g m p o u v h k n)) a b f:=Eq.trans (b:=YL (x71 Hh a b f) a b f) (by kernel_rfl) (by simp only[e71]<;>rfl)
theorem e74(Hh:K_)(a:LB)(b:Bool)(f:Int):x74 Hh a b f=Ko (λg m p o u v h k n=>Hh (t37 a b f g m p o u v h k n)) a b f:=Eq.trans (b:=JO (x75 Hh a b f) a b f) (by kernel_rfl) (by simp only[e75]<;>rfl)
theorem e64(Hh:K_)(a:LB)(b:Bool)(f:Int):x64 Hh a b f=IU (λg m p o u v h k n=>Hh (t37 a b f g m p o u v h k n)) a b f:=Eq.trans (b:=JF (x75 Hh a b f) (x74 Hh a b f) a b f) (by kernel_rfl) (by simp only[e75,e74]<;>rfl)
theorem e73(Hh:K_)(a:LB)(b:Bool)(f:Int):x73 Hh a b f=Qv (λg m p o u v h k n=>Hh (t37 a b f g m p o u v h k n)) a b f:=Eq.trans (b:=IL (x64 Hh a b f) a b f) (by kernel_rfl) (by simp only[e64]<;>rfl)
theorem e78(Hh:K_)(a:LB)(b:Bool)(f:Int):x78 Hh a b f=Mq (λg m p o u v h k n=>Hh (t37 a b f g m p o u v h k n)) a b f:=Eq.trans (b:=aY (x71 Hh a b f) a b f) (by kernel_rfl) (by simp only[e71]<;>rfl)
theorem e77(Hh:K_)(a:LB)(b:Bool)(f:Int):x77 Hh a b f=JS (λg m p o u v h k n=>Hh (t37 a b f g m p o u v h k n)) a b f:=Eq.trans (b:=GF (x78 Hh a b f) a b f) (by kernel_rfl) (by rw[jJ];simp only[e78]<;>rfl)
theorem e76(Hh:K_)(a:LB)(b:Bool)(f:Int):x76 Hh a b f=Qk (λg m p o u v h k n=>Hh (t37 a b f g m p o u v h k n)) a b f:=Eq.trans (b:=JH (x77 Hh a b f) a b f) (by kernel_rfl) (by simp only[e77]<;>rfl)
theorem i37(a:LB)(b:Bool)(f:Int):∀(q:Nat) (g:LB) (m p o u v h:Int) (k:LI) (n:LB),z37 q (t37 a b f g m p o u v h k n)=Az a b f q g m p o u v h k n:=
 ind (λ_ _ _ _ _ _ _ _ _=>by kernel_rfl) λq ih g m p o u v h k n=>Eq.trans (b:=DP (x62 (z37 q) a b f) (x61 (z37 q) a b f) (x75 (z37 q) a b f) (x73 (z37 q) a b f) (x74 (z37 q) a b f) (x78 (z37 q) a b f) (x76 (z37 q) a b f) (x71 (z37 q) a b f) (x70 (z37 q) a b f) a b f g m p o u v h k n) (by kernel_rfl) (by rw[jL];simp only[e62,e61,e75,e73,e74,e78,e76,e71,e70,ih]<;>rfl)
theorem e37:x37=YU:=by funext a b f g m p o u v h k n;exact Eq.trans (by kernel_rfl) ((i37 a b f Dc g m p o u v h k n).trans (by rw[Ax];rfl))
def F:=u13 Ry
theorem rn x:H.u P_ x=F x:=Eq.trans (b:=u13 (Zy x37) x) (by kernel_rfl) (by simp only[e37]<;>rfl)
def c:Con:=⟨H.p,H.r,F⟩
theorem ok:ConOk P_ gl 24 c:=cr H func24 (.cons F21.ok (.cons F47.ok (.cons F48.ok (.cons F61.ok (.cons F63.ok (.cons F64.ok (.cons SX (.cons F87.ok (.cons F88.ok (.cons F89.ok (.cons F90.ok (.cons F112.ok (.cons F152.ok (.cons F153.ok (.cons F154.ok .nil))))))))))))))) (Dv.cons ent62 (Dv.cons ent109 (Dv.cons ent110 (Dv.cons ent111 Dv.nil)))) rn
end F24
namespace F99
abbrev R_:=(Int×Int)
def H:Hd:=⟨[Sb],[Si,Si],(.seq .d (.seq .d (.cut [0,4] [] .d .d))),⟨[(66,F66.c),(142,F142.c),(143,F143.c),(144,F144.c)],gl,false⟩,[],f99⟩
def x2(a:LB):Option R_:=H.e P_ [r,r,r] ⟨[(0,vb a),(4,vi (Ak (Ac a) (32:Int)))],[],[]⟩
theorem e2:x2=kB:=by kernel_rfl
def F:=sR
theorem rn x:H.u P_ x=F x:=Eq.trans (b:=gZ x2 x) (by kernel_rfl) (by simp only[e2]<;>rfl)
def c:Con:=⟨H.p,H.r,F⟩
theorem ok:ConOk P_ gl 99 c:=co H func99 (.cons F66.ok (.cons F142.ok (.cons F143.ok (.cons F144.ok .nil)))) rn
end F99
namespace F49
abbrev R_:=(Int×Int)
abbrev K_:=S->Option R_
def H:Hd:=⟨[Sb],[Si,Si],(.seq .d (.seq .d (.seq .d (.seq .d (.cut [5] [] (.blk (.loop [1,4,5] [] (.seq .d (.cut [1,4,5] [] (.blk (.cut [1,4,5,6] [] (.keep [1,4,5,6,16,17] true) .d)) .d)))) .d))))),⟨[(99,F99.c)],gl,false⟩,[(98,.d)],f49⟩
def t8(a:Int)(b:LB):S:=⟨[(1,.ptr 0 []),(4,.fn 98 [.ptr 0 []]),(5,vi a)],[.box 25 (vb b)],[]⟩
def z8:Nat->S->Option R_:=H.i P_ [r,r,r,r,l,d]
def x14(a:Int):Option R_:=H.e P_ [r,r,r,r,r] ⟨[(5,vi a)],[],[]⟩
def x12(kn8:K_)(a:Int)(g:LB):Option R_:=H.e P_ [r,r,r,r,l,d,(lp kn8),r,r] ⟨[(1,.ptr 0 []),(4,.fn 98 [.ptr 0 []]),(5,vi a)],[.box 25 (vb g)],[]⟩
def x11(kn8:K_)(a f:Int)(b:LB):Option R_:=H.e P_ [r,r,r,r,l,d,(lp kn8),r,l,d,r] ⟨[(1,.ptr 0 []),(4,.fn 98 [.ptr 0 []]),(5,vi a),(6,vi f)],[.box 25 (vb b)],[]⟩
def x8(a:Int)(b:LB):Option R_:=H.e P_ [r,r,r,r,l,d] (t8 a b)
theorem e14:x14=ZN:=by kernel_rfl
theorem e12(kn8:K_):x12 kn8=IP (λa b=>kn8 (t8 a b)):=by kernel_rfl
theorem e11(kn8:K_):x11 kn8=JL (λa b=>kn8 (t8 a b)):=Eq.trans (b:=IF (x12 kn8)) (by kernel_rfl) (by simp only[e12]<;>rfl)
theorem i8:∀(q:Nat) (a:Int) (b:LB),z8 q (t8 a b)=Tg q a b:=
 ind (λ_ _=>by kernel_rfl) λq ih a b=>Eq.trans (b:=NS (x11 (z8 q)) x14 a b) (by kernel_rfl) (by simp only[e11,e14,ih]<;>rfl)
theorem e8:x8=fD:=by funext a b;exact Eq.trans (by kernel_rfl) ((i8 Dc a b).trans (by rw[Ax];rfl))
def F:=GQ
theorem rn x:H.u P_ x=F x:=Eq.trans (b:=NI x8 x) (by kernel_rfl) (by simp only[e8]<;>rfl)
def c:Con:=⟨H.p,H.r,F⟩
theorem ok:ConOk P_ gl 49 c:=cr H func49 (.cons F99.ok .nil) (Dv.cons ent98 Dv.nil) rn
end F49
namespace F85
def H:Hd:=⟨[.agg [Ss,Sb,.agg [Si,Si,Si,Si,Si],Sl,Si,Sb,Sz,Si]],[Si],.d,⟨[(49,F49.c),(86,Zs),(87,F87.c)],gl,false⟩,[],f85⟩
def F:=u12 EA
theorem rn x:H.u P_ x=F x:=by kernel_rfl
def c:Con:=⟨H.p,H.r,F⟩
theorem ok:ConOk P_ gl 85 c:=co H func85 (.cons F49.ok (.cons SX (.cons F87.ok .nil))) rn
end F85
namespace F43
def H:Hd:=⟨[.agg [Ss,Sb,.agg [Si,Si,Si,Si,Si],Sl,Si,Sb,Sz,Si]],[.agg [Ss,Ob 5,.agg [Si,Si,Si,Si,Si],Ol 3,Si,Sb,Sz,Si],Si],.d,⟨[(61,F61.c),(64,F64.c),(85,F85.c)],gl,false⟩,[],f43⟩
def F:=u12 Wd
theorem rn x:H.u P_ x=F x:=by kernel_rfl
def c:Con:=⟨H.p,H.r,F⟩
theorem ok:ConOk P_ gl 43 c:=co H func43 (.cons F61.ok (.cons F64.ok (.cons F85.ok .nil))) rn
end F43
namespace F57
abbrev R_:=(LB×Int)
abbrev K_:=S->Option R_
def H:Hd:=⟨[Ss,Sb,Sl],[Sb,Si],(.seq .d (.seq .d (.seq .d (.cut [8] [] (.seq .d (.blk (.loop [1,8,20,21,22] [⟨8,[5],.ro (.int .u8)⟩] (.seq .d (.seq .d (.seq (.blk (.seq .d (.seq (.cut [1,8,9,11,20,21,22] [] (.mode false) .d) .d))) .d)))))) .d)))),⟨[(23,F23.c),(24,F24.c),(43,F43.c)],gl,false⟩,[],f57⟩
def t7(a:LI)(b:LB)(f:Int)(g:LB)(h k m n o p:Int)(u:LB)(v:Bool)(w:Int)(y:LB)(aa:LI):S:=⟨[(1,vb b),(8,.ptr 0 []),(20,vl a),(21,vi (Ac a)),(22,vi f)],[.box 53 (.agg [vs g,.own 1,.agg [vi h,vi k,vi m,vi n,vi o],.own 2,vi p,vb u,vt v,vi w]),Ab 5 y,Ai 3 aa],[]⟩
def z7:Nat->S->Option R_:=H.i P_ [r,r,r,l,r,d]
def x12(g:LB)(h k m n o p:Int)(u:LB)(v:Bool)(w:Int)(y:LB)(aa:LI):Option R_:=H.e P_ [r,r,r,r] ⟨[(8,.ptr 0 [])],[.box 53 (.agg [vs g,.own 1,.agg [vi h,vi k,vi m,vi n,vi o],.own 2,vi p,vb u,vt v,vi w]),Ab 5 y,Ai 3 aa],[]⟩
def x10(kn7:K_)(a:LI)(b:LB)(ag ah f:Int)(aj:LB)(ac ad ae ak af al:Int)(ai:LB)(am:Bool)(an:Int)(ao:LB)(ab:LI):Option R_:=H.e P_ [r,r,r,l,r,d,(lp kn7),r,r,l,d,r,l,r] ⟨[(1,vb b),(8,.ptr 0 []),(9,vi ag),(11,vi ah),(20,vl a),(21,vi (Ac a)),(22,vi f)],[.box 53 (.agg [vs aj,.own 1,.agg [vi ac,vi ad,vi ae,vi ak,vi af],.own 2,vi al,vb ai,vt am,vi an]),Ab 5 ao,Ai 3 ab],[]⟩
def x7(a:LI)(b:LB)(f:Int)(g:LB)(h k m n o p:Int)(u:LB)(v:Bool)(w:Int)(y:LB)(aa:LI):Option R_:=H.e P_ [r,r,r,l,r,d] (t7 a b f g h k m n o p u v w y aa)
theorem e12:x12=Uv:=by kernel_rfl
theorem e10(kn7:K_)(a:LI):x10 kn7 a=Vq (λb f g h k m n o p u v w y aa=>kn7 (t7 a b f g h k m n o p u v w y aa)) a:=by kernel_rfl
theorem i7(a:LI):∀(q:Nat) (b:LB) (f:Int) (g:LB) (h k m n o p:Int) (u:LB) (v:Bool) (w:Int) (y:LB) (aa:LI),z7 q (t7 a b f g h k m n o p u v w y aa)=Kc a q b f g h k m n o p u v w y aa:=
 ind (λ_ _ _ _ _ _ _ _ _ _ _ _ _ _=>by kernel_rfl) λq ih b f g h k m n o p u v w y aa=>Eq.trans (b:=Xi (x10 (z7 q) a) x12 a b f g h k m n o p u v w y aa) (by kernel_rfl) (by simp only[e10,e12,ih]<;>rfl)
theorem e7:x7=ZG:=by funext a b f g h k m n o p u v w y aa;exact Eq.trans (by kernel_rfl) ((i7 a Dc b f g h k m n o p u v w y aa).trans (by rw[Ax];rfl))
def F:=u3 Kt
theorem rn x:H.u P_ x=F x:=Eq.trans (b:=u3 (Xh x7) x) (by kernel_rfl) (by simp only[e7]<;>rfl)
def c:Con:=⟨H.p,H.r,F⟩
theorem ok:ConOk P_ gl 57 c:=co H func57 (.cons F23.ok (.cons F24.ok (.cons F43.ok .nil))) rn
end F57
namespace F19
def H:Hd:=⟨[Ss,Sb,Sq],[Sb,Si],.d,⟨[(26,F26.c),(57,F57.c)],gl,false⟩,[],f19⟩
def F:=u3 Ic
theorem rn x:H.u P_ x=F x:=by kernel_rfl
def c:Con:=⟨H.p,H.r,F⟩
theorem ok:ConOk P_ gl 19 c:=co H func19 (.cons F26.ok (.cons F57.ok .nil)) rn
end F19
namespace F27
abbrev R_:=(Int×Int)
abbrev K_:=S->Option R_
def H:Hd:=⟨[Ss,Sb,Si,Si],[Si,Si],(.seq .d (.seq .d (.seq .d (.seq .d (.seq .d (.seq .d (.cut [14] [] (.seq .d (.blk (.loop [0,1,2,3,12,13,14,66,67] [] (.seq .d (.seq .d (.cut [0,1,2,3,12,13,14,66,67] [] (.blk (.seq .d (.seq .d (.seq .d (.cut [0,1,2,3,12,13,14,16,17,66,67] [] (.seq .d (.blk (.loop [0,1,2,3,12,13,14,15,16,17,66,67,70,71] [⟨16,[],.own 3 (.int .i64)⟩] .d))) .d))))) .d)))))) .d))))))),⟨[(23,F23.c),(57,F57.c),(66,F66.c)],gl,false⟩,[],f27⟩
def t17(g b:LB)(f a:Int)(h:LB)(k n m o u:Int)(p:LI):S:=⟨[(0,vs g),(1,vb b),(2,vi f),(3,vi a),(12,vb h),(13,vi k),(14,vi n),(15,vi m),(16,.own 0),(17,vi o),(66,vi (Du (1:Int) (GI.toZ a).toNat)),(67,vi m),(70,vi a),(71,vi u)],[Ai 3 p],[]⟩
def z17(Gb:K_):Nat->S->Option R_:=H.i P_ [r,r,r,r,r,r,l,r,d,(lp Gb),r,r,l,d,r,r,r,l,r,d]
def t12(g b:LB)(f a:Int)(h:LB)(k n m:Int):S:=⟨[(0,vs g),(1,vb b),(2,vi f),(3,vi a),(12,vb h),(13,vi k),(14,vi n),(66,vi (Du (1:Int) (GI.toZ a).toNat)),(67,vi m)],[],[]⟩
def z12:Nat->S->Option R_:=H.i P_ [r,r,r,r,r,r,l,r,d]
def x22(n:Int):Option R_:=H.e P_ [r,r,r,r,r,r,r] ⟨[(14,vi n)],[],[]⟩
def x20(Gb:K_)(g b:LB)(f a:Int)(h:LB)(k m v:Int):Option R_:=H.e P_ [r,r,r,r,r,r,l,r,d,(lp Gb),r,r,r] ⟨[(0,vs g),(1,vb b),(2,vi f),(3,vi a),(12,vb h),(13,vi k),(14,vi v),(66,vi (Du (1:Int) (GI.toZ a).toNat)),(67,vi m)],[],[]⟩
def x19(Gb:K_)(g b:LB)(f a:Int)(h:LB)(k n o m:Int)(p:LI):Option R_:=H.e P_ [r,r,r,r,r,r,l,r,d,(lp Gb),r,r,l,d,r,r,r,r] ⟨[(0,vs g),(1,vb b),(2,vi f),(3,vi a),(12,vb h),(13,vi k),(14,vi n),(16,.own 0),(17,vi o),(66,vi (Du (1:Int) (GI.toZ a).toNat)),(67,vi m)],[Ai 3 p],[]⟩
def x17(Gb:K_)(g b:LB)(f a:Int)(h:LB)(k n m o u:Int)(p:LI):Option R_:=H.e P_ [r,r,r,r,r,r,l,r,d,(lp Gb),r,r,l,d,r,r,r,l,r,d] (t17 g b f a h k n m o u p)
def x12(g b:LB)(f a:Int)(h:LB)(k n m:Int):Option R_:=H.e P_ [r,r,r,r,r,r,l,r,d] (t12 g b f a h k n m)
theorem e22:x22=fV:=by kernel_rfl
theorem e20(Gb:K_)(g b:LB)(f a:Int)(h:LB)(k:Int):x20 Gb g b f a h k=Oo (λn m=>Gb (t12 g b f a h k n m)) g b f a h k:=by kernel_rfl
theorem e19(Gb:K_)(g b:LB)(f a:Int)(h:LB)(k:Int):x19 Gb g b f a h k=OF (λn m=>Gb (t12 g b f a h k n m)) g b f a h k:=Eq.trans (b:=OA (x20 Gb g b f a h k) g b f a h k) (by kernel_rfl) (by simp only[e20]<;>rfl)
theorem i17(Gb:K_)(g b:LB)(f a:Int)(h:LB)(k n m:Int):∀(q:Nat) (o u:Int) (p:LI),z17 Gb q (t17 g b f a h k n m o u p)=Ot (λn m=>Gb (t12 g b f a h k n m)) g b f a h k n m q o u p:=
 ind (λ_ _ _=>by kernel_rfl) λq ih o u p=>Eq.trans (b:=AB (x19 Gb g b f a h k) (λo u p=>(z17 Gb q) (t17 g b f a h k n m o u p)) g b f a h k n m o u p) (by kernel_rfl) (by simp only[e19,ih]<;>rfl)
theorem e17(Gb:K_)(g b:LB)(f a:Int)(h:LB)(k:Int):x17 Gb g b f a h k=OE (λn m=>Gb (t12 g b f a h k n m)) g b f a h k:=by funext n m o u p;exact Eq.trans (by kernel_rfl) ((i17 Gb g b f a h k n m Dc o u p).trans (by rw[Ax];rfl))
theorem i12(g b:LB)(f a:Int)(h:LB)(k:Int):∀(q:Nat) (n m:Int),z12 q (t12 g b f a h k n m)=On g b f a h k q n m:=
 ind (λ_ _=>by kernel_rfl) λq ih n m=>Eq.trans (b:=NL (x17 (z12 q) g b f a h k) x22 g b f a h k n m) (by kernel_rfl) (by simp only[e17,e22,ih]<;>rfl)
theorem e12:x12=OI:=by funext g b f a h k n m;exact Eq.trans (by kernel_rfl) ((i12 g b f a h k Dc n m).trans (by rw[Ax];rfl))
def F:=u4 Cz
theorem rn x:H.u P_ x=F x:=Eq.trans (b:=u4 (FK x12) x) (by kernel_rfl) (by simp only[e12]<;>rfl)
def c:Con:=⟨H.p,H.r,F⟩
theorem ok:ConOk P_ gl 27 c:=co H func27 (.cons F23.ok (.cons F57.ok (.cons F66.ok .nil))) rn
end F27
namespace F79
def H:Hd:=⟨[.agg [Si,Si,Si,Sw]],[.agg [Si,Si]],.d,⟨[],gl,false⟩,[],f79⟩
def F:=u4 pH
theorem rn x:H.u P_ x=F x:=by kernel_rfl
def c:Con:=⟨H.p,H.r,F⟩
theorem ok:ConOk P_ gl 79 c:=co H func79 .nil rn
end F79
namespace F67
def H:Hd:=⟨[.agg [Si,Si,Si,Sw],Si],[Si],.d,⟨[(79,F79.c),(92,F92.c),(115,F115.c)],gl,false⟩,[],f67⟩
def F:=u5 T6
theorem rn x:H.u P_ x=F x:=by kernel_rfl
def c:Con:=⟨H.p,H.r,F⟩
theorem ok:ConOk P_ gl 67 c:=co H func67 (.cons F79.ok (.cons F92.ok (.cons F115.ok .nil))) rn
end F67
namespace F29
def H:Hd:=⟨[.agg [Si,Si,Si,Sw]],[Si],.d,⟨[(59,F59.c),(67,F67.c)],gl,false⟩,[],f29⟩
def F:=u4 JT
theorem rn x:H.u P_ x=F x:=by kernel_rfl
def c:Con:=⟨H.p,H.r,F⟩
theorem ok:ConOk P_ gl 29 c:=co H func29 (.cons F59.ok (.cons F67.ok .nil)) rn
end F29
namespace F35
def NR(j2:LB->Int->Int->Int->LX->Option (Int×Int×Int×Int×Int×Int))(a b f:Int)(g:LX)(h:LB):Option (Int×Int×Int×Int×Int×Int):=
(JT a b f g).bind λk=>
if(Bd k 0)then
some (0,0,0,0,0,k)
else
if(Dx (Ac h) 64)then
some (0,0,0,0,0,2)
else
(Hj (Bd a 0)).bind λ_=>
bo (
j2 h a b f g)
theorem pG: @NR= @SM:=by
  unfold NR SM;simp only[aZ,JK,JR]
abbrev R_:=(Int×Int×Int×Int×Int×Int)
def H:Hd:=⟨[.agg [Si,Si,Si,Sw],Ss],[.agg [Si,Si,Si,Si,Si],Si],(.seq .d (.seq .d (.seq .d (.cut [1,4,7] [] .d .d)))),⟨[(29,F29.c)],gl,false⟩,[],f35⟩
def x2(h:LB)(a b f:Int)(g:LX):Option R_:=H.e P_ [r,r,r,r] ⟨[(1,vs h),(4,.ptr 0 []),(7,.ptr 1 [])],[.box 50 (.agg [vi 0,vi 0,vi 0,vi 0,vi 0]),.box 50 (.agg [vi 1,vi a,vi b,vi f,vi (By (Ac g) a)])],[]⟩
theorem e2:x2=jR:=by kernel_rfl
def F:=u5 wZ
theorem rn x:H.u P_ x=F x:=Eq.trans (b:=u5 (NR x2) x) (by kernel_rfl) (by unfold F;rw[pG];simp only[e2]<;>rfl)
def c:Con:=⟨H.p,H.r,F⟩
theorem ok:ConOk P_ gl 35 c:=co H func35 (.cons F29.ok .nil) rn
end F35
theorem zG:ConOk Tryz.prog gl 36 XW:=C2 F29.ok F47.ok F120.ok F78.ok F79.ok
namespace F41
def H:Hd:=⟨[Sb],[Si],.d,⟨[],gl,false⟩,[],f41⟩
def F:=nQ
theorem rn x:H.u P_ x=F x:=by kernel_rfl
def c:Con:=⟨H.p,H.r,F⟩
theorem ok:ConOk P_ gl 41 c:=co H func41 .nil rn
end F41
namespace F42
abbrev R_:=LB
def H:Hd:=⟨[.lf (.list (.list (.int .u8))) none],[Ob 5],(.seq .d (.seq .d (.cut [3] [] (.seq .d (.blk (.loop [3,6,7,8] [⟨3,[],.own 5 (.int .u8)⟩] .d))) .d))),⟨[],gl,false⟩,[],f42⟩
def t4(b:List LB)(f:Int)(a:LB):S:=⟨[(3,.own 0),(6,.val (.list (.list (.int .u8))) b),(7,vi (Ac b)),(8,vi f)],[Ab 5 a],[]⟩
def z4:Nat->S->Option R_:=H.i P_ [r,r,l,r,d]
def x6(a:LB):Option R_:=H.e P_ [r,r,r] ⟨[(3,.own 0)],[Ab 5 a],[]⟩
def x4(b:List LB)(f:Int)(a:LB):Option R_:=H.e P_ [r,r,l,r,d] (t4 b f a)
theorem e6:x6=kL:=by kernel_rfl
theorem i4(b:List LB):∀(q:Nat) (f:Int) (a:LB),z4 q (t4 b f a)=TV b q f a:=
 ind (λ_ _=>by kernel_rfl) λq ih f a=>Eq.trans (b:=iX x6 (λf a=>(z4 q) (t4 b f a)) b f a) (by kernel_rfl) (by simp only[e6,ih]<;>rfl)
theorem e4:x4=kU:=by funext b f a;exact Eq.trans (by kernel_rfl) ((i4 b Dc f a).trans (by rw[Ax];rfl))
def F:=wD
theorem rn x:H.u P_ x=F x:=Eq.trans (b:=iA x4 x) (by kernel_rfl) (by simp only[e4]<;>rfl)
def c:Con:=⟨H.p,H.r,F⟩
theorem ok:ConOk P_ gl 42 c:=co H func42 .nil rn
end F42
namespace F11
abbrev R_:=(LB×Int)
abbrev K_:=S->Option R_
def H:Hd:=⟨[.agg [Si,Si,Si,Sw],Ss],[Ob 5,Si],(.seq .d (.seq .d (.seq .d (.seq .d (.seq .d (.seq .d (.seq .d (.seq .d (.cut [8,9,10] [⟨10,[],.own 5 (.int .u8)⟩] .d (.cut [7,8,9,10,11] [] (.keep [7,8,9,10,11,46,48,49,50,51] true) .d)))))))))),⟨[(35,F35.c),(36,XW),(37,F37.c),(38,F38.c),(39,F39.c),(41,F41.c),(42,F42.c)],gl,false⟩,[(40,(.seq .d (.seq .d (.cut [5] [] (.seq .d (.blk (.loop [1,5,11,12,13] [] (.seq .d (.seq .d (.cut [1,5,11,12,13] [] .d .d)))))) .d))))],f11⟩
def t9(a:List LB)(b f:LB)(g:Int)(h:LI):S:=⟨[(1,.fn 41 []),(5,.own 0),(11,.own 1),(12,vi (Ac a)),(13,vi g)],[Ai 3 h,.arr 25 (.list (.int .u8)) a,Ab 5 b,Ab 5 f],[[(8,.own 1),(9,.own 2),(10,.own 3)]]⟩
def z9:Nat->S->Option R_:=H.i P_ [r,r,r,r,r,r,r,r,r,l,(call 1 40),r,r,l,r,d]
def x14(k:Int)(a:List LB)(b f n:LB):Option R_:=H.e P_ [r,r,r,r,r,r,r,r,r,r] ⟨[(7,vi k),(8,.own 0),(9,.own 1),(10,.own 2),(11,.own 3)],[.arr 25 (.list (.int .u8)) a,Ab 5 b,Ab 5 f,Ab 5 n],[]⟩
def x13(h:LI)(a:List LB)(b f:LB):Option R_:=H.e P_ [r,r,r,r,r,r,r,r,r,l,(call 1 40),r,r,r] ⟨[(5,.own 0)],[Ai 3 h,.arr 25 (.list (.int .u8)) a,Ab 5 b,Ab 5 f],[[(8,.own 1),(9,.own 2),(10,.own 3)]]⟩
def x11(kn9:K_)(a:List LB)(b f:LB)(g:Int)(m:LI):Option R_:=H.e P_ [r,r,r,r,r,r,r,r,r,l,(call 1 40),r,r,l,r,d,(lp kn9),r,r,r] ⟨[(1,.fn 41 []),(5,.own 0),(11,.own 1),(12,vi (Ac a)),(13,vi g)],[Ai 3 m,.arr 25 (.list (.int .u8)) a,Ab 5 b,Ab 5 f],[[(8,.own 1),(9,.own 2),(10,.own 3)]]⟩
def x9(a:List LB)(b f:LB)(g:Int)(h:LI):Option R_:=H.e P_ [r,r,r,r,r,r,r,r,r,l,(call 1 40),r,r,l,r,d] (t9 a b f g h)
def x8(a:List LB)(b f:LB):Option R_:=H.e P_ [r,r,r,r,r,r,r,r,r] ⟨[(8,.own 0),(9,.own 1),(10,.own 2)],[.arr 25 (.list (.int .u8)) a,Ab 5 b,Ab 5 f],[]⟩
theorem e14:x14=fP:=by kernel_rfl
theorem e13:x13=eB:=Eq.trans (b:=fW x14) (by kernel_rfl) (by simp only[e14]<;>rfl)
theorem e11(kn9:K_)(a:List LB)(b f:LB):x11 kn9 a b f=fK (λg h=>kn9 (t9 a b f g h)) a b f:=by kernel_rfl
theorem i9(a:List LB)(b f:LB):∀(q:Nat) (g:Int) (h:LI),z9 q (t9 a b f g h)=SV a b f q g h:=
 ind (λ_ _=>by kernel_rfl) λq ih g h=>Eq.trans (b:=kQ (x11 (z9 q) a b f) x13 a b f g h) (by kernel_rfl) (by simp only[e11,e13,ih]<;>rfl)
theorem e9:x9=kY:=by funext a b f g h;exact Eq.trans (by kernel_rfl) ((i9 a b f Dc g h).trans (by rw[Ax];rfl))
theorem e8:x8=lO:=Eq.trans (b:=kJ x9) (by kernel_rfl) (by simp only[e9]<;>rfl)
def F:=u5 wR
theorem rn x:H.u P_ x=F x:=Eq.trans (b:=u5 (kM x8) x) (by kernel_rfl) (by simp only[e8]<;>rfl)
def c:Con:=⟨H.p,H.r,F⟩
theorem ok:ConOk P_ gl 11 c:=cr H func11 (.cons F35.ok (.cons zG (.cons F37.ok (.cons F38.ok (.cons F39.ok (.cons F41.ok (.cons F42.ok .nil))))))) (Dv.cons ent40 Dv.nil) rn
end F11
namespace F17
def H:Hd:=⟨[],[Sz],.d,⟨[(19,F19.c),(20,F20.c),(25,F25.c)],gl,false⟩,[],f17⟩
noncomputable def F(x:Unit):=Rp
theorem rn x:H.u P_ x=F x:=by kernel_rfl
def c:Con:=⟨H.p,H.r,F⟩
theorem ok:ConOk P_ gl 17 c:=co H func17 (.cons F19.ok (.cons F20.ok (.cons F25.ok .nil))) rn
end F17
namespace F7
abbrev R_:=Bool
def H:Hd:=⟨[],[Sz],(.seq .d (.seq .d (.seq .d (.cut [1,2,3] [] .d .d)))),⟨[(11,F11.c.seal),(17,F17.c.seal),(19,F19.c.seal),(20,F20.c.seal),(25,F25.c.seal),(26,F26.c.seal),(27,F27.c.seal)],gl,false⟩,[],f7⟩
def x2(a:LB)(f:Bool):Option R_:=H.e P_ [r,r,r,r] ⟨[(1,.own 0),(2,.ptr 1 []),(3,vt f)],[Ab 5 a,.box 41 (.agg [vi 1,vi 8])],[]⟩
theorem e2:x2=Ml:=by kernel_rfl
noncomputable def F(x:Unit):=Ku
theorem rn x:H.u P_ x=F x:=Eq.trans (b:=Mk x2) (by kernel_rfl) (by simp only[e2]<;>rfl)
def c:Con:=⟨H.p,H.r,F⟩
theorem ok:ConOk P_ gl 7 c:=co H func7 (.cons F11.ok.seal (.cons F17.ok.seal (.cons F19.ok.seal (.cons F20.ok.seal (.cons F25.ok.seal (.cons F26.ok.seal (.cons F27.ok.seal .nil))))))) rn
end F7
end
end Go.Proofs.YtgomgobgfhhahaaGreatDoor
