/- A part of a proof (see the text that ends in Proof). No conditions. -/
import Derived.Test.YtidigmkmfmopgaaGreatDoorDgHA
set_option linter.unusedVariables false
set_option linter.unusedSimpArgs false
set_option maxRecDepth 10000
namespace Go.Proofs.YtidigmkmfmopgaaGreatDoor
open Go Go.Lv Go.Pl Go.Rx Go.Rx.PS
noncomputable section
def g0:List Value:=[.int .i64 2,.int .i64 2,.int .i64 2,.int .i64 4,.int .i64 4]
def g1:List Value:=[.bool true,.int .i64 0]
def g2:List Value:=[.bool false,.int .i64 0]
def g3:List Value:=[.int .u8 0,.int .u8 1,.int .u8 56,.int .u8 2,.int .u8 57,.int .u8 49,.int .u8 28,.int .u8 3,.int .u8 61,.int .u8 58,.int .u8 42,.int .u8 50,.int .u8 38,.int .u8 29,.int .u8 17,.int .u8 4,.int .u8 62,.int .u8 47,.int .u8 59,.int .u8 36,.int .u8 45,.int .u8 43,.int .u8 51,.int .u8 22,.int .u8 53,.int .u8 39,.int .u8 33,.int .u8 30,.int .u8 24,.int .u8 18,.int .u8 12,.int .u8 5,.int .u8 63,.int .u8 55,.int .u8 48,.int .u8 27,.int .u8 60,.int .u8 41,.int .u8 37,.int .u8 16,.int .u8 46,.int .u8 35,.int .u8 44,.int .u8 21,.int .u8 52,.int .u8 32,.int .u8 23,.int .u8 11,.int .u8 54,.int .u8 26,.int .u8 40,.int .u8 15,.int .u8 34,.int .u8 20,.int .u8 31,.int .u8 10,.int .u8 25,.int .u8 14,.int .u8 19,.int .u8 9,.int .u8 13,.int .u8 8,.int .u8 7,.int .u8 6]
def gl:List (Nat×List Value):=[(0,g0),(1,g1),(2,g2),(3,g3)]
theorem mixed:Tryz.prog.follows .mixedOrders=true:=by kernel_rfl
noncomputable abbrev P_:=Tryz.prog
theorem cr(H:Hd){f:Nat}{F:GU (Xi H.p)->Option (GU (Xi H.r))}(hf:P_.funcs[f]? =some H.f)(hT:MB P_ H.T)(hA:∀p∈H.s,Ent P_ p.1)(h:∀x,H.u P_ x=F x)(hb:okH H=true:=by kernel_rfl):ConOk P_ H.T.gl f ⟨H.p,H.r,F⟩:=Hd.con mixed H hf hT hA hb h
theorem co(H:Hd){f:Nat}{F:GU (Xi H.p)->Option (GU (Xi H.r))}(hf:P_.funcs[f]? =some H.f)(hT:MB P_ H.T)(h:∀x,H.u P_ x=F x)(hb:(H.s.isEmpty&&okH H)=true:=by kernel_rfl):ConOk P_ H.T.gl f ⟨H.p,H.r,F⟩:=Hd.Bd1 mixed H hf hT hb h
theorem ent43:Ent Tryz.prog 43:=Ent.mk Tryz.func43 (by kernel_rfl) rfl
theorem ent46:Ent Tryz.prog 46:=Ent.mk Tryz.func46 (by kernel_rfl) rfl
theorem ent51:Ent Tryz.prog 51:=Ent.mk Tryz.func51 (by kernel_rfl) rfl
theorem ent57:Ent Tryz.prog 57:=Ent.mk Tryz.func57 (by kernel_rfl) rfl
theorem ent60:Ent Tryz.prog 60:=Ent.mk Tryz.func60 (by kernel_rfl) rfl
theorem ent94:Ent Tryz.prog 94:=Ent.mk Tryz.func94 (by kernel_rfl) rfl
theorem ent103:Ent Tryz.prog 103:=Ent.mk Tryz.func103 (by kernel_rfl) rfl
theorem ent105:Ent Tryz.prog 105:=Ent.mk Tryz.func105 (by kernel_rfl) rfl
theorem ent108:Ent Tryz.prog 108:=Ent.mk Tryz.func108 (by kernel_rfl) rfl
theorem ent109:Ent Tryz.prog 109:=Ent.mk Tryz.func109 (by kernel_rfl) rfl
theorem ent110:Ent Tryz.prog 110:=Ent.mk Tryz.func110 (by kernel_rfl) rfl
theorem ent115:Ent Tryz.prog 115:=Ent.mk Tryz.func115 (by kernel_rfl) rfl
theorem ent128:Ent Tryz.prog 128:=Ent.mk Tryz.func128 (by kernel_rfl) rfl
theorem ent138:Ent Tryz.prog 138:=Ent.mk Tryz.func138 (by kernel_rfl) rfl
theorem ent166:Ent Tryz.prog 166:=Ent.mk Tryz.func166 (by kernel_rfl) rfl
theorem ent167:Ent Tryz.prog 167:=Ent.mk Tryz.func167 (by kernel_rfl) rfl
theorem ent168:Ent Tryz.prog 168:=Ent.mk Tryz.func168 (by kernel_rfl) rfl
theorem ent181:Ent Tryz.prog 181:=Ent.mk Tryz.func181 (by kernel_rfl) rfl
theorem ent182:Ent Tryz.prog 182:=Ent.mk Tryz.func182 (by kernel_rfl) rfl
theorem ent185:Ent Tryz.prog 185:=Ent.mk Tryz.func185 (by kernel_rfl) rfl
theorem ent191:Ent Tryz.prog 191:=Ent.mk Tryz.func191 (by kernel_rfl) rfl
theorem ent194:Ent Tryz.prog 194:=Ent.mk Tryz.func194 (by kernel_rfl) rfl
theorem ent196:Ent Tryz.prog 196:=Ent.mk Tryz.func196 (by kernel_rfl) rfl
theorem ent199:Ent Tryz.prog 199:=Ent.mk Tryz.func199 (by kernel_rfl) rfl
theorem ent202:Ent Tryz.prog 202:=Ent.mk Tryz.func202 (by kernel_rfl) rfl
theorem ent213:Ent Tryz.prog 213:=Ent.mk Tryz.func213 (by kernel_rfl) rfl
abbrev u2{A B R:Type}(f:A->B->R)(x:A×B):=f x.1 x.2
abbrev u3{A B C R:Type}(f:A->B->C->R):=u2 λa=>u2 (f a)
abbrev u4{A B C D R:Type}(f:A->B->C->D->R):=u2 λa=>u3 (f a)
abbrev u5{A B C D E R:Type}(f:A->B->C->D->E->R):=u2 λa=>u4 (f a)
abbrev u6{A B C D E F R:Type}(f:A->B->C->D->E->F->R):=u2 λa=>u5 (f a)
abbrev u7{A B C D E F G R:Type}(f:A->B->C->D->E->F->G->R):=u2 λa=>u6 (f a)
abbrev u8{A B C D E F G H R:Type}(f:A->B->C->D->E->F->G->H->R):=u2 λa=>u7 (f a)
abbrev u9{A B C D E F G H I R:Type}(f:A->B->C->D->E->F->G->H->I->R):=u2 λa=>u8 (f a)
abbrev u10{A B C D E F G H I J R:Type}(f:A->B->C->D->E->F->G->H->I->J->R):=u2 λa=>u9 (f a)
abbrev u11{A B C D E F G H I J K R:Type}(f:A->B->C->D->E->F->G->H->I->J->K->R):=u2 λa=>u10 (f a)
abbrev u12{A B C D E F G H I J K L R:Type}(f:A->B->C->D->E->F->G->H->I->J->K->L->R):=u2 λa=>u11 (f a)
abbrev u13{A B C D E F G H I J K L M R:Type}(f:A->B->C->D->E->F->G->H->I->J->K->L->M->R):=u2 λa=>u12 (f a)
open Go.Proofs.Tryz
namespace F88
def H:Hd:=⟨[.agg [Si,Si,Si,Sw]],[.agg [Si,Si]],.d,⟨[],gl,false⟩,[],f88⟩
def F:=u4 NL
theorem rn x:H.u P_ x=F x:=by kernel_rfl
def c:Con:=⟨H.p,H.r,F⟩
theorem ok:ConOk P_ gl 88 c:=co H func88 .nil rn
end F88
namespace F113
abbrev R_:=(Int32×Int32×Int)
def H:Hd:=⟨[Si],[Sx,Sx,Si],(.seq .d (.seq (.seq .d (.blk (.cut [0,7] [] .d .d))) .d)),⟨[],gl,false⟩,[],f113⟩
def x2(a:Int)(b:Bool):Option R_:=H.e P_ [r,l,r,d,r] ⟨[(0,vi a),(7,vt b)],[],[]⟩
theorem e2:x2=ZO:=by kernel_rfl
def F:=Wf
theorem rn x:H.u P_ x=F x:=Eq.trans (b:=XF x2 x) (by kernel_rfl) (by simp only[e2]<;>rfl)
def c:Con:=⟨H.p,H.r,F⟩
theorem ok:ConOk P_ gl 113 c:=co H func113 .nil rn
end F113
namespace F139
def H:Hd:=⟨[.agg [Si,Si]],[Si],.d,⟨[(113,F113.c)],gl,false⟩,[],f139⟩
def F:=u2 Ht
theorem rn x:H.u P_ x=F x:=by kernel_rfl
def c:Con:=⟨H.p,H.r,F⟩
theorem ok:ConOk P_ gl 139 c:=co H func139 (.cons F113.ok .nil) rn
end F139
namespace F118
def H:Hd:=⟨[Si],[Si,Si],.d,⟨[],gl,false⟩,[],f118⟩
def F:=Wr
theorem rn x:H.u P_ x=F x:=by kernel_rfl
def c:Con:=⟨H.p,H.r,F⟩
theorem ok:ConOk P_ gl 118 c:=co H func118 .nil rn
end F118
namespace F117
def H:Hd:=⟨[Si,Si],[Si,Si],.d,⟨[(118,F118.c)],gl,false⟩,[],f117⟩
def F:=u2 Jz
theorem rn x:H.u P_ x=F x:=by kernel_rfl
def c:Con:=⟨H.p,H.r,F⟩
theorem ok:ConOk P_ gl 117 c:=co H func117 (.cons F118.ok .nil) rn
end F117
namespace F121
def H:Hd:=⟨[.agg [Si,Si,Si,Sw],Si],[Si],.d,⟨[(88,F88.c),(117,F117.c),(139,F139.c)],gl,false⟩,[],f121⟩
def F:=u5 OS
theorem rn x:H.u P_ x=F x:=by kernel_rfl
def c:Con:=⟨H.p,H.r,F⟩
theorem ok:ConOk P_ gl 121 c:=co H func121 (.cons F88.ok (.cons F117.ok (.cons F139.ok .nil))) rn
end F121
namespace F63
abbrev R_:=Int
def H:Hd:=⟨[Si,Sw],[Si],(.seq .d (.seq .d (.seq .d (.seq .d (.cut [] [] (.seq .d (.blk (.loop [5,6,22,23,24] [] .d))) .d))))),⟨[(113,F113.c)],gl,false⟩,[],f63⟩
def t4(b f:Int32)(a:LX)(g:Int):S:=⟨[(5,vx b),(6,vx f),(22,vw a),(23,vi (Ac a)),(24,vi g)],[],[]⟩
def z4:Nat->S->Option R_:=H.i P_ [r,r,r,r,l,r,d]
def x6:Option R_:=H.e P_ [r,r,r,r,r] ⟨[],[],[]⟩
def x4(b f:Int32)(a:LX)(g:Int):Option R_:=H.e P_ [r,r,r,r,l,r,d] (t4 b f a g)
theorem e6:x6=oE:=by kernel_rfl
theorem i4(b f:Int32)(a:LX):∀(q:Nat) (g:Int),z4 q (t4 b f a g)=Vh b f a q g:=
 ind (λ_=>by kernel_rfl) λq ih g=>Eq.trans (b:=JD x6 (λg=>(z4 q) (t4 b f a g)) b f a g) (by kernel_rfl) (by simp only[e6,ih]<;>rfl)
theorem e4:x4=nD:=by funext b f a g;exact Eq.trans (by kernel_rfl) ((i4 b f a Dz g).trans (by rw[Bf];rfl))
def F:=u2 Zt
theorem rn x:H.u P_ x=F x:=Eq.trans (b:=u2 (ZM x4) x) (by kernel_rfl) (by simp only[e4]<;>rfl)
def c:Con:=⟨H.p,H.r,F⟩
theorem ok:ConOk P_ gl 63 c:=co H func63 (.cons F113.ok .nil) rn
end F63
namespace F84
def H:Hd:=⟨[.agg [Si,Si,Si,Sw]],[Si],.d,⟨[(63,F63.c),(121,F121.c)],gl,false⟩,[],f84⟩
def F:=u4 Fi
theorem rn x:H.u P_ x=F x:=by kernel_rfl
def c:Con:=⟨H.p,H.r,F⟩
theorem ok:ConOk P_ gl 84 c:=co H func84 (.cons F63.ok (.cons F121.ok .nil)) rn
end F84
namespace F38
def TV(j2:LB->Int->Int->Int->LX->Option (Int×Int×Int×Int×Int×Int))(a b f:Int)(g:LX)(h:LB):Option (Int×Int×Int×Int×Int×Int):=
(Fi a b f g).bind λk=>
if(Be k 0)then
some (0,0,0,0,0,k)
else
if(Ex (Ac h) 64)then
some (0,0,0,0,0,2)
else
(Md (Be a 0)).bind λ_=>
bo (
j2 h a b f g)
theorem uE: @TV= @HK:=by
  unfold TV HK;simp only[eY,NW,OM]
abbrev R_:=(Int×Int×Int×Int×Int×Int)
def H:Hd:=⟨[.agg [Si,Si,Si,Sw],Ss],[.agg [Si,Si,Si,Si,Si],Si],(.seq .d (.seq .d (.seq .d (.cut [1,4,7] [] .d .d)))),⟨[(84,F84.c)],gl,false⟩,[],f38⟩
def x2(h:LB)(a b f:Int)(g:LX):Option R_:=H.e P_ [r,r,r,r] ⟨[(1,vs h),(4,.ptr 0 []),(7,.ptr 1 [])],[.box 32 (.agg [vi 0,vi 0,vi 0,vi 0,vi 0]),.box 32 (.agg [vi 1,vi a,vi b,vi f,vi (Db (Ac g) a)])],[]⟩
theorem e2:x2=WQ:=by kernel_rfl
def F:=u5 cG
theorem rn x:H.u P_ x=F x:=Eq.trans (b:=u5 (TV x2) x) (by kernel_rfl) (by unfold F;rw[uE];simp only[e2]<;>rfl)
def c:Con:=⟨H.p,H.r,F⟩
theorem ok:ConOk P_ gl 38 c:=co H func38 (.cons F84.ok .nil) rn
end F38
namespace F154
abbrev R_:=(UInt64×Int)
abbrev K_:=S->Option R_
def H:Hd:=⟨[Sq,Sb],[Sq,Si],(.seq .d (.seq .d (.cut [4,5] [] (.keep [0,1,4,5,9,10,11,12] true) .d))),⟨[],gl,false⟩,[(181,(.seq .d (.cut [1] [] (.seq .d (.blk (.loop [0,1,9,10,11] [] .d))) .d))),(182,(.seq .d (.seq .d (.cut [1] [] (.seq .d (.blk (.loop [1,5] [] (.seq .d (.seq .d (.cut [1,5] [] (.blk (.seq .d (.seq .d (.cut [1,2,3,5] [] (.seq .d (.blk (.loop [1,2,3,5,11] [] .d))) .d)))) .d)))))) .d))))],f154⟩
def t27(a:LB)(b:UInt64)(f:LQ)(h:UInt64)(m:Int):S:=⟨[(0,.ptr 0 []),(1,vq h),(9,vb a),(10,vi (Ac a)),(11,vi m)],[.box 285 (.val (.vec 256 (.int .u64)) f)],[[(0,vq b),(1,vb a),(4,vq 0),(5,vi 0),(9,.ptr 0 []),(10,vq b),(11,vb a)]]⟩
def z27:Nat->S->Option R_:=H.i P_ [r,r,l,(call 3 181),r,l,r,d]
def t21(b:UInt64)(a:LB)(g:Int)(f:LQ)(k:UInt64)(n:Int):S:=⟨[(1,.ptr 0 []),(2,vi g),(3,vq k),(5,vi g),(11,vi n)],[.box 285 (.val (.vec 256 (.int .u64)) f)],[[(0,vq b),(1,vb a),(4,vq 0),(5,vi 0)]]⟩
def z21(Fk:K_):Nat->S->Option R_:=H.i P_ [r,r,l,(call 0 182),r,r,l,r,d,(lp Fk),r,r,l,d,r,r,l,r,d]
def t16(b:UInt64)(a:LB)(g:Int)(f:LQ):S:=⟨[(1,.ptr 0 []),(5,vi g)],[.box 285 (.val (.vec 256 (.int .u64)) f)],[[(0,vq b),(1,vb a),(4,vq 0),(5,vi 0)]]⟩
def z16:Nat->S->Option R_:=H.i P_ [r,r,l,(call 0 182),r,r,l,r,d]
def x30(h:UInt64):Option R_:=H.e P_ [r,r,r] ⟨[(4,vq h),(5,vi 0)],[],[]⟩
def x29(h b:UInt64)(a:LB)(f:LQ):Option R_:=H.e P_ [r,r,l,(call 3 181),r,r] ⟨[(1,vq h)],[.box 285 (.val (.vec 256 (.int .u64)) f)],[[(0,vq b),(1,vb a),(4,vq 0),(5,vi 0),(9,.ptr 0 []),(10,vq b),(11,vb a)]]⟩
def x27(a:LB)(b:UInt64)(f:LQ)(h:UInt64)(m:Int):Option R_:=H.e P_ [r,r,l,(call 3 181),r,l,r,d] (t27 a b f h m)
def x26(b:UInt64)(a:LB)(f:LQ):Option R_:=H.e P_ [r,r,l,(call 0 182),r,r,r] ⟨[(1,.ptr 0 [])],[.box 285 (.val (.vec 256 (.int .u64)) f)],[[(0,vq b),(1,vb a),(4,vq 0),(5,vi 0)]]⟩
def x24(Fk:K_)(b:UInt64)(a:LB)(g:Int)(o:LQ):Option R_:=H.e P_ [r,r,l,(call 0 182),r,r,l,r,d,(lp Fk),r,r,r] ⟨[(1,.ptr 0 []),(5,vi g)],[.box 285 (.val (.vec 256 (.int .u64)) o)],[[(0,vq b),(1,vb a),(4,vq 0),(5,vi 0)]]⟩
def x23(Fk:K_)(b:UInt64)(a:LB)(g:Int)(k:UInt64)(f:LQ):Option R_:=H.e P_ [r,r,l,(call 0 182),r,r,l,r,d,(lp Fk),r,r,l,d,r,r,r] ⟨[(1,.ptr 0 []),(2,vi g),(3,vq k),(5,vi g)],[.box 285 (.val (.vec 256 (.int .u64)) f)],[[(0,vq b),(1,vb a),(4,vq 0),(5,vi 0)]]⟩
def x21(Fk:K_)(b:UInt64)(a:LB)(g:Int)(f:LQ)(k:UInt64)(n:Int):Option R_:=H.e P_ [r,r,l,(call 0 182),r,r,l,r,d,(lp Fk),r,r,l,d,r,r,l,r,d] (t21 b a g f k n)
def x16(b:UInt64)(a:LB)(g:Int)(f:LQ):Option R_:=H.e P_ [r,r,l,(call 0 182),r,r,l,r,d] (t16 b a g f)
theorem e30:x30=YZ:=by kernel_rfl
theorem e29:x29=WK:=Eq.trans (b:=YS x30) (by kernel_rfl) (by simp only[e30]<;>rfl)
theorem i27(a:LB)(b:UInt64)(f:LQ):∀(q:Nat) (h:UInt64) (m:Int),z27 q (t27 a b f h m)=Vf a b f q h m:=
 ind (λ_ _=>by kernel_rfl) λq ih h m=>Eq.trans (b:=GX x29 (λh m=>(z27 q) (t27 a b f h m)) a b f h m) (by kernel_rfl) (by simp only[e29,ih]<;>rfl)
theorem e27:x27=aG:=by funext a b f h m;exact Eq.trans (by kernel_rfl) ((i27 a b f Dz h m).trans (by rw[Bf];rfl))
theorem e26:x26=KO:=Eq.trans (b:=XM x27) (by kernel_rfl) (by simp only[e27]<;>rfl)
theorem e24(Fk:K_)(b:UInt64)(a:LB):x24 Fk b a=WV (λg f=>Fk (t16 b a g f)) b a:=by kernel_rfl
theorem e23(Fk:K_)(b:UInt64)(a:LB):x23 Fk b a=JM (λg f=>Fk (t16 b a g f)) b a:=Eq.trans (b:=YJ (x24 Fk b a) b a) (by kernel_rfl) (by simp only[e24]<;>rfl)
theorem i21(Fk:K_)(b:UInt64)(a:LB)(g:Int)(f:LQ):∀(q:Nat) (k:UInt64) (n:Int),z21 Fk q (t21 b a g f k n)=Uy (λg f=>Fk (t16 b a g f)) b a g f q k n:=
 ind (λ_ _=>by kernel_rfl) λq ih k n=>Eq.trans (b:=LA (x23 Fk b a) (λk n=>(z21 Fk q) (t21 b a g f k n)) b a g f k n) (by kernel_rfl) (by simp only[e23,ih]<;>rfl)
theorem e21(Fk:K_)(b:UInt64)(a:LB):x21 Fk b a=XI (λg f=>Fk (t16 b a g f)) b a:=by funext g f k n;exact Eq.trans (by kernel_rfl) ((i21 Fk b a g f Dz k n).trans (by rw[Bf];rfl))
theorem i16(b:UInt64)(a:LB):∀(q:Nat) (g:Int) (f:LQ),z16 q (t16 b a g f)=Qq b a q g f:=
 ind (λ_ _=>by kernel_rfl) λq ih g f=>Eq.trans (b:=HE (x21 (z16 q) b a) x26 b a g f) (by kernel_rfl) (by simp only[e21,e26,ih]<;>rfl)
theorem e16:x16=ZJ:=by funext b a g f;exact Eq.trans (by kernel_rfl) ((i16 b a Dz g f).trans (by rw[Bf];rfl))
def F:=u2 iE
theorem rn x:H.u P_ x=F x:=Eq.trans (b:=u2 (dE x16) x) (by kernel_rfl) (by simp only[e16]<;>rfl)
def c:Con:=⟨H.p,H.r,F⟩
theorem ok:ConOk P_ gl 154 c:=cr H func154 .nil (Eg.cons ent181 (Eg.cons ent182 Eg.nil)) rn
end F154
namespace F122
def H:Hd:=⟨[Sb],[Sq,Si],.d,⟨[(154,F154.c)],gl,false⟩,[],f122⟩
def F:=fY
theorem rn x:H.u P_ x=F x:=by kernel_rfl
def c:Con:=⟨H.p,H.r,F⟩
theorem ok:ConOk P_ gl 122 c:=co H func122 (.cons F154.ok .nil) rn
end F122
namespace F123
abbrev R_:=LX
def H:Hd:=⟨[Sq],[.lf (.vec 16 (.int .i32)) none],(.seq .d (.seq .d (.cut [2,3] [] (.seq .d (.blk (.loop [0,2,3,5] [] .d))) .d))),⟨[],gl,false⟩,[],f123⟩
def t4(f:UInt64)(b:Int)(a:LX):S:=⟨[(0,vq f),(2,.ptr 0 []),(3,.ptr 1 []),(5,vi b)],[.box 136 (.val (.vec 16 (.int .i32)) (List.replicate 16 (0:Int32))),.box 136 (.val (.vec 16 (.int .i32)) a)],[]⟩
def z4:Nat->S->Option R_:=H.i P_ [r,r,l,r,d]
def x6(a:LX):Option R_:=H.e P_ [r,r,r] ⟨[(2,.ptr 0 []),(3,.ptr 1 [])],[.box 136 (.val (.vec 16 (.int .i32)) (List.replicate 16 (0:Int32))),.box 136 (.val (.vec 16 (.int .i32)) a)],[]⟩
def x4(f:UInt64)(b:Int)(a:LX):Option R_:=H.e P_ [r,r,l,r,d] (t4 f b a)
theorem e6:x6=jr:=by kernel_rfl
theorem i4(f:UInt64):∀(q:Nat) (b:Int) (a:LX),z4 q (t4 f b a)=OA f q b a:=
 ind (λ_ _=>by kernel_rfl) λq ih b a=>Eq.trans (b:=kJ x6 (λb a=>(z4 q) (t4 f b a)) f b a) (by kernel_rfl) (by simp only[e6,ih]<;>rfl)
theorem e4:x4=U1:=by funext f b a;exact Eq.trans (by kernel_rfl) ((i4 f Dz b a).trans (by rw[Bf];rfl))
def F:=Abg
theorem rn x:H.u P_ x=F x:=Eq.trans (b:=S1 x4 x) (by kernel_rfl) (by simp only[e4]<;>rfl)
def c:Con:=⟨H.p,H.r,F⟩
theorem ok:ConOk P_ gl 123 c:=co H func123 .nil rn
end F123
namespace F85
def H:Hd:=⟨[Ss],[.lf (.vec 16 (.int .i32)) none,Si],.d,⟨[(122,F122.c),(123,F123.c)],gl,false⟩,[],f85⟩
def F:=Qe
theorem rn x:H.u P_ x=F x:=by kernel_rfl
def c:Con:=⟨H.p,H.r,F⟩
theorem ok:ConOk P_ gl 85 c:=co H func85 (.cons F122.ok (.cons F123.ok .nil)) rn
end F85
namespace F198
def H:Hd:=⟨[Sq,Sq],[Sq,Sq],.d,⟨[],gl,false⟩,[],f198⟩
def F:=u2 TS
theorem rn x:H.u P_ x=F x:=by kernel_rfl
def c:Con:=⟨H.p,H.r,F⟩
theorem ok:ConOk P_ gl 198 c:=co H func198 .nil rn
end F198
namespace F171
def H:Hd:=⟨[Sq,Sq],[Sq,Sq],.d,⟨[(198,F198.c)],gl,false⟩,[],f171⟩
def F:=u2 OW
theorem rn x:H.u P_ x=F x:=by kernel_rfl
def c:Con:=⟨H.p,H.r,F⟩
theorem ok:ConOk P_ gl 171 c:=co H func171 (.cons F198.ok .nil) rn
end F171
namespace F136
def Rw(j10:LI->Option (LI))(bk8:Int->LI->Option (LI))(b:Int)(a:LI):Option (LI):=
if(Cj b (Ac a))then
both (
(kW (Ac a) b (Ac a)).bind λ_=>
(kW (Ac a) 0 b).bind λ_=>
bk8 (Ad b (XU ((Ac a)-b) (aL a 0 (b-(0:Int))).length)) (Yl a b ((Ac a)-b) (aL a 0 (b-(0:Int))))) [
(kW (Ac a) 0 b).bind λ_=>
(kW (Ac a) b (Ac a)).bind λ_=>
bk8 (Ad b (XU ((Ac a)-b) (aL a 0 (b-(0:Int))).length)) (Yl a b ((Ac a)-b) (aL a 0 (b-(0:Int))))]
else
j10 a
theorem TD: @Rw= @Iw:=by
  unfold Rw Iw
  repeat (refine funext λ_=>?_)
  repeat' first
    |with_reducible rfl
    |with_reducible refine Oo ?_ ?_
    |with_reducible refine Oi ?_ ?_ ?_
    |with_reducible refine Og ?_ ?_ ?_ ?_
    |((with_reducible refine Uf ?_ ?_);focus (intro h;first|(subst h;rfl)|(simp only[h];rfl)|(simp[Et,Ac,h];done)))
    |with_reducible refine Uh λx=>?_
    |with_reducible refine CR (λ_=>?_) (λ_=>?_)
    |(refine Ij (λh=>by simp only[h,Ub,Fm,Fa,ite_self]) (λx h=>?_);(try simp only[h,Fm]))
    |(refine Lf (λh=>?_) (λh=>?_)<;>simp only[h,if_true,if_false,Bool.false_eq_true])
abbrev R_:=LI
def H:Hd:=⟨[Sl,Si],[Ol 3],(.seq .d (.cut [0,1] [] .d (.seq .d (.cut [0,6] [] .d (.seq .d (.seq .d (.cut [7] [] (.blk (.loop [7,8] [] (.seq .d (.blk (.mode false))))) .d))))))),⟨[(171,F171.c)],gl,true⟩,[],f136⟩
def t8(b:Int)(a:LI):S:=⟨[(7,.own 0),(8,vi b)],[Ai 3 a],[]⟩
def z8:Nat->S->Option R_:=H.i P_ [r,r,r,r,r,r,l,d]
def x10(a:LI):Option R_:=H.e P_ [r,r,r,r,r,r,r] ⟨[(7,.own 0)],[Ai 3 a],[]⟩
def x8(b:Int)(a:LI):Option R_:=H.e P_ [r,r,r,r,r,r,l,d] (t8 b a)
def x7(f:LI)(g:UInt64):Option R_:=H.e P_ [r,r,r,r] ⟨[(0,vl f),(6,vq g)],[],[]⟩
def x6(f:LI)(h:Int):Option R_:=H.e P_ [r,r] ⟨[(0,vl f),(1,vi h)],[],[]⟩
theorem e10:x10=Lm:=by kernel_rfl
theorem i8:∀(q:Nat) (b:Int) (a:LI),z8 q (t8 b a)=Gf q b a:=
 ind (λ_ _=>by kernel_rfl) λq ih b a=>Eq.trans (b:=Rw x10 (λb a=>(z8 q) (t8 b a)) b a) (by kernel_rfl) (by rw[TD];simp only[e10,ih]<;>rfl)
theorem e8:x8=Tm:=by funext b a;exact Eq.trans (by kernel_rfl) ((i8 Dz b a).trans (by rw[Bf];rfl))
theorem e7:x7=Tl:=Eq.trans (b:=Ty x8) (by kernel_rfl) (by simp only[e8]<;>rfl)
theorem e6:x6=Tq:=Eq.trans (b:=Tx x7) (by kernel_rfl) (by simp only[e7]<;>rfl)
def F:=u2 Rj
theorem rn x:H.u P_ x=F x:=Eq.trans (b:=u2 (Tw x6) x) (by kernel_rfl) (by simp only[e6]<;>rfl)
def c:Con:=⟨H.p,H.r,F⟩
theorem ok:ConOk P_ gl 136 c:=co H func136 (.cons F171.ok .nil) rn
end F136
namespace F172
abbrev R_:=LI
def H:Hd:=⟨[.lf (.list (.list (.int .i64))) none],[Ol 3],(.seq .d (.seq .d (.cut [0,3] [] (.seq .d (.blk (.loop [0,3,9,10,11] [] .d))) (.cut [0,6] [⟨6,[],.own 3 (.int .i64)⟩] (.keep [0,3,6,23,24] true) (.cut [6] [] (.seq .d (.blk (.loop [6,25,26,27] [] .d))) .d))))),⟨[],gl,true⟩,[(199,(.seq .d (.cut [0,1] [] .d .d)))],f172⟩
def t14(a:List LI)(g:Int)(f:LI):S:=⟨[(6,.own 0),(25,.val (.list (.list (.int .i64))) a),(26,vi (Ac a)),(27,vi g)],[Ai 3 f],[]⟩
def z14:Nat->S->Option R_:=H.i P_ [r,r,r,r,l,r,d]
def t9(a:List LI)(b h:Int):S:=⟨[(0,.val (.list (.list (.int .i64))) a),(3,vi b),(9,.val (.list (.list (.int .i64))) a),(10,vi (Ac a)),(11,vi h)],[],[]⟩
def z9:Nat->S->Option R_:=H.i P_ [r,r,l,r,d]
def x16(f:LI):Option R_:=H.e P_ [r,r,r,r,r] ⟨[(6,.own 0)],[Ai 3 f],[]⟩
def x14(a:List LI)(g:Int)(f:LI):Option R_:=H.e P_ [r,r,r,r,l,r,d] (t14 a g f)
def x13(a:List LI)(k:LI):Option R_:=H.e P_ [r,r,r,r] ⟨[(0,.val (.list (.list (.int .i64))) a),(6,.own 0)],[Ai 3 k],[]⟩
def x12(b:Int)(a:List LI):Option R_:=H.e P_ [r,r,r,l,(call 1 199),r,r] ⟨[(0,.nils),(1,vi b)],[],[[(0,.val (.list (.list (.int .i64))) a),(3,vi b),(23,vi b)]]⟩
def x11(a:List LI)(b:Int):Option R_:=H.e P_ [r,r,r] ⟨[(0,.val (.list (.list (.int .i64))) a),(3,vi b)],[],[]⟩
def x9(a:List LI)(b h:Int):Option R_:=H.e P_ [r,r,l,r,d] (t9 a b h)
theorem e16:x16=BZ:=by kernel_rfl
theorem i14(a:List LI):∀(q:Nat) (g:Int) (f:LI),z14 q (t14 a g f)=Fs a q g f:=
 ind (λ_ _=>by kernel_rfl) λq ih g f=>Eq.trans (b:=Ie x16 (λg f=>(z14 q) (t14 a g f)) a g f) (by kernel_rfl) (by simp only[e16,ih]<;>rfl)
theorem e14:x14=Rq:=by funext a g f;exact Eq.trans (by kernel_rfl) ((i14 a Dz g f).trans (by rw[Bf];rfl))
theorem e13:x13=Lo:=Eq.trans (b:=Sf x14) (by kernel_rfl) (by simp only[e14]<;>rfl)
theorem e12:x12=Rz:=Eq.trans (b:=Rt x13) (by kernel_rfl) (by simp only[e13]<;>rfl)
theorem e11:x11=Sd:=Eq.trans (b:=Se x12) (by kernel_rfl) (by simp only[e12]<;>rfl)
theorem i9(a:List LI):∀(q:Nat) (b h:Int),z9 q (t9 a b h)=Ge a q b h:=
 ind (λ_ _=>by kernel_rfl) λq ih b h=>Eq.trans (b:=Iy x11 (λb h=>(z9 q) (t9 a b h)) a b h) (by kernel_rfl) (by simp only[e11,ih]<;>rfl)
theorem e9:x9=Tu:=by funext a b h;exact Eq.trans (by kernel_rfl) ((i9 a Dz b h).trans (by rw[Bf];rfl))
def F:=Rl
theorem rn x:H.u P_ x=F x:=Eq.trans (b:=Tn x9 x) (by kernel_rfl) (by simp only[e9]<;>rfl)
def c:Con:=⟨H.p,H.r,F⟩
theorem ok:ConOk P_ gl 172 c:=cr H func172 .nil (Eg.cons ent199 Eg.nil) rn
end F172
namespace F137
def H:Hd:=⟨[Sl,Sl],[Ol 3],.d,⟨[(172,F172.c)],gl,false⟩,[],f137⟩
def F:=u2 YP
theorem rn x:H.u P_ x=F x:=by kernel_rfl
def c:Con:=⟨H.p,H.r,F⟩
theorem ok:ConOk P_ gl 137 c:=co H func137 (.cons F172.ok .nil) rn
end F137
namespace F101
def H:Hd:=⟨[Si,Si],[Ol 3,Si],.d,⟨[(117,F117.c),(118,F118.c),(136,F136.c),(137,F137.c)],gl,false⟩,[],f101⟩
def F:=u2 AT
theorem rn x:H.u P_ x=F x:=by kernel_rfl
def c:Con:=⟨H.p,H.r,F⟩
theorem ok:ConOk P_ gl 101 c:=co H func101 (.cons F117.ok (.cons F118.ok (.cons F136.ok (.cons F137.ok .nil)))) rn
end F101
namespace F155
def H:Hd:=⟨[.agg [Si,Si],Sw],[Si],.d,⟨[(63,F63.c),(139,F139.c)],gl,false⟩,[],f155⟩
def F:=u3 PG
theorem rn x:H.u P_ x=F x:=by kernel_rfl
def c:Con:=⟨H.p,H.r,F⟩
theorem ok:ConOk P_ gl 155 c:=co H func155 (.cons F63.ok (.cons F139.ok .nil)) rn
end F155
namespace F183
def H:Hd:=⟨[Si,Sw],[Si],.d,⟨[],gl,false⟩,[],f183⟩
def F:=u2 gQ
theorem rn x:H.u P_ x=F x:=by kernel_rfl
def c:Con:=⟨H.p,H.r,F⟩
theorem ok:ConOk P_ gl 183 c:=co H func183 .nil rn
end F183
namespace F184
def Oe(a:LX):Option (LX):=
U5 a (
some ([]:LX)) (
(Et ([]:LX) a).bind λb=>
some b)
theorem LR: @Oe= @En:=by
  unfold Oe En
  repeat (refine funext λ_=>?_)
  repeat' first
    |with_reducible rfl
    |with_reducible refine Oo ?_ ?_
    |with_reducible refine Oi ?_ ?_ ?_
    |with_reducible refine Og ?_ ?_ ?_ ?_
    |((with_reducible refine Uf ?_ ?_);focus (intro h;first|(subst h;rfl)|(simp only[h];rfl)|(simp[Et,Ac,h];done)))
    |with_reducible refine Uh λx=>?_
    |with_reducible refine CR (λ_=>?_) (λ_=>?_)
    |(refine Ij (λh=>by simp only[h,Ub,Fm,Fa,ite_self]) (λx h=>?_);(try simp only[h,Fm]))
    |(refine Lf (λh=>?_) (λh=>?_)<;>simp only[h,if_true,if_false,Bool.false_eq_true])
def H:Hd:=⟨[Sw],[Ow 21],.d,⟨[],gl,false⟩,[],f184⟩
def F:=En
theorem rn x:H.u P_ x=F x:=Eq.trans (b:=Oe x) (by kernel_rfl) (by rw[LR];rfl)
def c:Con:=⟨H.p,H.r,F⟩
theorem ok:ConOk P_ gl 184 c:=co H func184 .nil rn
end F184
namespace F156
abbrev R_:=(LX×Int)
abbrev K_:=S->Option R_
def H:Hd:=⟨[Si,Sw],[Ow 21,Si],(.seq .d (.seq .d (.seq .d (.cut [7] [] (.seq .d (.blk (.loop [0,7,8] [] (.seq .d (.cut [0,7,8] [] (.blk (.keep [0,7,8,24,25,26,27,28,29] true)) .d))))) .d)))),⟨[(183,F183.c),(184,F184.c)],gl,true⟩,[(185,(.seq .d (.cut [0,2] [] (.seq .d (.blk (.loop [0,2,7,8] [] .d))) .d)))],f156⟩
def t17(b a h:Int)(g:LX):S:=⟨[(0,.view true 0 [] (.int .i32) a ((Ad a b)-a)),(2,vi (Ap ((Ad a b)-a) (1:Int))),(7,vi (Ap ((Ad a b)-a) (1:Int))),(8,vi h)],[Aw 21 g],[[(0,vi b),(7,.own 0),(8,vi a),(24,.own 0),(25,vi a),(26,vi a),(27,vi b),(28,vi (Ad a b)),(29,.view true 0 [] (.int .i32) a ((Ad a b)-a))]]⟩
def z17(Rb:K_):Nat->S->Option R_:=H.i P_ [r,r,r,l,r,d,(lp Rb),r,l,d,(call 6 185),r,l,r,d]
def t12(b a:Int)(f:LX):S:=⟨[(0,vi b),(7,.own 0),(8,vi a)],[Aw 21 f],[]⟩
def z12:Nat->S->Option R_:=H.i P_ [r,r,r,l,r,d]
def x22(f:LX):Option R_:=H.e P_ [r,r,r,r] ⟨[(7,.own 0)],[Aw 21 f],[]⟩
def x20(Rb:K_)(b a:Int)(k:LX):Option R_:=H.e P_ [r,r,r,l,r,d,(lp Rb),r,r] ⟨[(0,vi b),(7,.own 0),(8,vi a)],[Aw 21 k],[]⟩
def x19(Rb:K_)(b a:Int)(g:LX):Option R_:=H.e P_ [r,r,r,l,r,d,(lp Rb),r,l,d,(call 6 185),r,r] ⟨[(0,.view true 0 [] (.int .i32) a ((Ad a b)-a)),(2,vi (Ap ((Ad a b)-a) (1:Int)))],[Aw 21 g],[[(0,vi b),(7,.own 0),(8,vi a),(24,.own 0),(25,vi a),(26,vi a),(27,vi b),(28,vi (Ad a b)),(29,.view true 0 [] (.int .i32) a ((Ad a b)-a))]]⟩
def x17(Rb:K_)(b a h:Int)(g:LX):Option R_:=H.e P_ [r,r,r,l,r,d,(lp Rb),r,l,d,(call 6 185),r,l,r,d] (t17 b a h g)
def x12(b a:Int)(f:LX):Option R_:=H.e P_ [r,r,r,l,r,d] (t12 b a f)
theorem e22:x22=H8:=by kernel_rfl
theorem e20(Rb:K_)(b:Int):x20 Rb b=bH (λa f=>Rb (t12 b a f)) b:=by kernel_rfl
theorem e19(Rb:K_)(b:Int):x19 Rb b=nY (λa f=>Rb (t12 b a f)) b:=Eq.trans (b:=qI (x20 Rb b) b) (by kernel_rfl) (by simp only[e20]<;>rfl)
theorem i17(Rb:K_)(b a:Int):∀(q:Nat) (h:Int) (g:LX),z17 Rb q (t17 b a h g)=FM (λa f=>Rb (t12 b a f)) b a q h g:=
 ind (λ_ _=>by kernel_rfl) λq ih h g=>Eq.trans (b:=aN (x19 Rb b) (λh g=>(z17 Rb q) (t17 b a h g)) b a h g) (by kernel_rfl) (by simp only[e19,ih]<;>rfl)
theorem e17(Rb:K_)(b:Int):x17 Rb b=G8 (λa f=>Rb (t12 b a f)) b:=by funext a h g;exact Eq.trans (by kernel_rfl) ((i17 Rb b a Dz h g).trans (by rw[Bf];rfl))
theorem i12(b:Int):∀(q:Nat) (a:Int) (f:LX),z12 q (t12 b a f)=FV b q a f:=
 ind (λ_ _=>by kernel_rfl) λq ih a f=>Eq.trans (b:=pK (x17 (z12 q) b) x22 b a f) (by kernel_rfl) (by simp only[e17,e22,ih]<;>rfl)
theorem e12:x12=qQ:=by funext b a f;exact Eq.trans (by kernel_rfl) ((i12 b Dz a f).trans (by rw[Bf];rfl))
def F:=u2 M3
theorem rn x:H.u P_ x=F x:=Eq.trans (b:=u2 (vK x12) x) (by kernel_rfl) (by simp only[e12]<;>rfl)
def c:Con:=⟨H.p,H.r,F⟩
theorem ok:ConOk P_ gl 156 c:=cr H func156 (.cons F183.ok (.cons F184.ok .nil)) (Eg.cons ent185 Eg.nil) rn
end F156
namespace F186
abbrev R_:=(Int×LX×LX×Int)
def H:Hd:=⟨[Si,.lf (.vec 16 (.int .i32)) none],[.agg [Si,.lf (.vec 16 (.int .i32)) none,.lf (.vec 16 (.int .i32)) none],Si],(.seq .d (.seq .d (.seq (.seq .d (.blk (.cut [4,6,9,11] [] .d .d))) .d))),⟨[],gl,false⟩,[],f186⟩
def x2(a:Int)(b:LX)(f:Bool):Option R_:=H.e P_ [r,r,l,r,d,r] ⟨[(4,.ptr 0 []),(6,.ptr 1 []),(9,vi a),(11,vt f)],[.box 222 (.agg [vi 0,.val (.vec 16 (.int .i32)) (List.replicate 16 (0:Int32)),.val (.vec 16 (.int .i32)) (List.replicate 16 (0:Int32))]),.box 222 (.agg [vi 10,.val (.vec 16 (.int .i32)) b,.val (.vec 16 (.int .i32)) (List.replicate 16 (0:Int32))])],[]⟩
theorem e2:x2=G3:=by kernel_rfl
def F:=u2 xI
theorem rn x:H.u P_ x=F x:=Eq.trans (b:=u2 (J8 x2) x) (by kernel_rfl) (by simp only[e2]<;>rfl)
def c:Con:=⟨H.p,H.r,F⟩
theorem ok:ConOk P_ gl 186 c:=co H func186 .nil rn
end F186
namespace F157
def H:Hd:=⟨[Si,.lf (.vec 16 (.int .i32)) none],[.agg [Si,Sx,.agg [Si,.lf (.vec 16 (.int .i32)) none,.lf (.vec 16 (.int .i32)) none]],Si],.d,⟨[(186,F186.c)],gl,false⟩,[],f157⟩
def F:=u2 B6
theorem rn x:H.u P_ x=F x:=by kernel_rfl
def c:Con:=⟨H.p,H.r,F⟩
theorem ok:ConOk P_ gl 157 c:=co H func157 (.cons F186.ok .nil) rn
end F157
namespace F187
def H:Hd:=⟨[.agg [Si,Sx,.agg [Si,.lf (.vec 16 (.int .i32)) none,.lf (.vec 16 (.int .i32)) none]]],[Si],.d,⟨[(186,F186.c)],gl,false⟩,[],f187⟩
def F:=u5 AE
theorem rn x:H.u P_ x=F x:=by kernel_rfl
def c:Con:=⟨H.p,H.r,F⟩
theorem ok:ConOk P_ gl 187 c:=co H func187 (.cons F186.ok .nil) rn
end F187
namespace F204
def H:Hd:=⟨[Si],[Si,Si],.d,⟨[],gl,false⟩,[],f204⟩
def F:=oD
theorem rn x:H.u P_ x=F x:=by kernel_rfl
def c:Con:=⟨H.p,H.r,F⟩
theorem ok:ConOk P_ gl 204 c:=co H func204 .nil rn
end F204
namespace F205
def H:Hd:=⟨[Si,Sx],[Sx],.d,⟨[],gl,false⟩,[],f205⟩
def F:=u2 aV
theorem rn x:H.u P_ x=F x:=by kernel_rfl
def c:Con:=⟨H.p,H.r,F⟩
theorem ok:ConOk P_ gl 205 c:=co H func205 .nil rn
end F205
namespace F188
def H:Hd:=⟨[Si,Sx],[Sx,Si],.d,⟨[(204,F204.c),(205,F205.c)],gl,false⟩,[],f188⟩
def F:=u2 AD
theorem rn x:H.u P_ x=F x:=by kernel_rfl
def c:Con:=⟨H.p,H.r,F⟩
theorem ok:ConOk P_ gl 188 c:=co H func188 (.cons F204.ok (.cons F205.ok .nil)) rn
end F188
namespace F210
def H:Hd:=⟨[.agg [Si,.lf (.vec 16 (.int .i32)) none,.lf (.vec 16 (.int .i32)) none]],[Si],.d,⟨[],gl,false⟩,[],f210⟩
def F:=u3 OE
theorem rn x:H.u P_ x=F x:=by kernel_rfl
def c:Con:=⟨H.p,H.r,F⟩
theorem ok:ConOk P_ gl 210 c:=co H func210 .nil rn
end F210
namespace F206
abbrev R_:=(Int32×Int)
def H:Hd:=⟨[.agg [Si,.lf (.vec 16 (.int .i32)) none,.lf (.vec 16 (.int .i32)) none]],[Sx,Si],(.seq .d (.seq .d (.seq .d (.cut [1,5] [] (.seq .d (.blk (.loop [1,5,18,19] [] .d))) .d)))),⟨[(210,F210.c)],gl,false⟩,[],f206⟩
def t4(b:LX)(a:Int)(f:LX)(g:Int32)(h:Int):S:=⟨[(1,.ptr 0 []),(5,vx g),(18,.val (.vec 16 (.int .i32)) b),(19,vi h)],[.box 222 (.agg [vi a,.val (.vec 16 (.int .i32)) b,.val (.vec 16 (.int .i32)) f])],[]⟩
def z4:Nat->S->Option R_:=H.i P_ [r,r,r,l,r,d]
def x6(g:Int32)(a:Int)(b f:LX):Option R_:=H.e P_ [r,r,r,r] ⟨[(1,.ptr 0 []),(5,vx g)],[.box 222 (.agg [vi a,.val (.vec 16 (.int .i32)) b,.val (.vec 16 (.int .i32)) f])],[]⟩
def x4(b:LX)(a:Int)(f:LX)(g:Int32)(h:Int):Option R_:=H.e P_ [r,r,r,l,r,d] (t4 b a f g h)
theorem e6:x6=dG:=by kernel_rfl
theorem i4(b:LX)(a:Int)(f:LX):∀(q:Nat) (g:Int32) (h:Int),z4 q (t4 b a f g h)=Xu b a f q g h:=
 ind (λ_ _=>by kernel_rfl) λq ih g h=>Eq.trans (b:=PC x6 (λg h=>(z4 q) (t4 b a f g h)) b a f g h) (by kernel_rfl) (by simp only[e6,ih]<;>rfl)
theorem e4:x4=cU:=by funext b a f g h;exact Eq.trans (by kernel_rfl) ((i4 b a f Dz g h).trans (by rw[Bf];rfl))
def F:=u3 WH
theorem rn x:H.u P_ x=F x:=Eq.trans (b:=u3 (dF x4) x) (by kernel_rfl) (by simp only[e4]<;>rfl)
def c:Con:=⟨H.p,H.r,F⟩
theorem ok:ConOk P_ gl 206 c:=co H func206 (.cons F210.ok .nil) rn
end F206
namespace F215
def H:Hd:=⟨[Si],[Sx],.d,⟨[],gl,false⟩,[],f215⟩
def F:=eX
theorem rn x:H.u P_ x=F x:=by kernel_rfl
def c:Con:=⟨H.p,H.r,F⟩
theorem ok:ConOk P_ gl 215 c:=co H func215 .nil rn
end F215
namespace F211
abbrev R_:=(Int×LX×LX×Int)
def H:Hd:=⟨[.agg [Si,.lf (.vec 16 (.int .i32)) none,.lf (.vec 16 (.int .i32)) none],Sx],[.agg [Si,.lf (.vec 16 (.int .i32)) none,.lf (.vec 16 (.int .i32)) none],Si],(.seq .d (.seq .d (.seq .d (.cut [2,4] [] (.seq .d (.blk (.loop [1,2,4,19,20] [] .d))) .d)))),⟨[(210,F210.c),(215,F215.c)],gl,false⟩,[],f211⟩
def t4(h:Int32)(f:LX)(g a:Int)(b:LX):S:=⟨[(1,vx h),(2,.ptr 0 []),(4,.ptr 1 []),(19,.val (.vec 16 (.int .i32)) f),(20,vi a)],[.box 222 (.agg [vi g,.val (.vec 16 (.int .i32)) b,.val (.vec 16 (.int .i32)) f]),.box 222 (.agg [vi 0,.val (.vec 16 (.int .i32)) (List.replicate 16 (0:Int32)),.val (.vec 16 (.int .i32)) (List.replicate 16 (0:Int32))])],[]⟩
def z4:Nat->S->Option R_:=H.i P_ [r,r,r,l,r,d]
def x6(g:Int)(b f:LX):Option R_:=H.e P_ [r,r,r,r] ⟨[(2,.ptr 0 []),(4,.ptr 1 [])],[.box 222 (.agg [vi g,.val (.vec 16 (.int .i32)) b,.val (.vec 16 (.int .i32)) f]),.box 222 (.agg [vi 0,.val (.vec 16 (.int .i32)) (List.replicate 16 (0:Int32)),.val (.vec 16 (.int .i32)) (List.replicate 16 (0:Int32))])],[]⟩
def x4(h:Int32)(f:LX)(g a:Int)(b:LX):Option R_:=H.e P_ [r,r,r,l,r,d] (t4 h f g a b)
theorem e6:x6=tE:=by kernel_rfl
theorem i4(h:Int32)(f:LX)(g:Int):∀(q:Nat) (a:Int) (b:LX),z4 q (t4 h f g a b)=Xw h f g q a b:=
 ind (λ_ _=>by kernel_rfl) λq ih a b=>Eq.trans (b:=PL x6 (λa b=>(z4 q) (t4 h f g a b)) h f g a b) (by kernel_rfl) (by simp only[e6,ih]<;>rfl)
theorem e4:x4=sT:=by funext h f g a b;exact Eq.trans (by kernel_rfl) ((i4 h f g Dz a b).trans (by rw[Bf];rfl))
def F:=u4 jO
theorem rn x:H.u P_ x=F x:=Eq.trans (b:=u4 (dM x4) x) (by kernel_rfl) (by simp only[e4]<;>rfl)
def c:Con:=⟨H.p,H.r,F⟩
theorem ok:ConOk P_ gl 211 c:=co H func211 (.cons F210.ok (.cons F215.ok .nil)) rn
end F211
namespace F212
def dP(j2:Int32->Int->LX->LX->Option (Int×LX×LX×Int))(b:Int)(f a:LX)(g:Int32):Option (Int×LX×LX×Int):=
(OE b f a).bind λh=>
if(Be h 0)then
some (0,(List.replicate 16 (0:Int32)),(List.replicate 16 (0:Int32)),h)
else
both (
(kW 16 1 16).bind λ_=>
(kW 16 0 16).bind λ_=>
j2 g b f a) [
(kW 16 0 16).bind λ_=>
(kW 16 1 16).bind λ_=>
j2 g b f a]
theorem C3: @dP= @VD:=by
  unfold dP VD
  repeat (refine funext λ_=>?_)
  repeat' first
    |with_reducible rfl
    |with_reducible refine Oo ?_ ?_
    |with_reducible refine Oi ?_ ?_ ?_
    |with_reducible refine Og ?_ ?_ ?_ ?_
    |((with_reducible refine Uf ?_ ?_);focus (intro h;first|(subst h;rfl)|(simp only[h];rfl)|(simp[Et,Ac,h];done)))
    |with_reducible refine Uh λx=>?_
    |with_reducible refine CR (λ_=>?_) (λ_=>?_)
    |(refine Ij (λh=>by simp only[h,Ub,Fm,Fa,ite_self]) (λx h=>?_);(try simp only[h,Fm]))
    |(refine Lf (λh=>?_) (λh=>?_)<;>simp only[h,if_true,if_false,Bool.false_eq_true])
abbrev R_:=(Int×LX×LX×Int)
def H:Hd:=⟨[.agg [Si,.lf (.vec 16 (.int .i32)) none,.lf (.vec 16 (.int .i32)) none],Sx],[.agg [Si,.lf (.vec 16 (.int .i32)) none,.lf (.vec 16 (.int .i32)) none],Si],(.seq .d (.seq .d (.cut [1,2,4] [] .d .d))),⟨[(210,F210.c)],gl,false⟩,[],f212⟩
def x2(g:Int32)(b:Int)(f a:LX):Option R_:=H.e P_ [r,r,r] ⟨[(1,vx g),(2,.ptr 0 []),(4,.ptr 1 [])],[.box 222 (.agg [vi b,.val (.vec 16 (.int .i32)) f,.val (.vec 16 (.int .i32)) (Yl a (1:Int) ((16:Int)-(1:Int)) (aL a (0:Int) ((16:Int)-(0:Int))))]),.box 222 (.agg [vi 0,.val (.vec 16 (.int .i32)) (List.replicate 16 (0:Int32)),.val (.vec 16 (.int .i32)) (List.replicate 16 (0:Int32))])],[]⟩
theorem e2:x2=iY:=by kernel_rfl
def F:=u4 qU
theorem rn x:H.u P_ x=F x:=Eq.trans (b:=u4 (dP x2) x) (by kernel_rfl) (by unfold F;rw[C3];simp only[e2]<;>rfl)
def c:Con:=⟨H.p,H.r,F⟩
theorem ok:ConOk P_ gl 212 c:=co H func212 (.cons F210.ok .nil) rn
end F212
namespace F207
def H:Hd:=⟨[.agg [Si,.lf (.vec 16 (.int .i32)) none,.lf (.vec 16 (.int .i32)) none],Sx,Sx],[.agg [Si,.lf (.vec 16 (.int .i32)) none,.lf (.vec 16 (.int .i32)) none]],.d,⟨[(211,F211.c),(212,F212.c)],gl,false⟩,[],f207⟩
def F:=u5 WG
theorem rn x:H.u P_ x=F x:=by kernel_rfl
def c:Con:=⟨H.p,H.r,F⟩
theorem ok:ConOk P_ gl 207 c:=co H func207 (.cons F211.ok (.cons F212.ok .nil)) rn
end F207
namespace F189
def H:Hd:=⟨[.agg [Si,.lf (.vec 16 (.int .i32)) none,.lf (.vec 16 (.int .i32)) none],Sx],[Sx,.agg [Si,.lf (.vec 16 (.int .i32)) none,.lf (.vec 16 (.int .i32)) none],Si],.d,⟨[(206,F206.c),(207,F207.c)],gl,false⟩,[],f189⟩
def F:=u4 bG
theorem rn x:H.u P_ x=F x:=by kernel_rfl
def c:Con:=⟨H.p,H.r,F⟩
theorem ok:ConOk P_ gl 189 c:=co H func189 (.cons F206.ok (.cons F207.ok .nil)) rn
end F189
namespace F158
def JW(a:Int)(b:Int32)(f:Int)(g h:LX)(k:Int32):Option (Int32×Int×Int32×Int×LX×LX×Int):=
(AE a b f g h).bind λm=>
if(Be m 0)then
some (0,0,0,0,(List.replicate 16 (0:Int32)),(List.replicate 16 (0:Int32)),m)
else
(AD a b).bind λ(n,y)=>
(bG f g h (Ap k n)).bind λ(o,p,u,v,w)=>
bo (
some (o,a,k,p,u,v,w))
theorem nQ: @JW= @Xz:=by
  unfold JW Xz;simp only[eY,NW,OM]
def H:Hd:=⟨[.agg [Si,Sx,.agg [Si,.lf (.vec 16 (.int .i32)) none,.lf (.vec 16 (.int .i32)) none]],Sx],[Sx,.agg [Si,Sx,.agg [Si,.lf (.vec 16 (.int .i32)) none,.lf (.vec 16 (.int .i32)) none]],Si],(.seq .d (.seq .d (.seq .d (.seq .d (.seq (.mode false) .d))))),⟨[(187,F187.c),(188,F188.c),(189,F189.c)],gl,false⟩,[],f158⟩
def F:=u6 Xz
theorem rn x:H.u P_ x=F x:=Eq.trans (b:=u6 JW x) (by kernel_rfl) (by rw[nQ];rfl)
def c:Con:=⟨H.p,H.r,F⟩
theorem ok:ConOk P_ gl 158 c:=co H func158 (.cons F187.ok (.cons F188.ok (.cons F189.ok .nil))) rn
end F158
namespace F159
def H:Hd:=⟨[Sx],[Su],.d,⟨[],gl,false⟩,[],f159⟩
def F:=rM
theorem rn x:H.u P_ x=F x:=by kernel_rfl
def c:Con:=⟨H.p,H.r,F⟩
theorem ok:ConOk P_ gl 159 c:=co H func159 .nil rn
end F159
namespace F125
abbrev R_:=(LU×Int)
def H:Hd:=⟨[.agg [Si,Si],.lf (.vec 16 (.int .i32)) none,Sw],[Ov 60,Si],(.seq .d (.seq .d (.seq .d (.seq .d (.seq .d (.cut [3,9,11] [] (.seq .d (.blk (.loop [3,4,9,11,36] [] .d))) (.seq .d (.cut [13] [] (.seq .d (.blk (.loop [3,11,13,49,50,51] [⟨13,[],.own 60 (.int .u32)⟩] .d))) .d)))))))),⟨[(155,F155.c),(156,F156.c),(157,F157.c),(158,F158.c),(159,F159.c)],gl,false⟩,[],f125⟩
def t10(b:LX)(a f g:Int)(o:List (Int×Int32×(Int×LX×LX×Unit)×Unit))(k:LU):S:=⟨[(3,.ptr 0 []),(11,.ptr 1 []),(13,.own 2),(49,.own 3),(50,vi (Ac b)),(51,vi g)],[.box 74 (.agg [vi a,vi f]),.box 225 (.val (.vec 6 (.cons (.int .i64) (.cons (.int .i32) (.cons (.cons (.int .i64) (.cons (.vec 16 (.int .i32)) (.cons (.vec 16 (.int .i32)) .nil))) .nil)))) o),Av 60 k,Aw 21 b],[]⟩
def z10:Nat->S->Option R_:=H.i P_ [r,r,r,r,r,r,r,l,r,d]
def t7(a f:Int)(m b:LX)(n:Int)(h:List (Int×Int32×(Int×LX×LX×Unit)×Unit)):S:=⟨[(3,.ptr 0 []),(4,.ptr 1 []),(9,.own 2),(11,.ptr 3 []),(36,vi n)],[.box 74 (.agg [vi a,vi f]),.box 136 (.val (.vec 16 (.int .i32)) m),Aw 21 b,.box 225 (.val (.vec 6 (.cons (.int .i64) (.cons (.int .i32) (.cons (.cons (.int .i64) (.cons (.vec 16 (.int .i32)) (.cons (.vec 16 (.int .i32)) .nil))) .nil)))) h)],[]⟩
def z7:Nat->S->Option R_:=H.i P_ [r,r,r,r,r,l,r,d]
def x12(k:LU):Option R_:=H.e P_ [r,r,r,r,r,r,r,r] ⟨[(13,.own 0)],[Av 60 k],[]⟩
def x10(b:LX)(a f g:Int)(o:List (Int×Int32×(Int×LX×LX×Unit)×Unit))(k:LU):Option R_:=H.e P_ [r,r,r,r,r,r,r,l,r,d] (t10 b a f g o k)
def x9(a f:Int)(b:LX)(h:List (Int×Int32×(Int×LX×LX×Unit)×Unit)):Option R_:=H.e P_ [r,r,r,r,r,r] ⟨[(3,.ptr 0 []),(9,.own 1),(11,.ptr 2 [])],[.box 74 (.agg [vi a,vi f]),Aw 21 b,.box 225 (.val (.vec 6 (.cons (.int .i64) (.cons (.int .i32) (.cons (.cons (.int .i64) (.cons (.vec 16 (.int .i32)) (.cons (.vec 16 (.int .i32)) .nil))) .nil)))) h)],[]⟩
def x7(a f:Int)(m b:LX)(n:Int)(h:List (Int×Int32×(Int×LX×LX×Unit)×Unit)):Option R_:=H.e P_ [r,r,r,r,r,l,r,d] (t7 a f m b n h)
theorem e12:x12=YK:=by kernel_rfl
theorem i10(b:LX)(a f:Int):∀(q:Nat) (g:Int) (o:List (Int×Int32×(Int×LX×LX×Unit)×Unit)) (k:LU),z10 q (t10 b a f g o k)=Mp b a f q g o k:=
 ind (λ_ _ _=>by kernel_rfl) λq ih g o k=>Eq.trans (b:=Wp x12 (λg o k=>(z10 q) (t10 b a f g o k)) b a f g o k) (by kernel_rfl) (by simp only[e12,ih]<;>rfl)
theorem e10:x10=ZF:=by funext b a f g o k;exact Eq.trans (by kernel_rfl) ((i10 b a f Dz g o k).trans (by rw[Bf];rfl))
theorem e9:x9=KI:=Eq.trans (b:=bS x10) (by kernel_rfl) (by simp only[e10]<;>rfl)
theorem i7(a f:Int)(m b:LX):∀(q:Nat) (n:Int) (h:List (Int×Int32×(Int×LX×LX×Unit)×Unit)),z7 q (t7 a f m b n h)=IG a f m b q n h:=
 ind (λ_ _=>by kernel_rfl) λq ih n h=>Eq.trans (b:=aR x9 (λn h=>(z7 q) (t7 a f m b n h)) a f m b n h) (by kernel_rfl) (by simp only[e9,ih]<;>rfl)
theorem e7:x7=Yw:=by funext a f m b n h;exact Eq.trans (by kernel_rfl) ((i7 a f m b Dz n h).trans (by rw[Bf];rfl))
def F:=u4 KS
theorem rn x:H.u P_ x=F x:=Eq.trans (b:=u4 (KM x7) x) (by kernel_rfl) (by simp only[e7]<;>rfl)
def c:Con:=⟨H.p,H.r,F⟩
theorem ok:ConOk P_ gl 125 c:=co H func125 (.cons F155.ok (.cons F156.ok (.cons F157.ok (.cons F158.ok (.cons F159.ok .nil))))) rn
end F125
namespace F160
def H:Hd:=⟨[],[.agg [Si,Si,Sq,Sq]],.d,⟨[],gl,false⟩,[],f160⟩
noncomputable def F(x:Unit):=uA
theorem rn x:H.u P_ x=F x:=by kernel_rfl
def c:Con:=⟨H.p,H.r,F⟩
theorem ok:ConOk P_ gl 160 c:=co H func160 .nil rn
end F160
namespace F126
abbrev R_:=((List (Int×Int×UInt64×UInt64×Unit)))
def H:Hd:=⟨[],[.lf (.vec 6 (.cons (.int .i64) (.cons (.int .i64) (.cons (.int .u64) (.cons (.int .u64) .nil))))) none],(.seq .d (.seq .d (.cut [0,1] [] (.seq .d (.blk (.loop [0,1,3] [] .d))) .d))),⟨[(160,F160.c)],gl,false⟩,[],f126⟩
def t4(b:Int)(a:List (Int×Int×UInt64×UInt64×Unit)):S:=⟨[(0,.ptr 0 []),(1,.ptr 1 []),(3,vi b)],[.box 185 (.val (.vec 6 (.cons (.int .i64) (.cons (.int .i64) (.cons (.int .u64) (.cons (.int .u64) .nil))))) (List.replicate 6 ((0:Int),(0:Int),(0:UInt64),(0:UInt64),()))),.box 185 (.val (.vec 6 (.cons (.int .i64) (.cons (.int .i64) (.cons (.int .u64) (.cons (.int .u64) .nil))))) a)],[]⟩
def z4:Nat->S->Option R_:=H.i P_ [r,r,l,r,d]
def x6(a:List (Int×Int×UInt64×UInt64×Unit)):Option R_:=H.e P_ [r,r,r] ⟨[(0,.ptr 0 []),(1,.ptr 1 [])],[.box 185 (.val (.vec 6 (.cons (.int .i64) (.cons (.int .i64) (.cons (.int .u64) (.cons (.int .u64) .nil))))) (List.replicate 6 ((0:Int),(0:Int),(0:UInt64),(0:UInt64),()))),.box 185 (.val (.vec 6 (.cons (.int .i64) (.cons (.int .i64) (.cons (.int .u64) (.cons (.int .u64) .nil))))) a)],[]⟩
def x4(b:Int)(a:List (Int×Int×UInt64×UInt64×Unit)):Option R_:=H.e P_ [r,r,l,r,d] (t4 b a)
theorem e6:x6=bT:=by kernel_rfl
theorem i4:∀(q:Nat) (b:Int) (a:List (Int×Int×UInt64×UInt64×Unit)),z4 q (t4 b a)=JE q b a:=
 ind (λ_ _=>by kernel_rfl) λq ih b a=>Eq.trans (b:=aY x6 (λb a=>(z4 q) (t4 b a)) b a) (by kernel_rfl) (by simp only[e6,ih]<;>rfl)
theorem e4:x4=IX:=by funext b a;exact Eq.trans (by kernel_rfl) ((i4 Dz b a).trans (by rw[Bf];rfl))
noncomputable def F(x:Unit):=LD
theorem rn x:H.u P_ x=F x:=Eq.trans (b:=JI x4) (by kernel_rfl) (by simp only[e4]<;>rfl)
def c:Con:=⟨H.p,H.r,F⟩
theorem ok:ConOk P_ gl 126 c:=co H func126 (.cons F160.ok .nil) rn
end F126
namespace F161
def H:Hd:=⟨[.agg [Sb,Si]],[Si],.d,⟨[],gl,false⟩,[],f161⟩
def F:=u2 Ky
theorem rn x:H.u P_ x=F x:=by kernel_rfl
def c:Con:=⟨H.p,H.r,F⟩
theorem ok:ConOk P_ gl 161 c:=co H func161 .nil rn
end F161
namespace F162
def WS(j4:Int->Int->UInt64->UInt64->Option Int)(a b:Int)(f g:UInt64):Option Int:=
both (
bo (
j4 a b f g)) [
j4 a b f g]
theorem xJ: @WS= @OZ:=by
  unfold WS OZ
  repeat (refine funext λ_=>?_)
  repeat' first
    |with_reducible rfl
    |with_reducible refine Oo ?_ ?_
    |with_reducible refine Oi ?_ ?_ ?_
    |with_reducible refine Og ?_ ?_ ?_ ?_
    |((with_reducible refine Uf ?_ ?_);focus (intro h;first|(subst h;rfl)|(simp only[h];rfl)|(simp[Et,Ac,h];done)))
    |with_reducible refine Uh λx=>?_
    |with_reducible refine CR (λ_=>?_) (λ_=>?_)
    |(refine Ij (λh=>by simp only[h,Ub,Fm,Fa,ite_self]) (λx h=>?_);(try simp only[h,Fm]))
    |(refine Lf (λh=>?_) (λh=>?_)<;>simp only[h,if_true,if_false,Bool.false_eq_true])
def XV(j3:Int->Int->UInt64->UInt64->Option Int)(a b:Int)(f g:UInt64):Option Int:=
both (
bo (
j3 a b f g)) [
j3 a b f g]
theorem wJ: @XV= @OX:=by
  unfold XV OX
  repeat (refine funext λ_=>?_)
  repeat' first
    |with_reducible rfl
    |with_reducible refine Oo ?_ ?_
    |with_reducible refine Oi ?_ ?_ ?_
    |with_reducible refine Og ?_ ?_ ?_ ?_
    |((with_reducible refine Uf ?_ ?_);focus (intro h;first|(subst h;rfl)|(simp only[h];rfl)|(simp[Et,Ac,h];done)))
    |with_reducible refine Uh λx=>?_
    |with_reducible refine CR (λ_=>?_) (λ_=>?_)
    |(refine Ij (λh=>by simp only[h,Ub,Fm,Fa,ite_self]) (λx h=>?_);(try simp only[h,Fm]))
    |(refine Lf (λh=>?_) (λh=>?_)<;>simp only[h,if_true,if_false,Bool.false_eq_true])
abbrev R_:=Int
def H:Hd:=⟨[.agg [Si,Si,Sq,Sq]],[Si],(.seq .d (.seq .d (.cut [1,3] [] (.mode false) (.cut [1,3] [] (.mode false) .d)))),⟨[],gl,false⟩,[],f162⟩
def x4(a b:Int)(f g:UInt64):Option R_:=H.e P_ [r,r,r,r] ⟨[(1,.ptr 0 []),(3,.ptr 1 [])],[.box 184 (.agg [vi a,vi b,vq f,vq g]),.box 184 (.agg [vi (Fj (sD a (0:Int)) (24:Int)),vi (Fj (sD b (0:Int)) (24:Int)),vq (Fj f (68719476735:UInt64)),vq (Fj g (68719476735:UInt64))])],[]⟩
def x3(a b:Int)(f g:UInt64):Option R_:=H.e P_ [r,r,r] ⟨[(1,.ptr 0 []),(3,.ptr 1 [])],[.box 184 (.agg [vi a,vi b,vq f,vq g]),.box 184 (.agg [vi (Fj (sD a (0:Int)) (24:Int)),vi (Fj (sD b (0:Int)) (24:Int)),vq f,vq g])],[]⟩
theorem e4:x4=dT:=by kernel_rfl
theorem e3:x3=dB:=Eq.trans (b:=WS x4) (by kernel_rfl) (by rw[xJ];simp only[e4]<;>rfl)
def F:=u4 WW
theorem rn x:H.u P_ x=F x:=Eq.trans (b:=u4 (XV x3) x) (by kernel_rfl) (by unfold F;rw[wJ];simp only[e3]<;>rfl)
def c:Con:=⟨H.p,H.r,F⟩
theorem ok:ConOk P_ gl 162 c:=co H func162 .nil rn
end F162
namespace F163
def H:Hd:=⟨[.agg [Si,Si,Sq,Sq],Su],[Si,Su],.d,⟨[],gl,false⟩,[],f163⟩
def F:=u5 NJ
theorem rn x:H.u P_ x=F x:=by kernel_rfl
def c:Con:=⟨H.p,H.r,F⟩
theorem ok:ConOk P_ gl 163 c:=co H func163 .nil rn
end F163
namespace F173
def Qx(a:LB):Option (LB):=
U5 a (
some ([]:LB)) (
(Et ([]:LB) a).bind λb=>
some b)
theorem QE: @Qx= @Fv:=by
  unfold Qx Fv
  repeat (refine funext λ_=>?_)
  repeat' first
    |with_reducible rfl
    |with_reducible refine Oo ?_ ?_
    |with_reducible refine Oi ?_ ?_ ?_
    |with_reducible refine Og ?_ ?_ ?_ ?_
    |((with_reducible refine Uf ?_ ?_);focus (intro h;first|(subst h;rfl)|(simp only[h];rfl)|(simp[Et,Ac,h];done)))
    |with_reducible refine Uh λx=>?_
    |with_reducible refine CR (λ_=>?_) (λ_=>?_)
    |(refine Ij (λh=>by simp only[h,Ub,Fm,Fa,ite_self]) (λx h=>?_);(try simp only[h,Fm]))
    |(refine Lf (λh=>?_) (λh=>?_)<;>simp only[h,if_true,if_false,Bool.false_eq_true])
def H:Hd:=⟨[Sb],[Ob 5],.d,⟨[],gl,false⟩,[],f173⟩
def F:=Fv
theorem rn x:H.u P_ x=F x:=Eq.trans (b:=Qx x) (by kernel_rfl) (by rw[QE];rfl)
def c:Con:=⟨H.p,H.r,F⟩
theorem ok:ConOk P_ gl 173 c:=co H func173 .nil rn
end F173
namespace F190
def H:Hd:=⟨[.agg [Sb,Si]],[.agg [Ob 5,Si]],.d,⟨[(173,F173.c)],gl,false⟩,[],f190⟩
def F:=u2 gI
theorem rn x:H.u P_ x=F x:=by kernel_rfl
def c:Con:=⟨H.p,H.r,F⟩
theorem ok:ConOk P_ gl 190 c:=co H func190 (.cons F173.ok .nil) rn
end F190
namespace F164
abbrev R_:=(LB×Int×Int)
abbrev K_:=S->Option R_
def H:Hd:=⟨[.agg [Sb,Si],Sq,Si],[.agg [Ob 5,Si],Si],(.seq .d (.seq .d (.seq .d (.cut [3,6] [] (.keep [1,2,3,6,40,41] true) .d)))),⟨[(161,F161.c),(190,F190.c)],gl,false⟩,[(191,(.blk (.loop [0,1,2] [] (.seq .d (.blk (.cut [0,1,2] [] .d (.seq .d (.cut [0,1,2,7] [] .d .d))))))))],f164⟩
def t15(b:UInt64)(a:Int)(m:UInt64)(h f:Int)(o:LB):S:=⟨[(0,.ptr 0 []),(1,vq m),(2,vi h)],[.box 188 (.agg [.own 2,vi f]),.box 188 (.agg [.nils,vi 0]),Ab 5 o],[[(1,vq b),(2,vi a),(3,.ptr 0 []),(6,.ptr 1 []),(40,vq b),(41,vi a)]]⟩
def z15:Nat->S->Option R_:=H.i P_ [r,r,r,l,(call 2 191),d]
def t22(b:UInt64)(a:Int)(n:UInt64)(k g:Int)(p:LB):S:=⟨[(0,.ptr 0 []),(1,vq n),(2,vi k)],[.box 188 (.agg [.own 2,vi g]),.box 188 (.agg [.nils,vi 0]),Ab 5 p],[[(1,vq b),(2,vi a),(3,.ptr 0 []),(6,.ptr 1 []),(40,vq b),(41,vi a)]]⟩
def z22:Nat->S->Option R_:=H.i P_ [r,r,r,l,(call 2 191),d]
def x21(f:Int)(o:LB):Option R_:=H.e P_ [r,r,r,r] ⟨[(3,.ptr 0 []),(6,.ptr 1 [])],[.box 188 (.agg [.own 2,vi f]),.box 188 (.agg [.nils,vi 0]),Ab 5 o],[]⟩
def x19(qg:K_)(b:UInt64)(a:Int)(m:UInt64)(h f:Int)(w:LB):Option R_:=H.e P_ [r,r,r,l,(call 2 191),d,(lp qg),r,d,r,r,r] ⟨[(0,.ptr 0 []),(1,vq m),(2,vi h),(7,vi (Fj h (Ap (8:Int) (Ey f (7:Int)))))],[.box 188 (.agg [.own 2,vi f]),.box 188 (.agg [.nils,vi 0]),Ab 5 w],[[(1,vq b),(2,vi a),(3,.ptr 0 []),(6,.ptr 1 []),(40,vq b),(41,vi a)]]⟩
def x18(qg:K_)(b:UInt64)(a:Int)(m:UInt64)(h f:Int)(u:LB):Option R_:=H.e P_ [r,r,r,l,(call 2 191),d,(lp qg),r,d,r] ⟨[(0,.ptr 0 []),(1,vq m),(2,vi h)],[.box 188 (.agg [.own 2,vi f]),.box 188 (.agg [.nils,vi 0]),Ab 5 u],[[(1,vq b),(2,vi a),(3,.ptr 0 []),(6,.ptr 1 []),(40,vq b),(41,vi a)]]⟩
def x15(b:UInt64)(a:Int)(m:UInt64)(h f:Int)(o:LB):Option R_:=H.e P_ [r,r,r,l,(call 2 191),d] (t15 b a m h f o)
def x28(g:Int)(p:LB):Option R_:=H.e P_ [r,r,r,r] ⟨[(3,.ptr 0 []),(6,.ptr 1 [])],[.box 188 (.agg [.own 2,vi g]),.box 188 (.agg [.nils,vi 0]),Ab 5 p],[]⟩
def x26(qh:K_)(b:UInt64)(a:Int)(n:UInt64)(k g:Int)(y:LB):Option R_:=H.e P_ [r,r,r,l,(call 2 191),d,(lp qh),r,d,r,r,r] ⟨[(0,.ptr 0 []),(1,vq n),(2,vi k),(7,vi (Fj k (Ap (8:Int) (Ey g (7:Int)))))],[.box 188 (.agg [.own 2,vi g]),.box 188 (.agg [.nils,vi 0]),Ab 5 y],[[(1,vq b),(2,vi a),(3,.ptr 0 []),(6,.ptr 1 []),(40,vq b),(41,vi a)]]⟩
def x25(qh:K_)(b:UInt64)(a:Int)(n:UInt64)(k g:Int)(v:LB):Option R_:=H.e P_ [r,r,r,l,(call 2 191),d,(lp qh),r,d,r] ⟨[(0,.ptr 0 []),(1,vq n),(2,vi k)],[.box 188 (.agg [.own 2,vi g]),.box 188 (.agg [.nils,vi 0]),Ab 5 v],[[(1,vq b),(2,vi a),(3,.ptr 0 []),(6,.ptr 1 []),(40,vq b),(41,vi a)]]⟩
def x22(b:UInt64)(a:Int)(n:UInt64)(k g:Int)(p:LB):Option R_:=H.e P_ [r,r,r,l,(call 2 191),d] (t22 b a n k g p)
theorem e21:x21=jS:=by kernel_rfl
theorem e19(qg:K_)(b:UInt64)(a:Int):x19 qg b a=iT (λm h f o=>qg (t15 b a m h f o)) b a:=by kernel_rfl
theorem e18(qg:K_)(b:UInt64)(a:Int):x18 qg b a=VJ (λm h f o=>qg (t15 b a m h f o)) b a:=Eq.trans (b:=gZ (x19 qg b a) b a) (by kernel_rfl) (by simp only[e19]<;>rfl)
theorem i15(b:UInt64)(a:Int):∀(q:Nat) (m:UInt64) (h f:Int) (o:LB),z15 q (t15 b a m h f o)=Sk b a q m h f o:=
 ind (λ_ _ _ _=>by kernel_rfl) λq ih m h f o=>Eq.trans (b:=VM (x18 (z15 q) b a) x21 b a m h f o) (by kernel_rfl) (by simp only[e18,e21,ih]<;>rfl)
theorem e15:x15=yW:=by funext b a m h f o;exact Eq.trans (by kernel_rfl) ((i15 b a Dz m h f o).trans (by rw[Bf];rfl))
theorem e28:x28=yC:=by kernel_rfl
theorem e26(qh:K_)(b:UInt64)(a:Int):x26 qh b a=xC (λn k g p=>qh (t22 b a n k g p)) b a:=by kernel_rfl
theorem e25(qh:K_)(b:UInt64)(a:Int):x25 qh b a=xZ (λn k g p=>qh (t22 b a n k g p)) b a:=Eq.trans (b:=wW (x26 qh b a) b a) (by kernel_rfl) (by simp only[e26]<;>rfl)
theorem i22(b:UInt64)(a:Int):∀(q:Nat) (n:UInt64) (k g:Int) (p:LB),z22 q (t22 b a n k g p)=iQ b a q n k g p:=
 ind (λ_ _ _ _=>by kernel_rfl) λq ih n k g p=>Eq.trans (b:=yV (x25 (z22 q) b a) x28 b a n k g p) (by kernel_rfl) (by simp only[e25,e28,ih]<;>rfl)
theorem e22:x22=yB:=by funext b a n k g p;exact Eq.trans (by kernel_rfl) ((i22 b a Dz n k g p).trans (by rw[Bf];rfl))
def F:=u4 XH
theorem rn x:H.u P_ x=F x:=Eq.trans (b:=u4 (pZ x15 x22) x) (by kernel_rfl) (by simp only[e15,e22]<;>rfl)
def c:Con:=⟨H.p,H.r,F⟩
theorem ok:ConOk P_ gl 164 c:=cr H func164 (.cons F161.ok (.cons F190.ok .nil)) (Eg.cons ent191 Eg.nil) rn
end F164
namespace F192
def H:Hd:=⟨[Su,Si],[Sz],.d,⟨[],gl,false⟩,[],f192⟩
def F:=u2 BY
theorem rn x:H.u P_ x=F x:=by kernel_rfl
def c:Con:=⟨H.p,H.r,F⟩
theorem ok:ConOk P_ gl 192 c:=co H func192 .nil rn
end F192
namespace F208
def H:Hd:=⟨[Si],[Si,Si],.d,⟨[],gl,false⟩,[],f208⟩
def F:=jI
theorem rn x:H.u P_ x=F x:=by kernel_rfl
def c:Con:=⟨H.p,H.r,F⟩
theorem ok:ConOk P_ gl 208 c:=co H func208 .nil rn
end F208
namespace F193
def H:Hd:=⟨[.agg [Sb,Si],Si],[.agg [Ob 5,Si],Si],.d,⟨[(161,F161.c),(164,F164.c),(208,F208.c)],gl,false⟩,[],f193⟩
def F:=u3 bP
theorem rn x:H.u P_ x=F x:=by kernel_rfl
def c:Con:=⟨H.p,H.r,F⟩
theorem ok:ConOk P_ gl 193 c:=co H func193 (.cons F161.ok (.cons F164.ok (.cons F208.ok .nil))) rn
end F193
namespace F165
abbrev R_:=(LB×Int×Int)
def H:Hd:=⟨[.agg [Sb,Si],Su,Si],[.agg [Ob 5,Si],Si],(.seq .d (.seq .d (.seq .d (.seq .d (.cut [3,6,9,10,11] [] .d .d))))),⟨[(161,F161.c),(164,F164.c),(192,F192.c),(193,F193.c)],gl,false⟩,[],f165⟩
def x2(b:LB)(f h:Int)(k:UInt32)(m:Int):Option R_:=H.e P_ [r,r,r,r,r] ⟨[(3,.ptr 0 []),(6,.ptr 1 []),(9,vi h),(10,vu k),(11,vi m)],[.box 188 (.agg [vb b,vi f]),.box 188 (.agg [.nils,vi 0])],[]⟩
theorem e2:x2=PN:=by kernel_rfl
def F:=u4 jL
theorem rn x:H.u P_ x=F x:=Eq.trans (b:=u4 (cM x2) x) (by kernel_rfl) (by simp only[e2]<;>rfl)
def c:Con:=⟨H.p,H.r,F⟩
theorem ok:ConOk P_ gl 165 c:=co H func165 (.cons F161.ok (.cons F164.ok (.cons F192.ok (.cons F193.ok .nil)))) rn
end F165
namespace F127
def SM(k u n:Int)(a:UInt64)(b:UInt32)(o:UInt64)(m:LB):Option (LB×Int×Int×Int×UInt64×UInt64×Int):=
(λaf:Option (LB×Int×Int×Int×UInt64×UInt64×Int)=>
both (
bo (
af)) [
af]) (
some (m,k,u,n,(Ad a (Ap (Af b:UInt64) (Ct a (GI.toZ (4:UInt64)).toNat))),o,0))
theorem tW: @SM= @HV:=by
  unfold SM HV
  try simp only[eY,NW,OM]
  all_goals
    repeat (refine funext λ_=>?_)
    repeat' first
      |with_reducible rfl
      |with_reducible refine Oo ?_ ?_
      |with_reducible refine Oi ?_ ?_ ?_
      |with_reducible refine Og ?_ ?_ ?_ ?_
      |((with_reducible refine Uf ?_ ?_);focus (intro h;first|(subst h;rfl)|(simp only[h];rfl)|(simp[Et,Ac,h];done)))
      |with_reducible refine Uh λx=>?_
      |with_reducible refine CR (λ_=>?_) (λ_=>?_)
      |(refine Ij (λh=>by simp only[h,Ub,Fm,Fa,ite_self]) (λx h=>?_);(try simp only[h,Fm]))
      |(refine Lf (λh=>?_) (λh=>?_)<;>simp only[h,if_true,if_false,Bool.false_eq_true])
abbrev R_:=(LB×Int×Int×Int×UInt64×UInt64×Int)
def H:Hd:=⟨[.agg [Sb,Si],.agg [Si,Si,Sq,Sq],Su],[.agg [Ob 5,Si],.agg [Si,Si,Sq,Sq],Si],(.seq .d (.cut [2,3,4,6,7] [] .d (.seq .d (.seq .d (.cut [2,3,4,6,7,11] [] .d (.seq .d (.cut [3,4,6,7] [] (.keep [2,3,4,6,7,65] true) (.seq (.mode false) .d)))))))),⟨[(161,F161.c),(162,F162.c),(163,F163.c),(164,F164.c),(165,F165.c)],gl,false⟩,[(166,(.seq .d (.seq .d (.seq .d (.blk (.cut [0,1,4] [] (.blk (.seq .d (.keep [0,1,4,6,18,19,20,21,22,23,24,25] true))) (.cut [] [] (.keep [0,1,4,27,28,29,30,31,32,33,34] true) .d))))))),(194,.d)],f127⟩
def x10(k u n:Int)(a:UInt64)(b:UInt32)(o:UInt64)(m:LB):Option R_:=H.e P_ [r,r,r,r,r,r,r] ⟨[(3,.ptr 0 []),(4,.ptr 1 []),(6,.ptr 2 []),(7,.ptr 3 [])],[.box 188 (.agg [.own 4,vi k]),.box 184 (.agg [vi u,vi n,vq (Ad a (Ap (Af b:UInt64) (Ct a (GI.toZ (4:UInt64)).toNat))),vq o]),.box 188 (.agg [.nils,vi 0]),.box 184 (.agg [vi 0,vi 0,vq 0,vq 0]),Ab 5 m],[]⟩
def x9(b:UInt32)(k n:Int)(a o:UInt64)(m:LB)(u:Int):Option R_:=H.e P_ [r,r,r,r,r,r,l,(call 1 166),r,r,r,d,r,r] ⟨[],[.box 188 (.agg [.own 4,vi k]),.box 184 (.agg [vi u,vi n,vq (Ad a (Ap (Af b:UInt64) (Ct a (GI.toZ (4:UInt64)).toNat))),vq o]),.box 188 (.agg [.nils,vi 0]),.box 184 (.agg [vi 0,vi 0,vq 0,vq 0]),Ab 5 m],[[(2,vu b),(3,.ptr 0 []),(4,.ptr 1 []),(6,.ptr 2 []),(7,.ptr 3 []),(65,vu b)]]⟩
def x8(b:UInt32)(f:Int)(a:UInt64)(k:Int)(m:LB)(n:Int)(o:UInt64):Option R_:=H.e P_ [r,r,r,r,r,r,l,(call 1 166),r,r,r,d,r] ⟨[(0,.ptr 0 []),(1,vu b),(4,.fn 194 [])],[.box 184 (.agg [vi f,vi n,vq a,vq o]),.box 188 (.agg [.own 4,vi k]),.box 188 (.agg [.nils,vi 0]),.box 184 (.agg [vi 0,vi 0,vq 0,vq 0]),Ab 5 m],[[(2,vu b),(3,.ptr 1 []),(4,.ptr 0 []),(6,.ptr 2 []),(7,.ptr 3 []),(65,vu b)]]⟩
def x7(b:UInt32)(f h:Int)(a g:UInt64)(y k:Int)(m:LB):Option R_:=H.e P_ [r,r,r,r,r] ⟨[(2,vu b),(3,.ptr 0 []),(4,.ptr 1 []),(6,.ptr 2 []),(7,.ptr 3 []),(11,vi y)],[.box 188 (.agg [.own 4,vi k]),.box 184 (.agg [vi f,vi h,vq a,vq g]),.box 188 (.agg [.nils,vi 0]),.box 184 (.agg [vi 0,vi 0,vq 0,vq 0]),Ab 5 m],[]⟩
def x6(b:UInt32)(v:LB)(w f h:Int)(a g:UInt64):Option R_:=H.e P_ [r,r] ⟨[(2,vu b),(3,.ptr 0 []),(4,.ptr 1 []),(6,.ptr 2 []),(7,.ptr 3 [])],[.box 188 (.agg [vb v,vi w]),.box 184 (.agg [vi f,vi h,vq a,vq g]),.box 188 (.agg [.nils,vi 0]),.box 184 (.agg [vi 0,vi 0,vq 0,vq 0])],[]⟩
theorem e10:x10=WR:=Eq.trans (b:=SM) (by kernel_rfl) (by rw[tW];rfl)
theorem e9:x9=dU:=Eq.trans (b:=cW x10) (by kernel_rfl) (by simp only[e10]<;>rfl)
theorem e8:x8=DH:=Eq.trans (b:=cR x9) (by kernel_rfl) (by simp only[e9]<;>rfl)
theorem e7:x7=OY:=Eq.trans (b:=dZ x8) (by kernel_rfl) (by simp only[e8]<;>rfl)
theorem e6:x6=cS:=Eq.trans (b:=dN x7) (by kernel_rfl) (by simp only[e7]<;>rfl)
def F:=u7 kF
theorem rn x:H.u P_ x=F x:=Eq.trans (b:=u7 (dO x6) x) (by kernel_rfl) (by simp only[e6]<;>rfl)
def c:Con:=⟨H.p,H.r,F⟩
theorem ok:ConOk P_ gl 127 c:=cr H func127 (.cons F161.ok (.cons F162.ok (.cons F163.ok (.cons F164.ok (.cons F165.ok .nil))))) (Eg.cons ent166 (Eg.cons ent194 Eg.nil)) rn
end F127
namespace F131
abbrev R_:=(UInt32×Int)
abbrev K_:=S->Option R_
def H:Hd:=⟨[Su,Sb],[Su,Si],(.seq .d (.seq .d (.cut [0,1,6] [] (.keep [0,1,6,12] true) (.cut [0] [] (.seq .d (.blk (.loop [0,6,13,14,15] [] .d))) .d)))),⟨[],gl,false⟩,[(168,(.seq .d (.seq .d (.cut [1] [] (.seq .d (.blk (.loop [1,5] [] (.seq .d (.seq .d (.cut [1,5] [] (.blk (.seq .d (.seq .d (.cut [1,2,3,5] [] (.seq .d (.blk (.loop [1,2,3,5,10] [] .d))) .d)))) .d)))))) .d))))],f131⟩
def t28(a:LB)(b:LU)(h:UInt32)(m:Int):S:=⟨[(0,vu h),(6,.ptr 0 []),(13,vb a),(14,vi (Ac a)),(15,vi m)],[.box 276 (.val (.vec 256 (.int .u32)) b)],[]⟩
def z28:Nat->S->Option R_:=H.i P_ [r,r,r,l,r,d]
def t21(f:UInt32)(a:LB)(g:Int)(b:LU)(k:UInt32)(n:Int):S:=⟨[(1,.ptr 0 []),(2,vi g),(3,vu k),(5,vi g),(10,vi n)],[.box 276 (.val (.vec 256 (.int .u32)) b)],[[(0,vu f),(1,vb a)]]⟩
def z21(Fk:K_):Nat->S->Option R_:=H.i P_ [r,r,l,(call 0 168),r,r,l,r,d,(lp Fk),r,r,l,d,r,r,l,r,d]
def t16(f:UInt32)(a:LB)(g:Int)(b:LU):S:=⟨[(1,.ptr 0 []),(5,vi g)],[.box 276 (.val (.vec 256 (.int .u32)) b)],[[(0,vu f),(1,vb a)]]⟩
def z16:Nat->S->Option R_:=H.i P_ [r,r,l,(call 0 168),r,r,l,r,d]
def x30(h:UInt32):Option R_:=H.e P_ [r,r,r,r] ⟨[(0,vu h)],[],[]⟩
def x28(a:LB)(b:LU)(h:UInt32)(m:Int):Option R_:=H.e P_ [r,r,r,l,r,d] (t28 a b h m)
def x27(f:UInt32)(a:LB)(b:LU):Option R_:=H.e P_ [r,r,r] ⟨[(0,vu f),(1,vb a),(6,.ptr 0 [])],[.box 276 (.val (.vec 256 (.int .u32)) b)],[]⟩
def x26(f:UInt32)(a:LB)(b:LU):Option R_:=H.e P_ [r,r,l,(call 0 168),r,r,r] ⟨[(1,.ptr 0 [])],[.box 276 (.val (.vec 256 (.int .u32)) b)],[[(0,vu f),(1,vb a)]]⟩
def x24(Fk:K_)(f:UInt32)(a:LB)(g:Int)(o:LU):Option R_:=H.e P_ [r,r,l,(call 0 168),r,r,l,r,d,(lp Fk),r,r,r] ⟨[(1,.ptr 0 []),(5,vi g)],[.box 276 (.val (.vec 256 (.int .u32)) o)],[[(0,vu f),(1,vb a)]]⟩
def x23(Fk:K_)(f:UInt32)(a:LB)(g:Int)(k:UInt32)(b:LU):Option R_:=H.e P_ [r,r,l,(call 0 168),r,r,l,r,d,(lp Fk),r,r,l,d,r,r,r] ⟨[(1,.ptr 0 []),(2,vi g),(3,vu k),(5,vi g)],[.box 276 (.val (.vec 256 (.int .u32)) b)],[[(0,vu f),(1,vb a)]]⟩
def x21(Fk:K_)(f:UInt32)(a:LB)(g:Int)(b:LU)(k:UInt32)(n:Int):Option R_:=H.e P_ [r,r,l,(call 0 168),r,r,l,r,d,(lp Fk),r,r,l,d,r,r,l,r,d] (t21 f a g b k n)
def x16(f:UInt32)(a:LB)(g:Int)(b:LU):Option R_:=H.e P_ [r,r,l,(call 0 168),r,r,l,r,d] (t16 f a g b)
theorem e30:x30=ZE:=by kernel_rfl
theorem i28(a:LB)(b:LU):∀(q:Nat) (h:UInt32) (m:Int),z28 q (t28 a b h m)=Vp a b q h m:=
 ind (λ_ _=>by kernel_rfl) λq ih h m=>Eq.trans (b:=JO x30 (λh m=>(z28 q) (t28 a b h m)) a b h m) (by kernel_rfl) (by simp only[e30,ih]<;>rfl)
theorem e28:x28=YB:=by funext a b h m;exact Eq.trans (by kernel_rfl) ((i28 a b Dz h m).trans (by rw[Bf];rfl))
theorem e27:x27=XX:=Eq.trans (b:=YM x28) (by kernel_rfl) (by simp only[e28]<;>rfl)
theorem e26:x26=IP:=Eq.trans (b:=ZT x27) (by kernel_rfl) (by simp only[e27]<;>rfl)
theorem e24(Fk:K_)(f:UInt32)(a:LB):x24 Fk f a=XT (λg b=>Fk (t16 f a g b)) f a:=by kernel_rfl
theorem e23(Fk:K_)(f:UInt32)(a:LB):x23 Fk f a=KZ (λg b=>Fk (t16 f a g b)) f a:=Eq.trans (b:=ZV (x24 Fk f a) f a) (by kernel_rfl) (by simp only[e24]<;>rfl)
theorem i21(Fk:K_)(f:UInt32)(a:LB)(g:Int)(b:LU):∀(q:Nat) (k:UInt32) (n:Int),z21 Fk q (t21 f a g b k n)=Uv (λg b=>Fk (t16 f a g b)) f a g b q k n:=
 ind (λ_ _=>by kernel_rfl) λq ih k n=>Eq.trans (b:=KL (x23 Fk f a) (λk n=>(z21 Fk q) (t21 f a g b k n)) f a g b k n) (by kernel_rfl) (by simp only[e23,ih]<;>rfl)
theorem e21(Fk:K_)(f:UInt32)(a:LB):x21 Fk f a=YN (λg b=>Fk (t16 f a g b)) f a:=by funext g b k n;exact Eq.trans (by kernel_rfl) ((i21 Fk f a g b Dz k n).trans (by rw[Bf];rfl))
theorem i16(f:UInt32)(a:LB):∀(q:Nat) (g:Int) (b:LU),z16 q (t16 f a g b)=Ql f a q g b:=
 ind (λ_ _=>by kernel_rfl) λq ih g b=>Eq.trans (b:=JG (x21 (z16 q) f a) x26 f a g b) (by kernel_rfl) (by simp only[e21,e26,ih]<;>rfl)
theorem e16:x16=ZC:=by funext f a g b;exact Eq.trans (by kernel_rfl) ((i16 f a Dz g b).trans (by rw[Bf];rfl))
def F:=u2 jD
theorem rn x:H.u P_ x=F x:=Eq.trans (b:=u2 (dS x16) x) (by kernel_rfl) (by simp only[e16]<;>rfl)
def c:Con:=⟨H.p,H.r,F⟩
theorem ok:ConOk P_ gl 131 c:=cr H func131 .nil (Eg.cons ent168 Eg.nil) rn
end F131
namespace F91
def H:Hd:=⟨[Sb],[Su,Si],.d,⟨[(131,F131.c)],gl,false⟩,[],f91⟩
def F:=BR
theorem rn x:H.u P_ x=F x:=by kernel_rfl
def c:Con:=⟨H.p,H.r,F⟩
theorem ok:ConOk P_ gl 91 c:=co H func91 (.cons F131.ok .nil) rn
end F91
namespace F130
def H:Hd:=⟨[Sq,Si],[Sz],.d,⟨[],gl,false⟩,[],f130⟩
def F:=u2 L7
theorem rn x:H.u P_ x=F x:=by kernel_rfl
def c:Con:=⟨H.p,H.r,F⟩
theorem ok:ConOk P_ gl 130 c:=co H func130 .nil rn
end F130
namespace F90
abbrev R_:=(LB×Int)
def H:Hd:=⟨[Sq,Si],[Ob 5,Si],(.seq .d (.seq .d (.seq .d (.seq .d (.cut [6] [] (.seq .d (.blk (.loop [0,6,21,22] [] .d))) .d))))),⟨[(130,F130.c)],gl,false⟩,[],f90⟩
def t4(f:UInt64)(g:LB)(b:Int)(a:LB):S:=⟨[(0,vq f),(6,.own 0),(21,vi (Ac g)),(22,vi b)],[Ab 5 a],[]⟩
def z4:Nat->S->Option R_:=H.i P_ [r,r,r,r,l,r,d]
def x6(a:LB):Option R_:=H.e P_ [r,r,r,r,r] ⟨[(6,.own 0)],[Ab 5 a],[]⟩
def x4(f:UInt64)(g:LB)(b:Int)(a:LB):Option R_:=H.e P_ [r,r,r,r,l,r,d] (t4 f g b a)
theorem e6:x6=nN:=by kernel_rfl
theorem i4(f:UInt64)(g:LB):∀(q:Nat) (b:Int) (a:LB),z4 q (t4 f g b a)=FP f g q b a:=
 ind (λ_ _=>by kernel_rfl) λq ih b a=>Eq.trans (b:=bL x6 (λb a=>(z4 q) (t4 f g b a)) f g b a) (by kernel_rfl) (by simp only[e6,ih]<;>rfl)
theorem e4:x4=nV:=by funext f g b a;exact Eq.trans (by kernel_rfl) ((i4 f g Dz b a).trans (by rw[Bf];rfl))
def F:=u2 DE
theorem rn x:H.u P_ x=F x:=Eq.trans (b:=u2 (qG x4) x) (by kernel_rfl) (by simp only[e4]<;>rfl)
def c:Con:=⟨H.p,H.r,F⟩
theorem ok:ConOk P_ gl 90 c:=co H func90 (.cons F130.ok .nil) rn
end F90
namespace F129
abbrev R_:=LB
def H:Hd:=⟨[.lf (.list (.list (.int .u8))) none],[Ob 5],(.seq .d (.seq .d (.cut [0,3] [] (.seq .d (.blk (.loop [0,3,9,10,11] [] .d))) (.cut [0,6] [⟨6,[],.own 5 (.int .u8)⟩] (.keep [0,3,6,23,24] true) (.cut [6] [] (.seq .d (.blk (.loop [6,25,26,27] [] .d))) .d))))),⟨[],gl,true⟩,[(167,(.seq .d (.cut [0,1] [] .d .d)))],f129⟩
def t14(a:List LB)(g:Int)(f:LB):S:=⟨[(6,.own 0),(25,.val (.list (.list (.int .u8))) a),(26,vi (Ac a)),(27,vi g)],[Ab 5 f],[]⟩
def z14:Nat->S->Option R_:=H.i P_ [r,r,r,r,l,r,d]
def t9(a:List LB)(b h:Int):S:=⟨[(0,.val (.list (.list (.int .u8))) a),(3,vi b),(9,.val (.list (.list (.int .u8))) a),(10,vi (Ac a)),(11,vi h)],[],[]⟩
def z9:Nat->S->Option R_:=H.i P_ [r,r,l,r,d]
def x16(f:LB):Option R_:=H.e P_ [r,r,r,r,r] ⟨[(6,.own 0)],[Ab 5 f],[]⟩
def x14(a:List LB)(g:Int)(f:LB):Option R_:=H.e P_ [r,r,r,r,l,r,d] (t14 a g f)
def x13(a:List LB)(k:LB):Option R_:=H.e P_ [r,r,r,r] ⟨[(0,.val (.list (.list (.int .u8))) a),(6,.own 0)],[Ab 5 k],[]⟩
def x12(b:Int)(a:List LB):Option R_:=H.e P_ [r,r,r,l,(call 1 167),r,r] ⟨[(0,.nils),(1,vi b)],[],[[(0,.val (.list (.list (.int .u8))) a),(3,vi b),(23,vi b)]]⟩
def x11(a:List LB)(b:Int):Option R_:=H.e P_ [r,r,r] ⟨[(0,.val (.list (.list (.int .u8))) a),(3,vi b)],[],[]⟩
def x9(a:List LB)(b h:Int):Option R_:=H.e P_ [r,r,l,r,d] (t9 a b h)
theorem e16:x16=Zc:=by kernel_rfl
theorem i14(a:List LB):∀(q:Nat) (g:Int) (f:LB),z14 q (t14 a g f)=Eu a q g f:=
 ind (λ_ _=>by kernel_rfl) λq ih g f=>Eq.trans (b:=Gw x16 (λg f=>(z14 q) (t14 a g f)) a g f) (by kernel_rfl) (by simp only[e16,ih]<;>rfl)
theorem e14:x14=Oy:=by funext a g f;exact Eq.trans (by kernel_rfl) ((i14 a Dz g f).trans (by rw[Bf];rfl))
theorem e13:x13=Jw:=Eq.trans (b:=Pc x14) (by kernel_rfl) (by simp only[e14]<;>rfl)
theorem e12:x12=Oz:=Eq.trans (b:=Pm x13) (by kernel_rfl) (by simp only[e13]<;>rfl)
theorem e11:x11=Pa:=Eq.trans (b:=Pq x12) (by kernel_rfl) (by simp only[e12]<;>rfl)
theorem i9(a:List LB):∀(q:Nat) (b h:Int),z9 q (t9 a b h)=Fg a q b h:=
 ind (λ_ _=>by kernel_rfl) λq ih b h=>Eq.trans (b:=Hq x11 (λb h=>(z9 q) (t9 a b h)) a b h) (by kernel_rfl) (by simp only[e11,ih]<;>rfl)
theorem e9:x9=Qj:=by funext a b h;exact Eq.trans (by kernel_rfl) ((i9 a Dz b h).trans (by rw[Bf];rfl))
def F:=Nn
theorem rn x:H.u P_ x=F x:=Eq.trans (b:=Qk x9 x) (by kernel_rfl) (by simp only[e9]<;>rfl)
def c:Con:=⟨H.p,H.r,F⟩
theorem ok:ConOk P_ gl 129 c:=cr H func129 .nil (Eg.cons ent167 Eg.nil) rn
end F129
namespace F87
abbrev R_:=(LB×Int)
abbrev K_:=S->Option R_
def H:Hd:=⟨[.agg [Si,Si],.lf (.vec 16 (.int .i32)) none,Sw],[Ob 5,Si],(.seq .d (.seq .d (.seq .d (.seq .d (.seq .d (.cut [11] [] (.seq .d (.blk (.loop [3,10,11,30,31,32] [⟨11,[0],.own 5 (.int .u8)⟩] (.seq .d (.seq .d (.cut [3,10,11,30,31,32] [] (.blk (.seq .d (.seq .d (.seq .d (.seq .d (.keep [3,10,11,14,30,31,32,59] true)))))) .d)))))) .d)))))),⟨[(90,F90.c),(91,F91.c),(125,F125.c),(126,F126.c),(127,F127.c),(129,F129.c)],gl,false⟩,[(128,(.seq .d (.seq .d (.blk (.loop [0,3,7,8] [] (.seq .d (.seq .d (.seq (.blk (.seq .d (.cut [0,3,4,7,8] [] .d (.seq .d (.cut [0,3,7,8] [] .d .d))))) .d))))))))],f87⟩
def t44(a:LU)(b f h g:Int)(k:List (Int×Int×UInt64×UInt64×Unit))(m:LB)(o n:Int)(v:LB):S:=⟨[(0,.ptr 0 []),(3,.ptr 1 []),(7,vi h),(8,vi o)],[.box 188 (.agg [.own 7,vi n]),.box 188 (.agg [.own 6,vi h]),.box 74 (.agg [vi b,vi f]),.box 185 (.val (.vec 6 (.cons (.int .i64) (.cons (.int .i64) (.cons (.int .u64) (.cons (.int .u64) .nil))))) k),.box 188 (.agg [.own 6,vi h]),Av 60 a,Ab 5 m,Ab 5 v],[[(3,.ptr 2 []),(10,.ptr 3 []),(11,.ptr 0 []),(14,.ptr 4 []),(30,.own 5),(31,vi (Ac a)),(32,vi g),(59,.agg [.own 6,vi h])]]⟩
def z44(Ms:K_):Nat->S->Option R_:=H.i P_ [r,r,r,r,r,l,r,d,(lp Ms),r,r,l,d,r,r,r,r,(call 1 128),r,r,d]
def t27(a:LU)(b f g:Int)(w:List (Int×Int×UInt64×UInt64×Unit))(u:Int)(p:LB):S:=⟨[(3,.ptr 0 []),(10,.ptr 1 []),(11,.ptr 2 []),(30,.own 3),(31,vi (Ac a)),(32,vi g)],[.box 74 (.agg [vi b,vi f]),.box 185 (.val (.vec 6 (.cons (.int .i64) (.cons (.int .i64) (.cons (.int .u64) (.cons (.int .u64) .nil))))) w),.box 188 (.agg [.own 4,vi u]),Av 60 a,Ab 5 p],[]⟩
def z27:Nat->S->Option R_:=H.i P_ [r,r,r,r,r,l,r,d]
def x52(u:Int)(p:LB):Option R_:=H.e P_ [r,r,r,r,r,r] ⟨[(11,.ptr 0 [])],[.box 188 (.agg [.own 1,vi u]),Ab 5 p],[]⟩
def x50(Ms:K_)(a:LU)(b f g:Int)(k:List (Int×Int×UInt64×UInt64×Unit))(n:Int)(v:LB):Option R_:=H.e P_ [r,r,r,r,r,l,r,d,(lp Ms),r,r,r] ⟨[(3,.ptr 0 []),(10,.ptr 1 []),(11,.ptr 2 []),(30,.own 3),(31,vi (Ac a)),(32,vi g)],[.box 74 (.agg [vi b,vi f]),.box 185 (.val (.vec 6 (.cons (.int .i64) (.cons (.int .i64) (.cons (.int .u64) (.cons (.int .u64) .nil))))) k),.box 188 (.agg [.own 4,vi n]),Av 60 a,Ab 5 v],[]⟩
def x48(Ms eC:K_)(h:Int)(a:LU)(g b f:Int)(k:List (Int×Int×UInt64×UInt64×Unit))(m:LB)(o n:Int)(aa:LB):Option R_:=H.e P_ [r,r,r,r,r,l,r,d,(lp Ms),r,r,l,d,r,r,r,r,(call 1 128),r,r,d,(lp eC),r,r,l,d,r,r,r,r] ⟨[(0,.ptr 0 []),(3,.ptr 1 []),(7,vi h),(8,vi o)],[.box 188 (.agg [.own 7,vi n]),.box 188 (.agg [.own 6,vi h]),.box 74 (.agg [vi b,vi f]),.box 185 (.val (.vec 6 (.cons (.int .i64) (.cons (.int .i64) (.cons (.int .u64) (.cons (.int .u64) .nil))))) k),.box 188 (.agg [.own 6,vi h]),Av 60 a,Ab 5 m,Ab 5 aa],[[(3,.ptr 2 []),(10,.ptr 3 []),(11,.ptr 0 []),(14,.ptr 4 []),(30,.own 5),(31,vi (Ac a)),(32,vi g),(59,.agg [.own 6,vi h])]]⟩
def x47(Ms eC:K_)(h:Int)(a:LU)(g b f:Int)(k:List (Int×Int×UInt64×UInt64×Unit))(m:LB)(o n:Int)(y:LB):Option R_:=H.e P_ [r,r,r,r,r,l,r,d,(lp Ms),r,r,l,d,r,r,r,r,(call 1 128),r,r,d,(lp eC),r,r,l,d,r,r] ⟨[(0,.ptr 0 []),(3,.ptr 1 []),(4,vi o),(7,vi h),(8,vi o)],[.box 188 (.agg [.own 7,vi n]),.box 188 (.agg [.own 6,vi h]),.box 74 (.agg [vi b,vi f]),.box 185 (.val (.vec 6 (.cons (.int .i64) (.cons (.int .i64) (.cons (.int .u64) (.cons (.int .u64) .nil))))) k),.box 188 (.agg [.own 6,vi h]),Av 60 a,Ab 5 m,Ab 5 y],[[(3,.ptr 2 []),(10,.ptr 3 []),(11,.ptr 0 []),(14,.ptr 4 []),(30,.own 5),(31,vi (Ac a)),(32,vi g),(59,.agg [.own 6,vi h])]]⟩
def x44(Ms:K_)(a:LU)(b f h g:Int)(k:List (Int×Int×UInt64×UInt64×Unit))(m:LB)(o n:Int)(v:LB):Option R_:=H.e P_ [r,r,r,r,r,l,r,d,(lp Ms),r,r,l,d,r,r,r,r,(call 1 128),r,r,d] (t44 a b f h g k m o n v)
def x27(a:LU)(b f g:Int)(w:List (Int×Int×UInt64×UInt64×Unit))(u:Int)(p:LB):Option R_:=H.e P_ [r,r,r,r,r,l,r,d] (t27 a b f g w u p)
theorem e52:x52=FC:=by kernel_rfl
theorem e50(Ms:K_)(a:LU)(b f:Int):x50 Ms a b f=EE (λg w u p=>Ms (t27 a b f g w u p)) a b f:=by kernel_rfl
theorem e48(Ms eC:K_)(a:LU)(b f h g:Int)(k:List (Int×Int×UInt64×UInt64×Unit))(m:LB):x48 Ms eC h a g b f k m=EI (λo n v=>eC (t44 a b f h g k m o n v)) h a g b f k m:=by kernel_rfl
theorem e47(Ms eC:K_)(a:LU)(b f h g:Int)(k:List (Int×Int×UInt64×UInt64×Unit))(m:LB):x47 Ms eC h a g b f k m=Wg (λo n v=>eC (t44 a b f h g k m o n v)) h a g b f k m:=Eq.trans (b:=EN (x48 Ms eC h a g b f k m) h a g b f k m) (by kernel_rfl) (by simp only[e48]<;>rfl)
theorem i44(Ms:K_)(a:LU)(b f h g:Int)(k:List (Int×Int×UInt64×UInt64×Unit))(m:LB):∀(q:Nat) (o n:Int) (v:LB),z44 Ms q (t44 a b f h g k m o n v)=Hm (λg w u p=>Ms (t27 a b f g w u p)) a b f h g k m q o n v:=
 ind (λ_ _ _=>by kernel_rfl) λq ih o n v=>Eq.trans (b:=Wk (x47 Ms (z44 Ms q) h a g b f k m) (x50 Ms a b f) a b f h g k m o n v) (by kernel_rfl) (by simp only[e47,e50,ih]<;>rfl)
theorem e44(Ms:K_)(a:LU)(b f:Int):x44 Ms a b f=YC (λg w u p=>Ms (t27 a b f g w u p)) a b f:=by funext h g k m o n v;exact Eq.trans (by kernel_rfl) ((i44 Ms a b f h g k m Dz o n v).trans (by rw[Bf];rfl))
theorem i27(a:LU)(b f:Int):∀(q:Nat) (g:Int) (w:List (Int×Int×UInt64×UInt64×Unit)) (u:Int) (p:LB),z27 q (t27 a b f g w u p)=Jm a b f q g w u p:=
 ind (λ_ _ _ _=>by kernel_rfl) λq ih g w u p=>Eq.trans (b:=Wi (x44 (z27 q) a b f) x52 a b f g w u p) (by kernel_rfl) (by simp only[e44,e52,ih]<;>rfl)
theorem e27:x27=ES:=by funext a b f g w u p;exact Eq.trans (by kernel_rfl) ((i27 a b f Dz g w u p).trans (by rw[Bf];rfl))
def F:=u4 Vy
theorem rn x:H.u P_ x=F x:=Eq.trans (b:=u4 (JK x27) x) (by kernel_rfl) (by simp only[e27]<;>rfl)
def c:Con:=⟨H.p,H.r,F⟩
theorem ok:ConOk P_ gl 87 c:=cr H func87 (.cons F90.ok (.cons F91.ok (.cons F125.ok (.cons F126.ok (.cons F127.ok (.cons F129.ok .nil)))))) (Eg.cons ent128 Eg.nil) rn
end F87
theorem T5:ConOk Tryz.prog gl 39 cP:=Z8 F84.ok F85.ok F101.ok F87.ok F88.ok
namespace F98
abbrev R_:=Bool
def H:Hd:=⟨[.agg [Si,Si,Si,Si,Si]],[Sz],(.seq .d (.cut [1] [] .d .d)),⟨[],gl,false⟩,[],f98⟩
def x2(b f a g h:Int):Option R_:=H.e P_ [r,r] ⟨[(1,.ptr 0 [])],[.box 32 (.agg [vi b,vi f,vi a,vi g,vi h])],[]⟩
theorem e2:x2=Pz:=by kernel_rfl
def F:=u5 Tv
theorem rn x:H.u P_ x=F x:=Eq.trans (b:=u5 (BH x2) x) (by kernel_rfl) (by simp only[e2]<;>rfl)
def c:Con:=⟨H.p,H.r,F⟩
theorem ok:ConOk P_ gl 98 c:=co H func98 .nil rn
end F98
namespace F99
def H:Hd:=⟨[.agg [Si,Si,Si,Si,Si]],[Sz],.d,⟨[(117,F117.c)],gl,false⟩,[],f99⟩
def F:=u5 PW
theorem rn x:H.u P_ x=F x:=by kernel_rfl
def c:Con:=⟨H.p,H.r,F⟩
theorem ok:ConOk P_ gl 99 c:=co H func99 (.cons F117.ok .nil) rn
end F99
namespace F89
def H:Hd:=⟨[.agg [Si,Si,Si,Si,Si]],[Si],.d,⟨[(98,F98.c),(99,F99.c)],gl,false⟩,[],f89⟩
def F:=u5 Pf
theorem rn x:H.u P_ x=F x:=by kernel_rfl
def c:Con:=⟨H.p,H.r,F⟩
theorem ok:ConOk P_ gl 89 c:=co H func89 (.cons F98.ok (.cons F99.ok .nil)) rn
end F89
namespace F40
abbrev R_:=(LB×Int)
def H:Hd:=⟨[.agg [Si,Si,Si,Si,Si]],[Ob 5,Si],(.seq .d (.seq .d (.seq .d (.cut [5] [] (.seq .d (.blk (.loop [5,31,32] [] .d))) .d)))),⟨[(89,F89.c),(90,F90.c),(91,F91.c)],gl,false⟩,[],f40⟩
def t4(b f g h k m:Int)(a:LB):S:=⟨[(5,.own 0),(31,.val (.vec 5 (.int .i64)) ([b,f,g,h,k]:LI)),(32,vi m)],[Ab 5 a],[]⟩
def z4:Nat->S->Option R_:=H.i P_ [r,r,r,l,r,d]
def x6(a:LB):Option R_:=H.e P_ [r,r,r,r] ⟨[(5,.own 0)],[Ab 5 a],[]⟩
def x4(b f g h k m:Int)(a:LB):Option R_:=H.e P_ [r,r,r,l,r,d] (t4 b f g h k m a)
theorem e6:x6=ED:=by kernel_rfl
theorem i4(b f g h k:Int):∀(q:Nat) (m:Int) (a:LB),z4 q (t4 b f g h k m a)=Nz b f g h k q m a:=
 ind (λ_ _=>by kernel_rfl) λq ih m a=>Eq.trans (b:=DT x6 (λm a=>(z4 q) (t4 b f g h k m a)) b f g h k m a) (by kernel_rfl) (by simp only[e6,ih]<;>rfl)
theorem e4:x4=SR:=by funext b f g h k m a;exact Eq.trans (by kernel_rfl) ((i4 b f g h k Dz m a).trans (by rw[Bf];rfl))
def F:=u5 VK
theorem rn x:H.u P_ x=F x:=Eq.trans (b:=u5 (TZ x4) x) (by kernel_rfl) (by simp only[e4]<;>rfl)
def c:Con:=⟨H.p,H.r,F⟩
theorem ok:ConOk P_ gl 40 c:=co H func40 (.cons F89.ok (.cons F90.ok (.cons F91.ok .nil))) rn
end F40
namespace F92
def H:Hd:=⟨[Ss],[Sq,Si],.d,⟨[(122,F122.c)],gl,false⟩,[],f92⟩
def F:=zG
theorem rn x:H.u P_ x=F x:=by kernel_rfl
def c:Con:=⟨H.p,H.r,F⟩
theorem ok:ConOk P_ gl 92 c:=co H func92 (.cons F122.ok .nil) rn
end F92
namespace F41
def H:Hd:=⟨[Ss],[Ob 5,Si],.d,⟨[(90,F90.c),(92,F92.c)],gl,false⟩,[],f41⟩
def F:=JP
theorem rn x:H.u P_ x=F x:=by kernel_rfl
def c:Con:=⟨H.p,H.r,F⟩
theorem ok:ConOk P_ gl 41 c:=co H func41 (.cons F90.ok (.cons F92.ok .nil)) rn
end F41
namespace F93
abbrev R_:=Int
def H:Hd:=⟨[Sl],[Si],(.seq .d (.seq .d (.seq .d (.cut [] [] (.seq .d (.blk (.loop [3,14,15,16] [] .d))) .d)))),⟨[],gl,false⟩,[],f93⟩
def t4(a:LI)(f b:Int):S:=⟨[(3,vi f),(14,vl a),(15,vi (Ac a)),(16,vi b)],[],[]⟩
def z4:Nat->S->Option R_:=H.i P_ [r,r,r,l,r,d]
def x6:Option R_:=H.e P_ [r,r,r,r] ⟨[],[],[]⟩
def x4(a:LI)(f b:Int):Option R_:=H.e P_ [r,r,r,l,r,d] (t4 a f b)
theorem e6:x6=pI:=by kernel_rfl
theorem i4(a:LI):∀(q:Nat) (f b:Int),z4 q (t4 a f b)=Vs a q f b:=
 ind (λ_ _=>by kernel_rfl) λq ih f b=>Eq.trans (b:=JX x6 (λf b=>(z4 q) (t4 a f b)) a f b) (by kernel_rfl) (by simp only[e6,ih]<;>rfl)
theorem e4:x4=XA:=by funext a f b;exact Eq.trans (by kernel_rfl) ((i4 a Dz f b).trans (by rw[Bf];rfl))
def F:=Pr
theorem rn x:H.u P_ x=F x:=Eq.trans (b:=JJ x4 x) (by kernel_rfl) (by simp only[e4]<;>rfl)
def c:Con:=⟨H.p,H.r,F⟩
theorem ok:ConOk P_ gl 93 c:=co H func93 .nil rn
end F93
namespace F42
abbrev R_:=(LB×Int)
abbrev K_:=S->Option R_
def H:Hd:=⟨[Sl],[Ob 5,Si],(.seq .d (.seq .d (.seq .d (.seq .d (.cut [5,6] [] (.seq .d (.blk (.loop [5,6,17,18,19] [⟨5,[],.own 5 (.int .u8)⟩,⟨6,[0],.own 5 (.int .u8)⟩] (.seq .d (.seq .d (.cut [5,6,17,18,19] [] (.blk (.seq .d (.keep [5,6,8,17,18,19,23,24,25] true))) .d)))))) (.seq .d (.cut [5] [] (.keep [5,6,9,33,34,35] true) .d))))))),⟨[(90,F90.c),(91,F91.c),(93,F93.c)],gl,false⟩,[(94,.d)],f42⟩
def t8(a:LI)(f:Int)(b:LB):S:=⟨[(5,.ptr 0 []),(6,.fn 94 [.ptr 0 []]),(17,vl a),(18,vi (Ac a)),(19,vi f)],[.box 27 (.own 1),Ab 5 b],[]⟩
def z8:Nat->S->Option R_:=H.i P_ [r,r,r,r,l,r,d]
def x14(g:LB):Option R_:=H.e P_ [r,r,r,r,r,r,r] ⟨[(5,.ptr 0 [])],[.box 27 (.own 1),Ab 5 g],[]⟩
def x13(b:LB):Option R_:=H.e P_ [r,r,r,r,r] ⟨[(5,.ptr 0 []),(6,.fn 94 [.ptr 0 []])],[.box 27 (.own 1),Ab 5 b],[]⟩
def x11(kn8:K_)(a:LI)(f:Int)(h:LB):Option R_:=H.e P_ [r,r,r,r,l,r,d,(lp kn8),r,r,r] ⟨[(5,.ptr 0 []),(6,.fn 94 [.ptr 0 []]),(17,vl a),(18,vi (Ac a)),(19,vi f)],[.box 27 (.own 1),Ab 5 h],[]⟩
def x8(a:LI)(f:Int)(b:LB):Option R_:=H.e P_ [r,r,r,r,l,r,d] (t8 a f b)
theorem e14:x14=kV:=by kernel_rfl
theorem e13:x13=TP:=Eq.trans (b:=TE x14) (by kernel_rfl) (by simp only[e14]<;>rfl)
theorem e11(kn8:K_)(a:LI):x11 kn8 a=TW (λf b=>kn8 (t8 a f b)) a:=by kernel_rfl
theorem i8(a:LI):∀(q:Nat) (f:Int) (b:LB),z8 q (t8 a f b)=Vo a q f b:=
 ind (λ_ _=>by kernel_rfl) λq ih f b=>Eq.trans (b:=HW (x11 (z8 q) a) x13 a f b) (by kernel_rfl) (by simp only[e11,e13,ih]<;>rfl)
theorem e8:x8=pD:=by funext a f b;exact Eq.trans (by kernel_rfl) ((i8 a Dz f b).trans (by rw[Bf];rfl))
def F:=aP
theorem rn x:H.u P_ x=F x:=Eq.trans (b:=aE x8 x) (by kernel_rfl) (by simp only[e8]<;>rfl)
def c:Con:=⟨H.p,H.r,F⟩
theorem ok:ConOk P_ gl 42 c:=cr H func42 (.cons F90.ok (.cons F91.ok (.cons F93.ok .nil))) (Eg.cons ent94 Eg.nil) rn
end F42
namespace F44
def H:Hd:=⟨[Sb],[Si],.d,⟨[],gl,false⟩,[],f44⟩
def F:=dI
theorem rn x:H.u P_ x=F x:=by kernel_rfl
def c:Con:=⟨H.p,H.r,F⟩
theorem ok:ConOk P_ gl 44 c:=co H func44 .nil rn
end F44
namespace F45
abbrev R_:=LB
def H:Hd:=⟨[.lf (.list (.list (.int .u8))) none],[Ob 5],(.seq .d (.seq .d (.cut [3] [] (.seq .d (.blk (.loop [3,6,7,8] [⟨3,[],.own 5 (.int .u8)⟩] .d))) .d))),⟨[],gl,false⟩,[],f45⟩
def t4(b:List LB)(f:Int)(a:LB):S:=⟨[(3,.own 0),(6,.val (.list (.list (.int .u8))) b),(7,vi (Ac b)),(8,vi f)],[Ab 5 a],[]⟩
def z4:Nat->S->Option R_:=H.i P_ [r,r,l,r,d]
def x6(a:LB):Option R_:=H.e P_ [r,r,r] ⟨[(3,.own 0)],[Ab 5 a],[]⟩
def x4(b:List LB)(f:Int)(a:LB):Option R_:=H.e P_ [r,r,l,r,d] (t4 b f a)
theorem e6:x6=oP:=by kernel_rfl
theorem i4(b:List LB):∀(q:Nat) (f:Int) (a:LB),z4 q (t4 b f a)=Ut b q f a:=
 ind (λ_ _=>by kernel_rfl) λq ih f a=>Eq.trans (b:=IC x6 (λf a=>(z4 q) (t4 b f a)) b f a) (by kernel_rfl) (by simp only[e6,ih]<;>rfl)
theorem e4:x4=nS:=by funext b f a;exact Eq.trans (by kernel_rfl) ((i4 b Dz f a).trans (by rw[Bf];rfl))
def F:=nI
theorem rn x:H.u P_ x=F x:=Eq.trans (b:=qO x4 x) (by kernel_rfl) (by simp only[e4]<;>rfl)
def c:Con:=⟨H.p,H.r,F⟩
theorem ok:ConOk P_ gl 45 c:=co H func45 .nil rn
end F45
namespace F10
abbrev R_:=(LB×Int)
abbrev K_:=S->Option R_
def H:Hd:=⟨[.agg [Si,Si,Si,Sw],Ss],[Ob 5,Si],(.seq .d (.seq .d (.seq .d (.seq .d (.seq .d (.seq .d (.seq .d (.seq .d (.cut [8,9,10] [⟨10,[],.own 5 (.int .u8)⟩] .d (.cut [7,8,9,10,11] [] (.keep [7,8,9,10,11,46,48,49,50,51] true) .d)))))))))),⟨[(38,F38.c),(39,cP),(40,F40.c),(41,F41.c),(42,F42.c),(44,F44.c),(45,F45.c)],gl,false⟩,[(43,(.seq .d (.seq .d (.cut [5] [] (.seq .d (.blk (.loop [1,5,11,12,13] [] (.seq .d (.seq .d (.cut [1,5,11,12,13] [] .d .d)))))) .d))))],f10⟩
def t9(a:List LB)(b f:LB)(g:Int)(h:LI):S:=⟨[(1,.fn 44 []),(5,.own 0),(11,.own 1),(12,vi (Ac a)),(13,vi g)],[Ai 3 h,.arr 27 (.list (.int .u8)) a,Ab 5 b,Ab 5 f],[[(8,.own 1),(9,.own 2),(10,.own 3)]]⟩
def z9:Nat->S->Option R_:=H.i P_ [r,r,r,r,r,r,r,r,r,l,(call 1 43),r,r,l,r,d]
def x14(k:Int)(a:List LB)(b f n:LB):Option R_:=H.e P_ [r,r,r,r,r,r,r,r,r,r] ⟨[(7,vi k),(8,.own 0),(9,.own 1),(10,.own 2),(11,.own 3)],[.arr 27 (.list (.int .u8)) a,Ab 5 b,Ab 5 f,Ab 5 n],[]⟩
def x13(h:LI)(a:List LB)(b f:LB):Option R_:=H.e P_ [r,r,r,r,r,r,r,r,r,l,(call 1 43),r,r,r] ⟨[(5,.own 0)],[Ai 3 h,.arr 27 (.list (.int .u8)) a,Ab 5 b,Ab 5 f],[[(8,.own 1),(9,.own 2),(10,.own 3)]]⟩
def x11(kn9:K_)(a:List LB)(b f:LB)(g:Int)(m:LI):Option R_:=H.e P_ [r,r,r,r,r,r,r,r,r,l,(call 1 43),r,r,l,r,d,(lp kn9),r,r,r] ⟨[(1,.fn 44 []),(5,.own 0),(11,.own 1),(12,vi (Ac a)),(13,vi g)],[Ai 3 m,.arr 27 (.list (.int .u8)) a,Ab 5 b,Ab 5 f],[[(8,.own 1),(9,.own 2),(10,.own 3)]]⟩
def x9(a:List LB)(b f:LB)(g:Int)(h:LI):Option R_:=H.e P_ [r,r,r,r,r,r,r,r,r,l,(call 1 43),r,r,l,r,d] (t9 a b f g h)
def x8(a:List LB)(b f:LB):Option R_:=H.e P_ [r,r,r,r,r,r,r,r,r] ⟨[(8,.own 0),(9,.own 1),(10,.own 2)],[.arr 27 (.list (.int .u8)) a,Ab 5 b,Ab 5 f],[]⟩
theorem e14:x14=TA:=by kernel_rfl
theorem e13:x13=Xl:=Eq.trans (b:=TH x14) (by kernel_rfl) (by simp only[e14]<;>rfl)
theorem e11(kn9:K_)(a:List LB)(b f:LB):x11 kn9 a b f=TK (λg h=>kn9 (t9 a b f g h)) a b f:=by kernel_rfl
theorem i9(a:List LB)(b f:LB):∀(q:Nat) (g:Int) (h:LI),z9 q (t9 a b f g h)=Vg a b f q g h:=
 ind (λ_ _=>by kernel_rfl) λq ih g h=>Eq.trans (b:=IE (x11 (z9 q) a b f) x13 a b f g h) (by kernel_rfl) (by simp only[e11,e13,ih]<;>rfl)
theorem e9:x9=qB:=by funext a b f g h;exact Eq.trans (by kernel_rfl) ((i9 a b f Dz g h).trans (by rw[Bf];rfl))
theorem e8:x8=KJ:=Eq.trans (b:=YI x9) (by kernel_rfl) (by simp only[e9]<;>rfl)
def F:=u5 SL
theorem rn x:H.u P_ x=F x:=Eq.trans (b:=u5 (XS x8) x) (by kernel_rfl) (by simp only[e8]<;>rfl)
def c:Con:=⟨H.p,H.r,F⟩
theorem ok:ConOk P_ gl 10 c:=cr H func10 (.cons F38.ok (.cons T5 (.cons F40.ok (.cons F41.ok (.cons F42.ok (.cons F44.ok (.cons F45.ok .nil))))))) (Eg.cons ent43 Eg.nil) rn
end F10
namespace F73
def H:Hd:=⟨[],[Ob 5,Sz],.d,⟨[(10,F10.c)],gl,false⟩,[],f73⟩
noncomputable def F(x:Unit):=ZI
theorem rn x:H.u P_ x=F x:=by kernel_rfl
def c:Con:=⟨H.p,H.r,F⟩
theorem ok:ConOk P_ gl 73 c:=co H func73 (.cons F10.ok .nil) rn
end F73
namespace F100
def H:Hd:=⟨[Sb,Sb],[Sz],.d,⟨[],gl,false⟩,[],f100⟩
def F:=u2 Iq
theorem rn x:H.u P_ x=F x:=by kernel_rfl
def c:Con:=⟨H.p,H.r,F⟩
theorem ok:ConOk P_ gl 100 c:=co H func100 .nil rn
end F100
namespace F145
def H:Hd:=⟨[Sb,Sb],[Sz],.d,⟨[(100,F100.c)],gl,false⟩,[],f145⟩
def F:=u2 Nv
theorem rn x:H.u P_ x=F x:=by kernel_rfl
def c:Con:=⟨H.p,H.r,F⟩
theorem ok:ConOk P_ gl 145 c:=co H func145 (.cons F100.ok .nil) rn
end F145
namespace F195
abbrev R_:=(Int×Int)
def H:Hd:=⟨[Sb],[Si,Si],(.seq .d (.seq .d (.seq .d (.cut [4] [] (.seq .d (.blk (.loop [4,10,11,12] [] .d))) .d)))),⟨[],gl,false⟩,[],f195⟩
def t4(a:LB)(b f:Int):S:=⟨[(4,vi b),(10,vb a),(11,vi (Ac a)),(12,vi f)],[],[]⟩
def z4:Nat->S->Option R_:=H.i P_ [r,r,r,l,r,d]
def x6(b:Int):Option R_:=H.e P_ [r,r,r,r] ⟨[(4,vi b)],[],[]⟩
def x4(a:LB)(b f:Int):Option R_:=H.e P_ [r,r,r,l,r,d] (t4 a b f)
theorem e6:x6=gO:=by kernel_rfl
theorem i4(a:LB):∀(q:Nat) (b f:Int),z4 q (t4 a b f)=Py a q b f:=
 ind (λ_ _=>by kernel_rfl) λq ih b f=>Eq.trans (b:=BJ x6 (λb f=>(z4 q) (t4 a b f)) a b f) (by kernel_rfl) (by simp only[e6,ih]<;>rfl)
theorem e4:x4=NZ:=by funext a b f;exact Eq.trans (by kernel_rfl) ((i4 a Dz b f).trans (by rw[Bf];rfl))
def F:=PM
theorem rn x:H.u P_ x=F x:=Eq.trans (b:=OP x4 x) (by kernel_rfl) (by simp only[e4]<;>rfl)
def c:Con:=⟨H.p,H.r,F⟩
theorem ok:ConOk P_ gl 195 c:=co H func195 .nil rn
end F195
namespace F169
def NH(j5:LB->UInt8->UInt8->Option (Int×Int))(a:LB):Option (Int×Int):=
(Nv a ([(73:UInt8),(68:UInt8),(51:UInt8)]:LB)).bind λn=>
if(!n)then
some (0,6)
else
if(Cj (Ac a) 10)then
some (0,24)
else
(Ao a 3).bind λf=>
(Ao a 5).bind λb=>
(λo:Option (Int×Int)=>
(λp:Option (Int×Int)=>
both (
both (
bo (
j5 a f b)) [
o,
o]) [
bo2 (
bo (
j5 a f b)),
p,
p]) (
both (
o) [
bo (
j5 a f b),
both (
bo (
j5 a f b)) [
j5 a f b]])) (
both (
j5 a f b) [
bo (
j5 a f b)])
theorem sI: @NH= @EA:=by
  unfold NH EA
  try simp only[eY,NW,OM]
  all_goals
    repeat (refine funext λ_=>?_)
    repeat' first
      |with_reducible rfl
      |with_reducible refine Oo ?_ ?_
      |with_reducible refine Oi ?_ ?_ ?_
      |with_reducible refine Og ?_ ?_ ?_ ?_
      |((with_reducible refine Uf ?_ ?_);focus (intro h;first|(subst h;rfl)|(simp only[h];rfl)|(simp[Et,Ac,h];done)))
      |with_reducible refine Uh λx=>?_
      |with_reducible refine CR (λ_=>?_) (λ_=>?_)
      |(refine Ij (λh=>by simp only[h,Ub,Fm,Fa,ite_self]) (λx h=>?_);(try simp only[h,Fm]))
      |(refine Lf (λh=>?_) (λh=>?_)<;>simp only[h,if_true,if_false,Bool.false_eq_true])
abbrev R_:=(Int×Int)
def H:Hd:=⟨[Sb],[Si,Si],(.seq .d (.seq .d (.seq .d (.cut [0,4,5] [] (.mode false) (.seq .d (.seq .d (.cut [0,5,6] [] (.cut [0,5,6,43] [] (.keep [0,5,6,7,8,31,32,33,34,35,36,37,38,39,40,41,42,43] true) .d) (.seq .d (.cut [0,5,6] [] .d .d))))))))),⟨[(100,F100.c),(145,F145.c),(195,F195.c)],gl,false⟩,[(196,.d)],f169⟩
def x8(a:LB)(b:UInt8)(h:Int):Option R_:=H.e P_ [r,r,r,r,r,r,r,r,r] ⟨[(0,vb a),(5,.ptr 0 []),(6,vi h)],[.box 5 (vc b)],[]⟩
def x7(a:LB)(g:Int)(b:UInt8):Option R_:=H.e P_ [r,r,r,r,r,r,r] ⟨[(0,vb a),(5,.ptr 0 []),(6,vi g)],[.box 5 (vc b)],[]⟩
def x6(a:LB)(g:Int)(b:UInt8)(m:Bool):Option R_:=H.e P_ [r,r,r,r,r,r,l,r] ⟨[(0,vb a),(5,.ptr 0 []),(6,vi g),(43,vt m)],[.box 5 (vc b)],[]⟩
def x5(a:LB)(f b:UInt8):Option R_:=H.e P_ [r,r,r,r] ⟨[(0,vb a),(4,.ptr 0 []),(5,.ptr 1 [])],[.box 5 (vc f),.box 5 (vc b)],[]⟩
theorem e8:x8=DV:=by kernel_rfl
theorem e7:x7=DZ:=Eq.trans (b:=SO x8) (by kernel_rfl) (by simp only[e8]<;>rfl)
theorem e6:x6=SZ:=Eq.trans (b:=SP x7) (by kernel_rfl) (by simp only[e7]<;>rfl)
theorem e5:x5=SQ:=Eq.trans (b:=TF x6) (by kernel_rfl) (by simp only[e6]<;>rfl)
def F:=VF
theorem rn x:H.u P_ x=F x:=Eq.trans (b:=NH x5 x) (by kernel_rfl) (by unfold F;rw[sI];simp only[e5]<;>rfl)
def c:Con:=⟨H.p,H.r,F⟩
theorem ok:ConOk P_ gl 169 c:=cr H func169 (.cons F100.ok (.cons F145.ok (.cons F195.ok .nil))) (Eg.cons ent196 Eg.nil) rn
end F169
namespace F135
abbrev R_:=(UInt64×Int)
def H:Hd:=⟨[Sb],[Sq,Si],(.seq .d (.seq .d (.seq .d (.cut [4] [] (.seq .d (.blk (.loop [4,15,16,17] [] .d))) .d)))),⟨[],gl,false⟩,[],f135⟩
def t4(a:LB)(b:UInt64)(f:Int):S:=⟨[(4,vq b),(15,vb a),(16,vi (Ac a)),(17,vi f)],[],[]⟩
def z4:Nat->S->Option R_:=H.i P_ [r,r,r,l,r,d]
def x6(b:UInt64):Option R_:=H.e P_ [r,r,r,r] ⟨[(4,vq b)],[],[]⟩
def x4(a:LB)(b:UInt64)(f:Int):Option R_:=H.e P_ [r,r,r,l,r,d] (t4 a b f)
theorem e6:x6=J7:=by kernel_rfl
theorem i4(a:LB):∀(q:Nat) (b:UInt64) (f:Int),z4 q (t4 a b f)=FW a q b f:=
 ind (λ_ _=>by kernel_rfl) λq ih b f=>Eq.trans (b:=cI x6 (λb f=>(z4 q) (t4 a b f)) a b f) (by kernel_rfl) (by simp only[e6,ih]<;>rfl)
theorem e4:x4=nX:=by funext a b f;exact Eq.trans (by kernel_rfl) ((i4 a Dz b f).trans (by rw[Bf];rfl))
def F:=nO
theorem rn x:H.u P_ x=F x:=Eq.trans (b:=oT x4 x) (by kernel_rfl) (by simp only[e4]<;>rfl)
def c:Con:=⟨H.p,H.r,F⟩
theorem ok:ConOk P_ gl 135 c:=co H func135 .nil rn
end F135
namespace F97
def H:Hd:=⟨[Sb,Si,Si],[Sq,Si],.d,⟨[(135,F135.c)],gl,false⟩,[],f97⟩
def F:=u3 eJ
theorem rn x:H.u P_ x=F x:=by kernel_rfl
def c:Con:=⟨H.p,H.r,F⟩
theorem ok:ConOk P_ gl 97 c:=co H func97 (.cons F135.ok .nil) rn
end F97
namespace F147
abbrev R_:=LB
def H:Hd:=⟨[Si,Si,Sq],[Ob 5],(.seq .d (.seq .d (.cut [7] [] (.seq .d (.blk (.loop [7,20,21,22] [] .d))) .d))),⟨[(90,F90.c)],gl,false⟩,[],f147⟩
def t4(a b:Int)(f:UInt64)(h:Int)(g:LB):S:=⟨[(7,.own 0),(20,.own 1),(21,vi (Ac ([(2000:UInt64),(Af (Ad a (32:Int)):UInt64),(Af b:UInt64),f,(0:UInt64),(0:UInt64)]:LQ))),(22,vi h)],[Ab 5 g,.arr 146 (.int .u64) ([(2000:UInt64),(Af (Ad a (32:Int)):UInt64),(Af b:UInt64),f,(0:UInt64),(0:UInt64)]:LQ)],[]⟩
def z4:Nat->S->Option R_:=H.i P_ [r,r,l,r,d]
def x6(g:LB):Option R_:=H.e P_ [r,r,r] ⟨[(7,.own 0)],[Ab 5 g],[]⟩
def x4(a b:Int)(f:UInt64)(h:Int)(g:LB):Option R_:=H.e P_ [r,r,l,r,d] (t4 a b f h g)
theorem e6:x6=tU:=by kernel_rfl
theorem i4(a b:Int)(f:UInt64):∀(q:Nat) (h:Int) (g:LB),z4 q (t4 a b f h g)=FE a b f q h g:=
 ind (λ_ _=>by kernel_rfl) λq ih h g=>Eq.trans (b:=iB x6 (λh g=>(z4 q) (t4 a b f h g)) a b f h g) (by kernel_rfl) (by simp only[e6,ih]<;>rfl)
theorem e4:x4=uF:=by funext a b f h g;exact Eq.trans (by kernel_rfl) ((i4 a b f Dz h g).trans (by rw[Bf];rfl))
def F:=u3 qZ
theorem rn x:H.u P_ x=F x:=Eq.trans (b:=u3 (uT x4) x) (by kernel_rfl) (by simp only[e4]<;>rfl)
def c:Con:=⟨H.p,H.r,F⟩
theorem ok:ConOk P_ gl 147 c:=co H func147 (.cons F90.ok .nil) rn
end F147
namespace F146
def H:Hd:=⟨[Sb,Sq],[.agg [Si,Si],Sz],.d,⟨[(97,F97.c),(100,F100.c),(147,F147.c)],gl,false⟩,[],f146⟩
def F:=u2 VV
theorem rn x:H.u P_ x=F x:=by kernel_rfl
def c:Con:=⟨H.p,H.r,F⟩
theorem ok:ConOk P_ gl 146 c:=co H func146 (.cons F97.ok (.cons F100.ok (.cons F147.ok .nil))) rn
end F146
namespace F170
def H:Hd:=⟨[Sb],[Si,Si],.d,⟨[(100,F100.c),(145,F145.c),(146,F146.c),(147,F147.c)],gl,false⟩,[],f170⟩
def F:=rY
theorem rn x:H.u P_ x=F x:=by kernel_rfl
def c:Con:=⟨H.p,H.r,F⟩
theorem ok:ConOk P_ gl 170 c:=co H func170 (.cons F100.ok (.cons F145.ok (.cons F146.ok (.cons F147.ok .nil)))) rn
end F170
namespace F133
def H:Hd:=⟨[Sb],[Si,Si],.d,⟨[(169,F169.c),(170,F170.c)],gl,false⟩,[],f133⟩
def F:=Zs
theorem rn x:H.u P_ x=F x:=by kernel_rfl
def c:Con:=⟨H.p,H.r,F⟩
theorem ok:ConOk P_ gl 133 c:=co H func133 (.cons F169.ok (.cons F170.ok .nil)) rn
end F133
theorem Vx:ConOk Tryz.prog gl 46 Pv:=mr ent46 F133.ok
namespace F134
def H:Hd:=⟨[Ss,Ss],[Sz],.d,⟨[],gl,false⟩,[],f134⟩
def F:=u2 Ib
theorem rn x:H.u P_ x=F x:=by kernel_rfl
def c:Con:=⟨H.p,H.r,F⟩
theorem ok:ConOk P_ gl 134 c:=co H func134 .nil rn
end F134
namespace F96
def H:Hd:=⟨[Ss,Ss],[Sz],.d,⟨[(134,F134.c)],gl,false⟩,[],f96⟩
def F:=u2 Kk
theorem rn x:H.u P_ x=F x:=by kernel_rfl
def c:Con:=⟨H.p,H.r,F⟩
theorem ok:ConOk P_ gl 96 c:=co H func96 (.cons F134.ok .nil) rn
end F96
namespace F47
abbrev R_:=(Int×Int×Int×Int×Int×Int)
def H:Hd:=⟨[Sb],[.agg [Si,Si,Si,Si,Si],Si],(.seq .d (.seq .d (.seq .d (.seq .d (.seq .d (.seq .d (.seq .d (.cut [2,8] [] (.seq .d (.blk (.loop [0,2,8,9,44,45] [] .d))) .d)))))))),⟨[(91,F91.c),(96,F96.c),(97,F97.c),(98,F98.c),(99,F99.c)],gl,false⟩,[],f47⟩
def t4(b:LB)(g f:Int)(a:LI):S:=⟨[(0,vb b),(2,.ptr 0 []),(8,.ptr 1 []),(9,vi g),(44,.val (.vec 5 (.int .i64)) ([(2:Int),(2:Int),(2:Int),(4:Int),(4:Int)]:LI)),(45,vi f)],[.box 32 (.agg [vi 0,vi 0,vi 0,vi 0,vi 0]),.box 144 (.val (.vec 5 (.int .i64)) a)],[]⟩
def z4:Nat->S->Option R_:=H.i P_ [r,r,r,r,r,r,r,l,r,d]
def x6(a:LI):Option R_:=H.e P_ [r,r,r,r,r,r,r,r] ⟨[(2,.ptr 0 []),(8,.ptr 1 [])],[.box 32 (.agg [vi 0,vi 0,vi 0,vi 0,vi 0]),.box 144 (.val (.vec 5 (.int .i64)) a)],[]⟩
def x4(b:LB)(g f:Int)(a:LI):Option R_:=H.e P_ [r,r,r,r,r,r,r,l,r,d] (t4 b g f a)
theorem e6:x6=IF:=by kernel_rfl
theorem i4(b:LB):∀(q:Nat) (g f:Int) (a:LI),z4 q (t4 b g f a)=Qy b q g f a:=
 ind (λ_ _ _=>by kernel_rfl) λq ih g f a=>Eq.trans (b:=IY x6 (λg f a=>(z4 q) (t4 b g f a)) b g f a) (by kernel_rfl) (by simp only[e6,ih]<;>rfl)
theorem e4:x4=HS:=by funext b g f a;exact Eq.trans (by kernel_rfl) ((i4 b Dz g f a).trans (by rw[Bf];rfl))
def F:=Lk
theorem rn x:H.u P_ x=F x:=Eq.trans (b:=ZN x4 x) (by kernel_rfl) (by simp only[e4]<;>rfl)
def c:Con:=⟨H.p,H.r,F⟩
theorem ok:ConOk P_ gl 47 c:=co H func47 (.cons F91.ok (.cons F96.ok (.cons F97.ok (.cons F98.ok (.cons F99.ok .nil))))) rn
end F47
namespace F49
def H:Hd:=⟨[.agg [Si,Si,Si,Si,Si]],[Ol 3,Si],.d,⟨[(89,F89.c),(101,F101.c)],gl,false⟩,[],f49⟩
def F:=u5 Dl
theorem rn x:H.u P_ x=F x:=by kernel_rfl
def c:Con:=⟨H.p,H.r,F⟩
theorem ok:ConOk P_ gl 49 c:=co H func49 (.cons F89.ok (.cons F101.ok .nil)) rn
end F49
namespace F56
def H:Hd:=⟨[Sb],[.agg [.agg [Si,Si,Si,Si,Si],.agg [Si,Si,Si,Si,Si],Ol 3],Si],.d,⟨[(46,Pv),(47,F47.c),(49,F49.c)],gl,false⟩,[],f56⟩
def F:=aT
theorem rn x:H.u P_ x=F x:=by kernel_rfl
def c:Con:=⟨H.p,H.r,F⟩
theorem ok:ConOk P_ gl 56 c:=co H func56 (.cons Vx (.cons F47.ok (.cons F49.ok .nil))) rn
end F56
namespace F48
def H:Hd:=⟨[Sb,Ss],[Sz,Si],.d,⟨[(41,F41.c),(100,F100.c)],gl,false⟩,[],f48⟩
def F:=u2 Pg
theorem rn x:H.u P_ x=F x:=by kernel_rfl
def c:Con:=⟨H.p,H.r,F⟩
theorem ok:ConOk P_ gl 48 c:=co H func48 (.cons F41.ok (.cons F100.ok .nil)) rn
end F48
namespace F50
abbrev R_:=(LI×Int)
def H:Hd:=⟨[Sb,Si],[Ol 3,Si],(.seq .d (.seq .d (.seq .d (.seq .d (.seq .d (.seq .d (.cut [10] [] (.seq .d (.blk (.loop [0,10,48,49] [] .d))) .d))))))),⟨[(91,F91.c),(93,F93.c),(97,F97.c)],gl,false⟩,[],f50⟩
def t4(b:LB)(f:LI)(g:Int)(a:LI):S:=⟨[(0,vb b),(10,.own 0),(48,vi (Ac f)),(49,vi g)],[Ai 3 a],[]⟩
def z4:Nat->S->Option R_:=H.i P_ [r,r,r,r,r,r,l,r,d]
def x6(a:LI):Option R_:=H.e P_ [r,r,r,r,r,r,r] ⟨[(10,.own 0)],[Ai 3 a],[]⟩
def x4(b:LB)(f:LI)(g:Int)(a:LI):Option R_:=H.e P_ [r,r,r,r,r,r,l,r,d] (t4 b f g a)
theorem e6:x6=PF:=by kernel_rfl
theorem i4(b:LB)(f:LI):∀(q:Nat) (g:Int) (a:LI),z4 q (t4 b f g a)=Xy b f q g a:=
 ind (λ_ _=>by kernel_rfl) λq ih g a=>Eq.trans (b:=PJ x6 (λg a=>(z4 q) (t4 b f g a)) b f g a) (by kernel_rfl) (by simp only[e6,ih]<;>rfl)
theorem e4:x4=cN:=by funext b f g a;exact Eq.trans (by kernel_rfl) ((i4 b f Dz g a).trans (by rw[Bf];rfl))
def F:=u2 AM
theorem rn x:H.u P_ x=F x:=Eq.trans (b:=u2 (cV x4) x) (by kernel_rfl) (by simp only[e4]<;>rfl)
def c:Con:=⟨H.p,H.r,F⟩
theorem ok:ConOk P_ gl 50 c:=co H func50 (.cons F91.ok (.cons F93.ok (.cons F97.ok .nil))) rn
end F50
namespace F140
def H:Hd:=⟨[Sb],[Sb,Si],.d,⟨[(91,F91.c),(135,F135.c)],gl,false⟩,[],f140⟩
def F:=KT
theorem rn x:H.u P_ x=F x:=by kernel_rfl
def c:Con:=⟨H.p,H.r,F⟩
theorem ok:ConOk P_ gl 140 c:=co H func140 (.cons F91.ok (.cons F135.ok .nil)) rn
end F140
namespace F141
def H:Hd:=⟨[Sb],[.agg [Ob 5,Si],Si],.d,⟨[(173,F173.c)],gl,false⟩,[],f141⟩
def F:=Abi
theorem rn x:H.u P_ x=F x:=by kernel_rfl
def c:Con:=⟨H.p,H.r,F⟩
theorem ok:ConOk P_ gl 141 c:=co H func141 (.cons F173.ok .nil) rn
end F141
namespace F176
abbrev R_:=UInt64
def H:Hd:=⟨[.agg [Sb,Si],Si,Si],[Sq],(.seq .d (.seq .d (.cut [7] [] (.blk (.loop [1,2,3,7,8] [] .d)) .d))),⟨[],gl,false⟩,[],f176⟩
def t4(b f:Int)(h:LB)(k:Int)(g:UInt64)(a:Int):S:=⟨[(1,vi b),(2,vi f),(3,.ptr 0 []),(7,vq g),(8,vi a)],[.box 188 (.agg [vb h,vi k])],[]⟩
def z4:Nat->S->Option R_:=H.i P_ [r,r,l,d]
def x6(g:UInt64):Option R_:=H.e P_ [r,r,r] ⟨[(7,vq g)],[],[]⟩
def x4(b f:Int)(h:LB)(k:Int)(g:UInt64)(a:Int):Option R_:=H.e P_ [r,r,l,d] (t4 b f h k g a)
theorem e6:x6=J9:=by kernel_rfl
theorem i4(b f:Int)(h:LB)(k:Int):∀(q:Nat) (g:UInt64) (a:Int),z4 q (t4 b f h k g a)=RX b f h k q g a:=
 ind (λ_ _=>by kernel_rfl) λq ih g a=>Eq.trans (b:=nJ x6 (λg a=>(z4 q) (t4 b f h k g a)) b f h k g a) (by kernel_rfl) (by simp only[e6,ih]<;>rfl)
theorem e4:x4=E5:=by funext b f h k g a;exact Eq.trans (by kernel_rfl) ((i4 b f h k Dz g a).trans (by rw[Bf];rfl))
def F:=u4 yG
theorem rn x:H.u P_ x=F x:=Eq.trans (b:=u4 (H2 x4) x) (by kernel_rfl) (by simp only[e4]<;>rfl)
def c:Con:=⟨H.p,H.r,F⟩
theorem ok:ConOk P_ gl 176 c:=co H func176 .nil rn
end F176
namespace F174
abbrev R_:=(LB×Int×Int)
abbrev K_:=S->Option R_
def H:Hd:=⟨[.agg [Sb,Si],Si,Si],[.agg [Ob 5,Si],Si],(.seq .d (.seq .d (.seq .d (.seq .d (.cut [6,8] [] (.seq .d (.blk (.loop [2,3,6,8,9] [⟨8,[0],.own 5 (.int .u8)⟩] (.seq .d (.cut [2,3,6,8,9] [] (.blk (.seq .d (.keep [2,3,6,8,9,10,39,40,41,42,43] true))) .d))))) .d))))),⟨[(161,F161.c),(176,F176.c)],gl,false⟩,[(191,(.blk (.loop [0,1,2] [] (.seq .d (.blk (.cut [0,1,2] [] .d (.seq .d (.cut [0,1,2,7] [] .d .d))))))))],f174⟩
def t44(a:Int)(g:LB)(f b:Int)(k n:UInt64)(m h:Int)(u:LB):S:=⟨[(0,.ptr 0 []),(1,vq n),(2,vi m)],[.box 188 (.agg [.own 3,vi h]),.box 188 (.agg [vb g,vi f]),.box 188 (.agg [.nils,vi 0]),Ab 5 u],[[(2,vi a),(3,.ptr 1 []),(6,.ptr 2 []),(8,.ptr 0 []),(9,vi b),(10,vi (Fj (64:Int) (Ap a b))),(39,.agg [vb g,vi f]),(40,vi b),(41,vi (Fj (64:Int) (Ap a b))),(42,vq k),(43,vi (Fj (64:Int) (Ap a b)))]]⟩
def z44(Ms:K_):Nat->S->Option R_:=H.i P_ [r,r,r,r,l,r,d,(lp Ms),r,l,d,r,(call 5 191),d]
def t27(a:Int)(g:LB)(f b o:Int)(p:LB):S:=⟨[(2,vi a),(3,.ptr 0 []),(6,.ptr 1 []),(8,.ptr 2 []),(9,vi b)],[.box 188 (.agg [vb g,vi f]),.box 188 (.agg [.nils,vi 0]),.box 188 (.agg [.own 3,vi o]),Ab 5 p],[]⟩
def z27:Nat->S->Option R_:=H.i P_ [r,r,r,r,l,r,d]
def x52(o:Int)(p:LB):Option R_:=H.e P_ [r,r,r,r,r] ⟨[(6,.ptr 0 []),(8,.ptr 1 [])],[.box 188 (.agg [.nils,vi 0]),.box 188 (.agg [.own 2,vi o]),Ab 5 p],[]⟩
def x50(Ms:K_)(a:Int)(g:LB)(f b h:Int)(u:LB):Option R_:=H.e P_ [r,r,r,r,l,r,d,(lp Ms),r,r] ⟨[(2,vi a),(3,.ptr 0 []),(6,.ptr 1 []),(8,.ptr 2 []),(9,vi b)],[.box 188 (.agg [vb g,vi f]),.box 188 (.agg [.nils,vi 0]),.box 188 (.agg [.own 3,vi h]),Ab 5 u],[]⟩
def x48(Ms eC:K_)(a b:Int)(g:LB)(f:Int)(k n:UInt64)(m h:Int)(w:LB):Option R_:=H.e P_ [r,r,r,r,l,r,d,(lp Ms),r,l,d,r,(call 5 191),d,(lp eC),r,d,r,r,r] ⟨[(0,.ptr 0 []),(1,vq n),(2,vi m),(7,vi (Fj m (Ap (8:Int) (Ey h (7:Int)))))],[.box 188 (.agg [.own 3,vi h]),.box 188 (.agg [vb g,vi f]),.box 188 (.agg [.nils,vi 0]),Ab 5 w],[[(2,vi a),(3,.ptr 1 []),(6,.ptr 2 []),(8,.ptr 0 []),(9,vi b),(10,vi (Fj (64:Int) (Ap a b))),(39,.agg [vb g,vi f]),(40,vi b),(41,vi (Fj (64:Int) (Ap a b))),(42,vq k),(43,vi (Fj (64:Int) (Ap a b)))]]⟩
def x47(Ms eC:K_)(a b:Int)(g:LB)(f:Int)(k n:UInt64)(m h:Int)(v:LB):Option R_:=H.e P_ [r,r,r,r,l,r,d,(lp Ms),r,l,d,r,(call 5 191),d,(lp eC),r,d,r] ⟨[(0,.ptr 0 []),(1,vq n),(2,vi m)],[.box 188 (.agg [.own 3,vi h]),.box 188 (.agg [vb g,vi f]),.box 188 (.agg [.nils,vi 0]),Ab 5 v],[[(2,vi a),(3,.ptr 1 []),(6,.ptr 2 []),(8,.ptr 0 []),(9,vi b),(10,vi (Fj (64:Int) (Ap a b))),(39,.agg [vb g,vi f]),(40,vi b),(41,vi (Fj (64:Int) (Ap a b))),(42,vq k),(43,vi (Fj (64:Int) (Ap a b)))]]⟩
def x44(Ms:K_)(a:Int)(g:LB)(f b:Int)(k n:UInt64)(m h:Int)(u:LB):Option R_:=H.e P_ [r,r,r,r,l,r,d,(lp Ms),r,l,d,r,(call 5 191),d] (t44 a g f b k n m h u)
def x27(a:Int)(g:LB)(f b o:Int)(p:LB):Option R_:=H.e P_ [r,r,r,r,l,r,d] (t27 a g f b o p)
theorem e52:x52=jW:=by kernel_rfl
theorem e50(Ms:K_)(a:Int)(g:LB)(f:Int):x50 Ms a g f=UZ (λb o p=>Ms (t27 a g f b o p)) a g f:=by kernel_rfl
theorem e48(Ms eC:K_)(a:Int)(g:LB)(f b:Int)(k:UInt64):x48 Ms eC a b g f k=jV (λn m h u=>eC (t44 a g f b k n m h u)) a b g f k:=by kernel_rfl
theorem e47(Ms eC:K_)(a:Int)(g:LB)(f b:Int)(k:UInt64):x47 Ms eC a b g f k=UY (λn m h u=>eC (t44 a g f b k n m h u)) a b g f k:=Eq.trans (b:=kA (x48 Ms eC a b g f k) a b g f k) (by kernel_rfl) (by simp only[e48]<;>rfl)
theorem i44(Ms:K_)(a:Int)(g:LB)(f b:Int)(k:UInt64):∀(q:Nat) (n:UInt64) (m h:Int) (u:LB),z44 Ms q (t44 a g f b k n m h u)=Td (λb o p=>Ms (t27 a g f b o p)) a g f b k q n m h u:=
 ind (λ_ _ _ _=>by kernel_rfl) λq ih n m h u=>Eq.trans (b:=VC (x47 Ms (z44 Ms q) a b g f k) (x50 Ms a g f) a g f b k n m h u) (by kernel_rfl) (by simp only[e47,e50,ih]<;>rfl)
theorem e44(Ms:K_)(a:Int)(g:LB)(f:Int):x44 Ms a g f=jM (λb o p=>Ms (t27 a g f b o p)) a g f:=by funext b k n m h u;exact Eq.trans (by kernel_rfl) ((i44 Ms a g f b k Dz n m h u).trans (by rw[Bf];rfl))
theorem i27(a:Int)(g:LB)(f:Int):∀(q:Nat) (b o:Int) (p:LB),z27 q (t27 a g f b o p)=BT a g f q b o p:=
 ind (λ_ _ _=>by kernel_rfl) λq ih b o p=>Eq.trans (b:=kG (x44 (z27 q) a g f) x52 a g f b o p) (by kernel_rfl) (by simp only[e44,e52,ih]<;>rfl)
theorem e27:x27=iM:=by funext a g f b o p;exact Eq.trans (by kernel_rfl) ((i27 a g f Dz b o p).trans (by rw[Bf];rfl))
def F:=u4 nB
theorem rn x:H.u P_ x=F x:=Eq.trans (b:=u4 (qL x27) x) (by kernel_rfl) (by simp only[e27]<;>rfl)
def c:Con:=⟨H.p,H.r,F⟩
theorem ok:ConOk P_ gl 174 c:=cr H func174 (.cons F161.ok (.cons F176.ok .nil)) (Eg.cons ent191 Eg.nil) rn
end F174
namespace F143
def H:Hd:=⟨[.agg [Sb,Si],Si,Si],[Sq,Si],.d,⟨[(161,F161.c),(176,F176.c)],gl,false⟩,[],f143⟩
def F:=u4 KG
theorem rn x:H.u P_ x=F x:=by kernel_rfl
def c:Con:=⟨H.p,H.r,F⟩
theorem ok:ConOk P_ gl 143 c:=co H func143 (.cons F161.ok (.cons F176.ok .nil)) rn
end F143
namespace F214
def H:Hd:=⟨[Sq],[Si],.d,⟨[],gl,false⟩,[],f214⟩
def F:=Ic
theorem rn x:H.u P_ x=F x:=by kernel_rfl
def c:Con:=⟨H.p,H.r,F⟩
theorem ok:ConOk P_ gl 214 c:=co H func214 .nil rn
end F214
namespace F209
def WB(j6:Int->UInt64->Int->LB->Int->Option (Int×Int×Int))(g:LB)(b a:Int):Option (Int×Int×Int):=
(Ky g b).bind λm=>
if(Be m 0)then
some (0,0,m)
else
if(Cj a 0)then
some (0,0,2)
else
if(Nj a b)then
some (0,0,24)
else
(λn:Option (Int×Int×Int)=>
(λo:Option (Int×Int×Int)=>
bo2 (
o)) (
bo (
n))) (
(KG g b a (Fj 48 (Ap b a))).bind λ(k,h)=>
j6 h k a g b)
theorem xH: @WB= @DL:=by
  unfold WB DL;simp only[eY,NW,OM]
abbrev R_:=(Int×Int×Int)
def H:Hd:=⟨[.agg [Sb,Si],Si],[Si,Si,Si],(.seq .d (.seq .d (.seq .d (.seq .d (.seq .d (.cut [3,5,6,8,9] [] (.keep [2,3,5,6,8,9,22,23,24,25,26,27,28,29] false) (.seq .d (.seq .d (.cut [] [] (.blk (.seq (.blk (.seq (.blk (.cut [] [] (.cut [3,4,5] [] (.cut [3,4,5,36] [] (.keep [3,4,5,8,36,37,38,39,40] true) .d) .d) .d)) .d)) .d)) .d))))))))),⟨[(143,F143.c),(161,F161.c),(214,F214.c)],gl,false⟩,[(213,.d)],f209⟩
def x10:Option R_:=H.e P_ [r,r,r,r,r,r,r,r,r] ⟨[],[],[]⟩
def x9:Option R_:=H.e P_ [r,r,r,r,r,r,r,r,l,d,l,d,l,d,r] ⟨[],[],[]⟩
def x8(f a:Int):Option R_:=H.e P_ [r,r,r,r,r,r,r,r,l,d,l,d,l,d,l,r] ⟨[(3,.ptr 0 []),(4,vi f),(5,vi 0)],[.box 3 (vi a)],[]⟩
def x7(f b a:Int):Option R_:=H.e P_ [r,r,r,r,r,r,r,r,l,d,l,d,l,d,l,l,r] ⟨[(3,.ptr 0 []),(4,vi f),(5,vi 0),(36,vt (Cj f (Fj (48:Int) (Ap b a))))],[.box 3 (vi a)],[]⟩
def x6(h:Int)(k:UInt64)(a:Int)(g:LB)(b:Int):Option R_:=H.e P_ [r,r,r,r,r,r] ⟨[(3,.ptr 0 []),(5,vi 0),(6,vi h),(8,.fn 213 [.ptr 1 [],.ptr 0 []]),(9,vq k)],[.box 3 (vi a),.box 188 (.agg [vb g,vi b])],[]⟩
theorem e10:x10=nG:=by kernel_rfl
theorem e9:x9=tF:=Eq.trans (b:=sX x10) (by kernel_rfl) (by simp only[e10]<;>rfl)
theorem e8:x8=dX:=Eq.trans (b:=dW x9) (by kernel_rfl) (by simp only[e9]<;>rfl)
theorem e7:x7=dR:=Eq.trans (b:=dC x8) (by kernel_rfl) (by simp only[e8]<;>rfl)
theorem e6:x6=cQ:=Eq.trans (b:=cL x7) (by kernel_rfl) (by simp only[e7]<;>rfl)
def F:=u3 NU
theorem rn x:H.u P_ x=F x:=Eq.trans (b:=u3 (WB x6) x) (by kernel_rfl) (by unfold F;rw[xH];simp only[e6]<;>rfl)
def c:Con:=⟨H.p,H.r,F⟩
theorem ok:ConOk P_ gl 209 c:=cr H func209 (.cons F143.ok (.cons F161.ok (.cons F214.ok .nil))) (Eg.cons ent213 Eg.nil) rn
end F209
namespace F200
abbrev R_:=(UInt32×Int×Int)
def H:Hd:=⟨[.agg [Sb,Si],Si,Si],[Su,Si,Si],(.seq .d (.seq .d (.seq .d (.seq .d (.seq .d (.seq .d (.cut [2,3,7,10,11] [] .d .d))))))),⟨[(143,F143.c),(161,F161.c),(192,F192.c),(209,F209.c)],gl,false⟩,[],f200⟩
def x2(a b f:Int)(g:LB)(h k:Int):Option R_:=H.e P_ [r,r,r,r,r,r,r] ⟨[(2,vi a),(3,.ptr 0 []),(7,vi b),(10,vi f),(11,vi k)],[.box 188 (.agg [vb g,vi h])],[]⟩
theorem e2:x2=VE:=by kernel_rfl
def F:=u4 rF
theorem rn x:H.u P_ x=F x:=Eq.trans (b:=u4 (jH x2) x) (by kernel_rfl) (by simp only[e2]<;>rfl)
def c:Con:=⟨H.p,H.r,F⟩
theorem ok:ConOk P_ gl 200 c:=co H func200 (.cons F143.ok (.cons F161.ok (.cons F192.ok (.cons F209.ok .nil)))) rn
end F200
namespace F175
abbrev R_:=(UInt32×Int×Int×Int×UInt64×UInt64×Int)
def H:Hd:=⟨[.agg [Sb,Si],Si,.agg [Si,Si,Sq,Sq]],[Su,Si,.agg [Si,Si,Sq,Sq],Si],(.seq .d (.cut [1,3,5,8] [] .d (.seq .d (.seq .d (.cut [5,6,7,8] [] .d (.cut [5,6,7,8] [] (.keep [5,6,7,8,81] true) .d)))))),⟨[(143,F143.c),(161,F161.c),(162,F162.c),(163,F163.c),(200,F200.c)],gl,false⟩,[(166,(.seq .d (.seq .d (.seq .d (.blk (.cut [0,1,4] [] (.blk (.seq .d (.keep [0,1,4,6,18,19,20,21,22,23,24,25] true))) (.cut [] [] (.keep [0,1,4,27,28,29,30,31,32,33,34] true) .d))))))),(194,.d)],f175⟩
def x10(f:UInt32)(k w m:Int)(a n:UInt64):Option R_:=H.e P_ [r,r,r,r,r,r] ⟨[(5,.ptr 0 []),(6,vu f),(7,vi k),(8,.ptr 1 [])],[.box 184 (.agg [vi w,vi m,vq (Ad a (Ap (Af f:UInt64) (Ct a (GI.toZ (4:UInt64)).toNat))),vq n]),.box 184 (.agg [vi 0,vi 0,vq 0,vq 0])],[]⟩
def x9(f:UInt32)(k m:Int)(a n:UInt64)(w:Int):Option R_:=H.e P_ [r,r,r,r,r,l,(call 1 166),r,r,r,d,r,r] ⟨[],[.box 184 (.agg [vi w,vi m,vq (Ad a (Ap (Af f:UInt64) (Ct a (GI.toZ (4:UInt64)).toNat))),vq n]),.box 184 (.agg [vi 0,vi 0,vq 0,vq 0])],[[(5,.ptr 0 []),(6,vu f),(7,vi k),(8,.ptr 1 []),(81,vu f)]]⟩
def x8(f:UInt32)(k b:Int)(a:UInt64)(m:Int)(n:UInt64):Option R_:=H.e P_ [r,r,r,r,r,l,(call 1 166),r,r,r,d,r] ⟨[(0,.ptr 0 []),(1,vu f),(4,.fn 194 [])],[.box 184 (.agg [vi b,vi m,vq a,vq n]),.box 184 (.agg [vi 0,vi 0,vq 0,vq 0])],[[(5,.ptr 0 []),(6,vu f),(7,vi k),(8,.ptr 1 []),(81,vu f)]]⟩
def x7(b h:Int)(a g:UInt64)(f:UInt32)(k:Int):Option R_:=H.e P_ [r,r,r,r,r] ⟨[(5,.ptr 0 []),(6,vu f),(7,vi k),(8,.ptr 1 [])],[.box 184 (.agg [vi b,vi h,vq a,vq g]),.box 184 (.agg [vi 0,vi 0,vq 0,vq 0])],[]⟩
def x6(p:Int)(u:LB)(v b h:Int)(a g:UInt64):Option R_:=H.e P_ [r,r] ⟨[(1,vi p),(3,.ptr 0 []),(5,.ptr 1 []),(8,.ptr 2 [])],[.box 188 (.agg [vb u,vi v]),.box 184 (.agg [vi b,vi h,vq a,vq g]),.box 184 (.agg [vi 0,vi 0,vq 0,vq 0])],[]⟩
theorem e10:x10=dV:=by kernel_rfl
theorem e9:x9=iL:=Eq.trans (b:=kM x10) (by kernel_rfl) (by simp only[e10]<;>rfl)
theorem e8:x8=JT:=Eq.trans (b:=kD x9) (by kernel_rfl) (by simp only[e9]<;>rfl)
theorem e7:x7=VH:=Eq.trans (b:=iZ x8) (by kernel_rfl) (by simp only[e8]<;>rfl)
theorem e6:x6=iD:=Eq.trans (b:=jZ x7) (by kernel_rfl) (by simp only[e7]<;>rfl)
def F:=u7 OI
theorem rn x:H.u P_ x=F x:=Eq.trans (b:=u7 (jX x6) x) (by kernel_rfl) (by simp only[e6]<;>rfl)
def c:Con:=⟨H.p,H.r,F⟩
theorem ok:ConOk P_ gl 175 c:=cr H func175 (.cons F143.ok (.cons F161.ok (.cons F162.ok (.cons F163.ok (.cons F200.ok .nil))))) (Eg.cons ent166 (Eg.cons ent194 Eg.nil)) rn
end F175
namespace F142
def CW(j21:Int->Int->Int->UInt32->Int-> (List (Int×Int×UInt64×UInt64×Unit))->LU->Int->Int->UInt64->UInt64->Option (LU×Int×Int))(j24:Int->LU->Option (LU×Int×Int))(a f:Int)(g:LB)(b k h:Int)(n:List (Int×Int×UInt64×UInt64×Unit))(m:LU):Option (LU×Int×Int):=
if(Cj h (Br f a))then
(nB g b k (Fj (Ad k 81) b)).bind λ(ah,ae,af)=>
if(Be af 0)then
some (([]:LU),0,af)
else
(Md (Be a 0)).bind λ_=>
(Ao n (Io h a)).bind λ_=>
(λai:Option (LU×Int×Int)=>
both (
both (
(Ao n (Io h a)).bind λp=>
(λao:Option (LU×Int×Int)=>
bo (
ao)) (
(OI ah ae 0 p.1 p.2.1 p.2.2.1 p.2.2.2.1).bind λ(w,v,aa,ab,ac,ad,y)=>
j21 k h y w v n m aa ab ac ad)) [
ai]) [
(Ao n (Io h a)).bind λp=>
(λaj:Option (LU×Int×Int)=>
both (
bo (
aj)) [
aj]) (
(OI ah ae 0 p.1 p.2.1 p.2.2.1 p.2.2.2.1).bind λ(w,v,aa,ab,ac,ad,y)=>
j21 k h y w v n m aa ab ac ad),
bo (
ai)]) (
(Ao n (Io h a)).bind λp=>
(OI ah ae 0 p.1 p.2.1 p.2.2.1 p.2.2.2.1).bind λ(w,v,aa,ab,ac,ad,y)=>
j21 k h y w v n m aa ab ac ad)
else
j24 k m
theorem iS: @CW= @Xa:=by
  unfold CW Xa
  try simp only[eY,NW,OM]
  all_goals
    repeat (refine funext λ_=>?_)
    repeat' first
      |with_reducible rfl
      |with_reducible refine Oo ?_ ?_
      |with_reducible refine Oi ?_ ?_ ?_
      |with_reducible refine Og ?_ ?_ ?_ ?_
      |((with_reducible refine Uf ?_ ?_);focus (intro h;first|(subst h;rfl)|(simp only[h];rfl)|(simp[Et,Ac,h];done)))
      |with_reducible refine Uh λx=>?_
      |with_reducible refine CR (λ_=>?_) (λ_=>?_)
      |(refine Ij (λh=>by simp only[h,Ub,Fm,Fa,ite_self]) (λx h=>?_);(try simp only[h,Fm]))
      |(refine Lf (λh=>?_) (λh=>?_)<;>simp only[h,if_true,if_false,Bool.false_eq_true])
abbrev R_:=(LU×Int×Int)
abbrev K_:=S->Option R_
def H:Hd:=⟨[Si,Si,.agg [Sb,Si]],[Ov 60,Si,Si],(.seq .d (.seq .d (.cut [0,1,5,9] [] (.seq .d (.blk (.loop [0,1,5,9,19] [] .d))) (.seq .d (.seq .d (.cut [11,12] [] (.seq .d (.blk (.loop [0,5,9,11,12,28,29] [⟨11,[],.own 60 (.int .u32)⟩] (.seq .d (.seq .d (.seq (.blk (.seq .d (.seq .d (.seq .d (.cut [0,5,9,11,12,13,15,16,17,18,28,29] [] (.mode false) (.seq .d (.cut [0,5,9,11,12,16,28,29] [] .d .d))))))) .d)))))) .d)))))),⟨[(160,F160.c),(174,F174.c),(175,F175.c)],gl,false⟩,[],f142⟩
def t16(a f:Int)(g:LB)(b k h:Int)(n:List (Int×Int×UInt64×UInt64×Unit))(m:LU):S:=⟨[(0,vi a),(5,.ptr 0 []),(9,.ptr 1 []),(11,.own 2),(12,vi k),(28,vi (Br f a)),(29,vi h)],[.box 188 (.agg [vb g,vi b]),.box 185 (.val (.vec 6 (.cons (.int .i64) (.cons (.int .i64) (.cons (.int .u64) (.cons (.int .u64) .nil))))) n),Av 60 m],[]⟩
def z16:Nat->S->Option R_:=H.i P_ [r,r,r,r,r,l,r,d]
def t13(a f:Int)(g:LB)(b u:Int)(o:List (Int×Int×UInt64×UInt64×Unit)):S:=⟨[(0,vi a),(1,vi f),(5,.ptr 0 []),(9,.ptr 1 []),(19,vi u)],[.box 188 (.agg [vb g,vi b]),.box 185 (.val (.vec 6 (.cons (.int .i64) (.cons (.int .i64) (.cons (.int .u64) (.cons (.int .u64) .nil))))) o)],[]⟩
def z13:Nat->S->Option R_:=H.i P_ [r,r,l,r,d]
def x24(k:Int)(m:LU):Option R_:=H.e P_ [r,r,r,r,r,r] ⟨[(11,.own 0),(12,vi k)],[Av 60 m],[]⟩
def x22(Fk:K_)(a f:Int)(g:LB)(b k v:Int)(w:UInt32)(h:Int)(ag:List (Int×Int×UInt64×UInt64×Unit))(m:LU):Option R_:=H.e P_ [r,r,r,r,r,l,r,d,(lp Fk),r,r,l,d,r,r,r,r,r,r] ⟨[(0,vi a),(5,.ptr 0 []),(9,.ptr 1 []),(11,.own 2),(12,vi (Ad k v)),(16,vu w),(28,vi (Br f a)),(29,vi h)],[.box 188 (.agg [vb g,vi b]),.box 185 (.val (.vec 6 (.cons (.int .i64) (.cons (.int .i64) (.cons (.int .u64) (.cons (.int .u64) .nil))))) ag),Av 60 m],[]⟩
def x21(Fk:K_)(a f:Int)(g:LB)(b k h y:Int)(w:UInt32)(v:Int)(n:List (Int×Int×UInt64×UInt64×Unit))(m:LU)(aa ab:Int)(ac ad:UInt64):Option R_:=H.e P_ [r,r,r,r,r,l,r,d,(lp Fk),r,r,l,d,r,r,r,r] ⟨[(0,vi a),(5,.ptr 0 []),(9,.ptr 1 []),(11,.own 2),(12,vi k),(13,vi h),(15,vi y),(16,vu w),(17,vi v),(18,.ptr 3 []),(28,vi (Br f a)),(29,vi h)],[.box 188 (.agg [vb g,vi b]),.box 185 (.val (.vec 6 (.cons (.int .i64) (.cons (.int .i64) (.cons (.int .u64) (.cons (.int .u64) .nil))))) n),Av 60 m,.box 184 (.agg [vi aa,vi ab,vq ac,vq ad])],[]⟩
def x16(a f:Int)(g:LB)(b k h:Int)(n:List (Int×Int×UInt64×UInt64×Unit))(m:LU):Option R_:=H.e P_ [r,r,r,r,r,l,r,d] (t16 a f g b k h n m)
def x15(a f:Int)(g:LB)(b:Int)(o:List (Int×Int×UInt64×UInt64×Unit)):Option R_:=H.e P_ [r,r,r] ⟨[(0,vi a),(1,vi f),(5,.ptr 0 []),(9,.ptr 1 [])],[.box 188 (.agg [vb g,vi b]),.box 185 (.val (.vec 6 (.cons (.int .i64) (.cons (.int .i64) (.cons (.int .u64) (.cons (.int .u64) .nil))))) o)],[]⟩
def x13(a f:Int)(g:LB)(b u:Int)(o:List (Int×Int×UInt64×UInt64×Unit)):Option R_:=H.e P_ [r,r,l,r,d] (t13 a f g b u o)
theorem e24:x24=XZ:=by kernel_rfl
theorem e22(Fk:K_)(a f:Int)(g:LB)(b:Int):x22 Fk a f g b=EG (λk h n m=>Fk (t16 a f g b k h n m)) a f g b:=by kernel_rfl
theorem e21(Fk:K_)(a f:Int)(g:LB)(b:Int):x21 Fk a f g b=Wo (λk h n m=>Fk (t16 a f g b k h n m)) a f g b:=Eq.trans (b:=Ws (x22 Fk a f g b) a f g b) (by kernel_rfl) (by simp only[e22]<;>rfl)
theorem i16(a f:Int)(g:LB)(b:Int):∀(q:Nat) (k h:Int) (n:List (Int×Int×UInt64×UInt64×Unit)) (m:LU),z16 q (t16 a f g b k h n m)=Qz a f g b q k h n m:=
 ind (λ_ _ _ _=>by kernel_rfl) λq ih k h n m=>Eq.trans (b:=CW (x21 (z16 q) a f g b) x24 a f g b k h n m) (by kernel_rfl) (by rw[iS];simp only[e21,e24,ih]<;>rfl)
theorem e16:x16=XL:=by funext a f g b k h n m;exact Eq.trans (by kernel_rfl) ((i16 a f g b Dz k h n m).trans (by rw[Bf];rfl))
theorem e15:x15=EX:=Eq.trans (b:=YA x16) (by kernel_rfl) (by simp only[e16]<;>rfl)
theorem i13(a f:Int)(g:LB)(b:Int):∀(q:Nat) (u:Int) (o:List (Int×Int×UInt64×UInt64×Unit)),z13 q (t13 a f g b u o)=ER a f g b q u o:=
 ind (λ_ _=>by kernel_rfl) λq ih u o=>Eq.trans (b:=ZP x15 (λu o=>(z13 q) (t13 a f g b u o)) a f g b u o) (by kernel_rfl) (by simp only[e15,ih]<;>rfl)
theorem e13:x13=Xh:=by funext a f g b u o;exact Eq.trans (by kernel_rfl) ((i13 a f g b Dz u o).trans (by rw[Bf];rfl))
def F:=u4 IQ
theorem rn x:H.u P_ x=F x:=Eq.trans (b:=u4 (HN x13) x) (by kernel_rfl) (by simp only[e13]<;>rfl)
def c:Con:=⟨H.p,H.r,F⟩
theorem ok:ConOk P_ gl 142 c:=co H func142 (.cons F160.ok (.cons F174.ok (.cons F175.ok .nil))) rn
end F142
namespace F178
def H:Hd:=⟨[Su],[Sx],.d,⟨[],gl,false⟩,[],f178⟩
def F:=BD
theorem rn x:H.u P_ x=F x:=by kernel_rfl
def c:Con:=⟨H.p,H.r,F⟩
theorem ok:ConOk P_ gl 178 c:=co H func178 .nil rn
end F178
namespace F201
def H:Hd:=⟨[.agg [Si,.lf (.vec 16 (.int .i32)) none,.lf (.vec 16 (.int .i32)) none],Sx],[Sx,.agg [Si,.lf (.vec 16 (.int .i32)) none,.lf (.vec 16 (.int .i32)) none],Si],.d,⟨[(206,F206.c),(207,F207.c)],gl,false⟩,[],f201⟩
def F:=u4 oM
theorem rn x:H.u P_ x=F x:=by kernel_rfl
def c:Con:=⟨H.p,H.r,F⟩
theorem ok:ConOk P_ gl 201 c:=co H func201 (.cons F206.ok (.cons F207.ok .nil)) rn
end F201
namespace F177
def YV(a:Int)(b:Int32)(f:Int)(g h:LX)(o:Int32):Option (Int32×Int×Int32×Int×LX×LX×Int):=
(AE a b f g h).bind λk=>
if(Be k 0)then
some (0,0,0,0,(List.replicate 16 (0:Int32)),(List.replicate 16 (0:Int32)),k)
else
(AD a b).bind λ(m,y)=>
(oM f g h o).bind λ(n,p,u,v,w)=>
(λaa:Option (Int32×Int×Int32×Int×LX×LX×Int)=>
bo (
aa)) (
some ((Ad n m),a,(Ad n m),p,u,v,w))
theorem wC: @YV= @Oc:=by
  unfold YV Oc;simp only[eY,NW,OM]
def H:Hd:=⟨[.agg [Si,Sx,.agg [Si,.lf (.vec 16 (.int .i32)) none,.lf (.vec 16 (.int .i32)) none]],Sx],[Sx,.agg [Si,Sx,.agg [Si,.lf (.vec 16 (.int .i32)) none,.lf (.vec 16 (.int .i32)) none]],Si],(.seq .d (.seq .d (.seq .d (.seq .d (.seq (.mode false) .d))))),⟨[(187,F187.c),(188,F188.c),(201,F201.c)],gl,false⟩,[],f177⟩
def F:=u6 Oc
theorem rn x:H.u P_ x=F x:=Eq.trans (b:=u6 YV x) (by kernel_rfl) (by rw[wC];rfl)
def c:Con:=⟨H.p,H.r,F⟩
theorem ok:ConOk P_ gl 177 c:=co H func177 (.cons F187.ok (.cons F188.ok (.cons F201.ok .nil))) rn
end F177
namespace F179
abbrev R_:=(LX×Int)
abbrev K_:=S->Option R_
def H:Hd:=⟨[Si,Sw],[Ow 21,Si],(.seq .d (.seq .d (.seq .d (.cut [7] [] (.seq .d (.blk (.loop [0,7,8] [] (.seq .d (.cut [0,7,8] [] (.blk (.keep [0,7,8,24,25,26,27,28,29] true)) .d))))) .d)))),⟨[(183,F183.c),(184,F184.c)],gl,true⟩,[(202,(.seq .d (.cut [0,2] [] .d (.seq .d (.blk (.loop [0,3] [] .d))))))],f179⟩
def t18(b a g:Int)(h:LX):S:=⟨[(0,.view true 0 [] (.int .i32) a ((Ad a b)-a)),(3,vi g)],[Aw 21 h],[[(0,vi b),(7,.own 0),(8,vi a),(24,.own 0),(25,vi a),(26,vi a),(27,vi b),(28,vi (Ad a b)),(29,.view true 0 [] (.int .i32) a ((Ad a b)-a))]]⟩
def z18(Rb:K_):Nat->S->Option R_:=H.i P_ [r,r,r,l,r,d,(lp Rb),r,l,d,(call 6 202),r,r,r,d]
def t12(b a:Int)(f:LX):S:=⟨[(0,vi b),(7,.own 0),(8,vi a)],[Aw 21 f],[]⟩
def z12:Nat->S->Option R_:=H.i P_ [r,r,r,l,r,d]
def x22(f:LX):Option R_:=H.e P_ [r,r,r,r] ⟨[(7,.own 0)],[Aw 21 f],[]⟩
def x20(Rb:K_)(b a:Int)(h:LX):Option R_:=H.e P_ [r,r,r,l,r,d,(lp Rb),r,r] ⟨[(0,vi b),(7,.own 0),(8,vi a)],[Aw 21 h],[]⟩
def x18(Rb:K_)(b a g:Int)(h:LX):Option R_:=H.e P_ [r,r,r,l,r,d,(lp Rb),r,l,d,(call 6 202),r,r,r,d] (t18 b a g h)
def x17(Rb:K_)(b a:Int)(k:LX):Option R_:=H.e P_ [r,r,r,l,r,d,(lp Rb),r,l,d,(call 6 202),r,r] ⟨[(0,.view true 0 [] (.int .i32) a ((Ad a b)-a)),(2,vi (Ap ((Ad a b)-a) (1:Int)))],[Aw 21 k],[[(0,vi b),(7,.own 0),(8,vi a),(24,.own 0),(25,vi a),(26,vi a),(27,vi b),(28,vi (Ad a b)),(29,.view true 0 [] (.int .i32) a ((Ad a b)-a))]]⟩
def x12(b a:Int)(f:LX):Option R_:=H.e P_ [r,r,r,l,r,d] (t12 b a f)
theorem e22:x22=wD:=by kernel_rfl
theorem e20(Rb:K_)(b:Int):x20 Rb b=iJ (λa f=>Rb (t12 b a f)) b:=by kernel_rfl
theorem i18(Rb:K_)(b a:Int):∀(q:Nat) (g:Int) (h:LX),z18 Rb q (t18 b a g h)=BE (λa f=>Rb (t12 b a f)) b a q g h:=
 ind (λ_ _=>by kernel_rfl) λq ih g h=>Eq.trans (b:=VN (x20 Rb b) (λg h=>(z18 Rb q) (t18 b a g h)) b a g h) (by kernel_rfl) (by simp only[e20,ih]<;>rfl)
theorem e18(Rb:K_)(b:Int):x18 Rb b=iI (λa f=>Rb (t12 b a f)) b:=by funext a g h;exact Eq.trans (by kernel_rfl) ((i18 Rb b a Dz g h).trans (by rw[Bf];rfl))
theorem e17(Rb:K_)(b:Int):x17 Rb b=VA (λa f=>Rb (t12 b a f)) b:=Eq.trans (b:=iN (x18 Rb b) b) (by kernel_rfl) (by simp only[e18]<;>rfl)
theorem i12(b:Int):∀(q:Nat) (a:Int) (f:LX),z12 q (t12 b a f)=Wm b q a f:=
 ind (λ_ _=>by kernel_rfl) λq ih a f=>Eq.trans (b:=kH (x17 (z12 q) b) x22 b a f) (by kernel_rfl) (by simp only[e17,e22,ih]<;>rfl)
theorem e12:x12=iU:=by funext b a f;exact Eq.trans (by kernel_rfl) ((i12 b Dz a f).trans (by rw[Bf];rfl))
def F:=u2 wZ
theorem rn x:H.u P_ x=F x:=Eq.trans (b:=u2 (qM x12) x) (by kernel_rfl) (by simp only[e12]<;>rfl)
def c:Con:=⟨H.p,H.r,F⟩
theorem ok:ConOk P_ gl 179 c:=cr H func179 (.cons F183.ok (.cons F184.ok .nil)) (Eg.cons ent202 Eg.nil) rn
end F179
namespace F144
def AA(j16:Int->Int32->Int-> (List (Int×Int32×(Int×LX×LX×Unit)×Unit))->LX->Int->Int32->Int->LX->LX->Option (LX×Int))(j18:Int->Int->LX->Option (LX×Int))(f:LU)(a b g:Int)(h:List (Int×Int32×(Int×LX×LX×Unit)×Unit))(k:LX):Option (LX×Int):=
if(Cj g (Ac f))then
(Ao f g).bind λag=>
(Md (Be a 0)).bind λ_=>
(Ao h (Io g a)).bind λ_=>
both (
(Ao h (Io g a)).bind λm=>
both (
(BD ag).bind λae=>
(λao:Option (LX×Int)=>
bo (
ao)) (
(Oc m.1 m.2.1 m.2.2.1.1 m.2.2.1.2.1 m.2.2.1.2.2.1 ae).bind λ(w,y,v,aa,ab,ac,u)=>
j16 g w u h k y v aa ab ac)) [
(BD ag).bind λae=>
(Oc m.1 m.2.1 m.2.2.1.1 m.2.2.1.2.1 m.2.2.1.2.2.1 ae).bind λ(w,y,v,aa,ab,ac,u)=>
j16 g w u h k y v aa ab ac]) [
(BD ag).bind λaf=>
both (
(Ao h (Io g a)).bind λad=>
(λap:Option (LX×Int)=>
bo (
ap)) (
(Oc ad.1 ad.2.1 ad.2.2.1.1 ad.2.2.1.2.1 ad.2.2.1.2.2.1 af).bind λ(w,y,v,aa,ab,ac,u)=>
j16 g w u h k y v aa ab ac)) [
(Ao h (Io g a)).bind λad=>
(Oc ad.1 ad.2.1 ad.2.2.1.1 ad.2.2.1.2.1 ad.2.2.1.2.2.1 af).bind λ(w,y,v,aa,ab,ac,u)=>
j16 g w u h k y v aa ab ac],
both (
(Ao h (Io g a)).bind λm=>
(BD ag).bind λae=>
(Oc m.1 m.2.1 m.2.2.1.1 m.2.2.1.2.1 m.2.2.1.2.2.1 ae).bind λ(w,y,v,aa,ab,ac,u)=>
j16 g w u h k y v aa ab ac) [
(BD ag).bind λaf=>
(Ao h (Io g a)).bind λad=>
(Oc ad.1 ad.2.1 ad.2.2.1.1 ad.2.2.1.2.1 ad.2.2.1.2.2.1 af).bind λ(w,y,v,aa,ab,ac,u)=>
j16 g w u h k y v aa ab ac]]
else
j18 a b k
theorem gA: @AA= @Oj:=by
  unfold AA Oj
  try simp only[eY,NW,OM]
  all_goals
    repeat (refine funext λ_=>?_)
    repeat' first
      |with_reducible rfl
      |with_reducible refine Oo ?_ ?_
      |with_reducible refine Oi ?_ ?_ ?_
      |with_reducible refine Og ?_ ?_ ?_ ?_
      |((with_reducible refine Uf ?_ ?_);focus (intro h;first|(subst h;rfl)|(simp only[h];rfl)|(simp[Et,Ac,h];done)))
      |with_reducible refine Uh λx=>?_
      |with_reducible refine CR (λ_=>?_) (λ_=>?_)
      |(refine Ij (λh=>by simp only[h,Ub,Fm,Fa,ite_self]) (λx h=>?_);(try simp only[h,Fm]))
      |(refine Lf (λh=>?_) (λh=>?_)<;>simp only[h,if_true,if_false,Bool.false_eq_true])
abbrev R_:=(LX×Int)
abbrev K_:=S->Option R_
def H:Hd:=⟨[.agg [Si,Si],.lf (.vec 16 (.int .i32)) none,Sv],[Ow 21,Si],(.seq .d (.seq .d (.cut [2,3,8] [] (.seq .d (.blk (.loop [2,3,4,8,20] [] .d))) (.seq .d (.cut [3,10] [] (.seq .d (.blk (.loop [3,8,10,33,34,35] [⟨10,[],.own 21 (.int .i32)⟩] (.seq .d (.seq .d (.seq (.blk (.seq .d (.seq .d (.cut [3,8,10,13,14,15,16,33,34,35] [] (.mode false) .d)))) .d)))))) .d))))),⟨[(63,F63.c),(157,F157.c),(177,F177.c),(178,F178.c),(179,F179.c)],gl,false⟩,[],f144⟩
def t13(f:LU)(a b g:Int)(h:List (Int×Int32×(Int×LX×LX×Unit)×Unit))(k:LX):S:=⟨[(3,.ptr 0 []),(8,.ptr 1 []),(10,.own 2),(33,vv f),(34,vi (Ac f)),(35,vi g)],[.box 74 (.agg [vi a,vi b]),.box 225 (.val (.vec 6 (.cons (.int .i64) (.cons (.int .i32) (.cons (.cons (.int .i64) (.cons (.vec 16 (.int .i32)) (.cons (.vec 16 (.int .i32)) .nil))) .nil)))) h),Aw 21 k],[]⟩
def z13:Nat->S->Option R_:=H.i P_ [r,r,r,r,l,r,d]
def t10(f:LU)(a b:Int)(o:LX)(p:Int)(n:List (Int×Int32×(Int×LX×LX×Unit)×Unit)):S:=⟨[(2,vv f),(3,.ptr 0 []),(4,.ptr 1 []),(8,.ptr 2 []),(20,vi p)],[.box 74 (.agg [vi a,vi b]),.box 136 (.val (.vec 16 (.int .i32)) o),.box 225 (.val (.vec 6 (.cons (.int .i64) (.cons (.int .i32) (.cons (.cons (.int .i64) (.cons (.vec 16 (.int .i32)) (.cons (.vec 16 (.int .i32)) .nil))) .nil)))) n)],[]⟩
def z10:Nat->S->Option R_:=H.i P_ [r,r,l,r,d]
def x18(a b:Int)(k:LX):Option R_:=H.e P_ [r,r,r,r,r] ⟨[(3,.ptr 0 []),(10,.own 1)],[.box 74 (.agg [vi a,vi b]),Aw 21 k],[]⟩
def x16(Ax4:K_)(a:Int)(f:LU)(b g:Int)(w:Int32)(u:Int)(h:List (Int×Int32×(Int×LX×LX×Unit)×Unit))(k:LX)(y:Int)(v:Int32)(aa:Int)(ab ac:LX):Option R_:=H.e P_ [r,r,r,r,l,r,d,(lp Ax4),r,r,l,d,r,r,r] ⟨[(3,.ptr 0 []),(8,.ptr 1 []),(10,.own 2),(13,.ptr 1 [.idx (Io g a) 35]),(14,vx w),(15,.ptr 3 []),(16,vi u),(33,vv f),(34,vi (Ac f)),(35,vi g)],[.box 74 (.agg [vi a,vi b]),.box 225 (.val (.vec 6 (.cons (.int .i64) (.cons (.int .i32) (.cons (.cons (.int .i64) (.cons (.vec 16 (.int .i32)) (.cons (.vec 16 (.int .i32)) .nil))) .nil)))) h),Aw 21 k,.box 224 (.agg [vi y,vx v,.agg [vi aa,.val (.vec 16 (.int .i32)) ab,.val (.vec 16 (.int .i32)) ac]])],[]⟩
def x13(f:LU)(a b g:Int)(h:List (Int×Int32×(Int×LX×LX×Unit)×Unit))(k:LX):Option R_:=H.e P_ [r,r,r,r,l,r,d] (t13 f a b g h k)
def x12(f:LU)(a b:Int)(n:List (Int×Int32×(Int×LX×LX×Unit)×Unit)):Option R_:=H.e P_ [r,r,r] ⟨[(2,vv f),(3,.ptr 0 []),(8,.ptr 1 [])],[.box 74 (.agg [vi a,vi b]),.box 225 (.val (.vec 6 (.cons (.int .i64) (.cons (.int .i32) (.cons (.cons (.int .i64) (.cons (.vec 16 (.int .i32)) (.cons (.vec 16 (.int .i32)) .nil))) .nil)))) n)],[]⟩
def x10(f:LU)(a b:Int)(o:LX)(p:Int)(n:List (Int×Int32×(Int×LX×LX×Unit)×Unit)):Option R_:=H.e P_ [r,r,l,r,d] (t10 f a b o p n)
theorem e18:x18=Oq:=by kernel_rfl
theorem e16(Ax4:K_)(f:LU)(a b:Int):x16 Ax4 a f b=CY (λg h k=>Ax4 (t13 f a b g h k)) a f b:=by kernel_rfl
theorem i13(f:LU)(a b:Int):∀(q:Nat) (g:Int) (h:List (Int×Int32×(Int×LX×LX×Unit)×Unit)) (k:LX),z13 q (t13 f a b g h k)=Lc f a b q g h k:=
 ind (λ_ _ _=>by kernel_rfl) λq ih g h k=>Eq.trans (b:=AA (x16 (z13 q) a f b) x18 f a b g h k) (by kernel_rfl) (by rw[gA];simp only[e16,e18,ih]<;>rfl)
theorem e13:x13=UH:=by funext f a b g h k;exact Eq.trans (by kernel_rfl) ((i13 f a b Dz g h k).trans (by rw[Bf];rfl))
theorem e12:x12=CG:=Eq.trans (b:=UU x13) (by kernel_rfl) (by simp only[e13]<;>rfl)
theorem i10(f:LU)(a b:Int)(o:LX):∀(q:Nat) (p:Int) (n:List (Int×Int32×(Int×LX×LX×Unit)×Unit)),z10 q (t10 f a b o p n)=CT f a b o q p n:=
 ind (λ_ _=>by kernel_rfl) λq ih p n=>Eq.trans (b:=UG x12 (λp n=>(z10 q) (t10 f a b o p n)) f a b o p n) (by kernel_rfl) (by simp only[e12,ih]<;>rfl)
theorem e10:x10=Uk:=by funext f a b o p n;exact Eq.trans (by kernel_rfl) ((i10 f a b o Dz p n).trans (by rw[Bf];rfl))
def F:=u4 Xn
theorem rn x:H.u P_ x=F x:=Eq.trans (b:=u4 (EU x10) x) (by kernel_rfl) (by simp only[e10]<;>rfl)
def c:Con:=⟨H.p,H.r,F⟩
theorem ok:ConOk P_ gl 144 c:=co H func144 (.cons F63.ok (.cons F157.ok (.cons F177.ok (.cons F178.ok (.cons F179.ok .nil))))) rn
end F144
namespace F104
def H:Hd:=⟨[.agg [Si,Si],.lf (.vec 16 (.int .i32)) none,Si,Sb],[Ow 21,Si],.d,⟨[(139,F139.c),(140,F140.c),(141,F141.c),(142,F142.c),(143,F143.c),(144,F144.c)],gl,false⟩,[],f104⟩
def F:=u5 Hi
theorem rn x:H.u P_ x=F x:=by kernel_rfl
def c:Con:=⟨H.p,H.r,F⟩
theorem ok:ConOk P_ gl 104 c:=co H func104 (.cons F139.ok (.cons F140.ok (.cons F141.ok (.cons F142.ok (.cons F143.ok (.cons F144.ok .nil)))))) rn
end F104
namespace F106
abbrev R_:=(Int×Int)
def H:Hd:=⟨[Sb],[Si,Si],(.seq .d (.seq .d (.cut [0,4] [] .d .d))),⟨[(100,F100.c),(145,F145.c),(146,F146.c),(147,F147.c)],gl,false⟩,[],f106⟩
def x2(a:LB):Option R_:=H.e P_ [r,r,r] ⟨[(0,vb a),(4,vi (Ap (Ac a) (32:Int)))],[],[]⟩
theorem e2:x2=pX:=by kernel_rfl
def F:=yT
theorem rn x:H.u P_ x=F x:=Eq.trans (b:=pO x2 x) (by kernel_rfl) (by simp only[e2]<;>rfl)
def c:Con:=⟨H.p,H.r,F⟩
theorem ok:ConOk P_ gl 106 c:=co H func106 (.cons F100.ok (.cons F145.ok (.cons F146.ok (.cons F147.ok .nil)))) rn
end F106
namespace F52
abbrev R_:=(Int×Int)
abbrev K_:=S->Option R_
def H:Hd:=⟨[Sb],[Si,Si],(.seq .d (.seq .d (.seq .d (.seq .d (.cut [5] [] (.blk (.loop [1,4,5] [] (.seq .d (.cut [1,4,5] [] (.blk (.cut [1,4,5,6] [] (.keep [1,4,5,6,16,17] true) .d)) .d)))) .d))))),⟨[(106,F106.c)],gl,false⟩,[(105,.d)],f52⟩
def t8(a:Int)(b:LB):S:=⟨[(1,.ptr 0 []),(4,.fn 105 [.ptr 0 []]),(5,vi a)],[.box 27 (vb b)],[]⟩
def z8:Nat->S->Option R_:=H.i P_ [r,r,r,r,l,d]
def x14(a:Int):Option R_:=H.e P_ [r,r,r,r,r] ⟨[(5,vi a)],[],[]⟩
def x12(kn8:K_)(a:Int)(g:LB):Option R_:=H.e P_ [r,r,r,r,l,d,(lp kn8),r,r] ⟨[(1,.ptr 0 []),(4,.fn 105 [.ptr 0 []]),(5,vi a)],[.box 27 (vb g)],[]⟩
def x11(kn8:K_)(a f:Int)(b:LB):Option R_:=H.e P_ [r,r,r,r,l,d,(lp kn8),r,l,d,r] ⟨[(1,.ptr 0 []),(4,.fn 105 [.ptr 0 []]),(5,vi a),(6,vi f)],[.box 27 (vb b)],[]⟩
def x8(a:Int)(b:LB):Option R_:=H.e P_ [r,r,r,r,l,d] (t8 a b)
theorem e14:x14=gP:=by kernel_rfl
theorem e12(kn8:K_):x12 kn8=OV (λa b=>kn8 (t8 a b)):=by kernel_rfl
theorem e11(kn8:K_):x11 kn8=OL (λa b=>kn8 (t8 a b)):=Eq.trans (b:=OR (x12 kn8)) (by kernel_rfl) (by simp only[e12]<;>rfl)
theorem i8:∀(q:Nat) (a:Int) (b:LB),z8 q (t8 a b)=Xj q a b:=
 ind (λ_ _=>by kernel_rfl) λq ih a b=>Eq.trans (b:=SW (x11 (z8 q)) x14 a b) (by kernel_rfl) (by simp only[e11,e14,ih]<;>rfl)
theorem e8:x8=lJ:=by funext a b;exact Eq.trans (by kernel_rfl) ((i8 Dz a b).trans (by rw[Bf];rfl))
def F:=HH
theorem rn x:H.u P_ x=F x:=Eq.trans (b:=SS x8 x) (by kernel_rfl) (by simp only[e8]<;>rfl)
def c:Con:=⟨H.p,H.r,F⟩
theorem ok:ConOk P_ gl 52 c:=cr H func52 (.cons F106.ok .nil) (Eg.cons ent105 Eg.nil) rn
end F52
namespace F69
abbrev R_:=(Int×Int×Int×LX×Int)
abbrev K_:=S->Option R_
def H:Hd:=⟨[Sb,Ss],[.agg [Si,Si,Si,Ow 21],Si],(.seq .d (.seq .d (.seq .d (.seq .d (.cut [0,1,4,6] [] (.cut [0,1,4,6,8] [] (.keep [0,1,4,6,8,34,35,36] true) .d) (.cut [0,1,4,6,7,9] [⟨9,[],.own 3 (.int .i64)⟩] (.keep [0,1,4,6,7,9,41,42,43,44,45] true) (.seq .d (.seq .d (.seq .d (.seq .d (.seq .d (.cut [0,4,10,14] [] (.seq .d (.blk (.loop [0,4,6,10,11,12,14,75,76,77] [⟨10,[3],.own 21 (.int .i32)⟩] (.seq .d (.seq .d (.seq (.blk (.seq .d (.seq .d (.cut [0,4,6,10,11,12,14,16,17,18,75,76,77] [] .d .d)))) .d)))))) .d)))))))))))),⟨[(48,F48.c),(50,F50.c),(52,F52.c),(56,F56.c),(85,F85.c),(104,F104.c)],gl,false⟩,[(57,(.seq .d (.seq .d (.cut [0,6,7] [] .d (.seq .d (.seq .d (.seq .d (.cut [6] [] (.seq .d (.blk (.loop [0,6,60,61,62] [] .d))) .d)))))))),(115,.d)],f69⟩
def t21(a:LB)(w:LI)(m b f h o p n g y ab:Int)(ac:LX)(k:LI)(aa ae:Int)(ad:LX):S:=⟨[(0,vb a),(4,.ptr 0 []),(6,.ptr 1 []),(10,.ptr 2 []),(11,.ptr 3 []),(12,.ptr 4 []),(14,vi aa),(75,.own 5),(76,vi (Ac w)),(77,vi ae)],[.box 24 (.agg [vi 0,vi 0,vi 0,.nils]),.box 102 (.agg [.agg [vi m,vi b,vi f,vi h,vi o],.agg [vi p,vi n,vi g,vi y,vi ab],.own 6]),.box 24 (.agg [vi b,vi f,vi h,.own 7]),.box 74 (.agg [vi b,vi f]),.box 136 (.val (.vec 16 (.int .i32)) ac),Ai 3 w,Ai 3 k,Aw 21 ad],[]⟩
def z21:Nat->S->Option R_:=H.i P_ [r,r,r,r,r,r,r,r,r,r,r,l,r,d]
def t17(v:LI)(a u:LB)(m b f h o p n g:Int)(k:LI)(ag af:Int):S:=⟨[(0,.ptr 0 []),(6,.own 1),(60,.own 1),(61,vi (Ac v)),(62,vi ag)],[.box 102 (.agg [.agg [vi m,vi b,vi f,vi h,vi o],.agg [vi p,vi n,vi g,vi (Ad (Ad g (Br (4:Int) (Ac v))) (4:Int)),vi af],.own 3]),Ai 3 v,.box 24 (.agg [vi 0,vi 0,vi 0,.nils]),Ai 3 k],[[(0,vb a),(1,vs u),(4,.ptr 2 []),(6,.ptr 0 []),(42,vb a)]]⟩
def z17:Nat->S->Option R_:=H.i P_ [r,r,r,r,r,l,(call 1 57),r,r,r,r,r,r,l,r,d]
def x26(a:LB)(aa b f h:Int)(ad:LX):Option R_:=H.e P_ [r,r,r,r,r,r,r,r,r,r,r,r] ⟨[(0,vb a),(4,.ptr 0 []),(10,.ptr 1 []),(14,vi aa)],[.box 24 (.agg [vi 0,vi 0,vi 0,.nils]),.box 24 (.agg [vi b,vi f,vi h,.own 2]),Aw 21 ad],[]⟩
def x24(Ax5:K_)(a:LB)(w:LI)(m b f h o p n g y ab:Int)(ac:LX)(k:LI)(aa aj ak ae:Int)(am ad:LX):Option R_:=H.e P_ [r,r,r,r,r,r,r,r,r,r,r,l,r,d,(lp Ax5),r,r,l,d,r,r,r] ⟨[(0,vb a),(4,.ptr 0 []),(6,.ptr 1 []),(10,.ptr 2 []),(11,.ptr 3 []),(12,.ptr 4 []),(14,vi aa),(16,vi aj),(17,.own 5),(18,vi ak),(75,.own 6),(76,vi (Ac w)),(77,vi ae)],[.box 24 (.agg [vi 0,vi 0,vi 0,.nils]),.box 102 (.agg [.agg [vi m,vi b,vi f,vi h,vi o],.agg [vi p,vi n,vi g,vi y,vi ab],.own 7]),.box 24 (.agg [vi b,vi f,vi h,.own 8]),.box 74 (.agg [vi b,vi f]),.box 136 (.val (.vec 16 (.int .i32)) ac),Aw 21 am,Ai 3 w,Ai 3 k,Aw 21 ad],[]⟩
def x21(a:LB)(w:LI)(m b f h o p n g y ab:Int)(ac:LX)(k:LI)(aa ae:Int)(ad:LX):Option R_:=H.e P_ [r,r,r,r,r,r,r,r,r,r,r,l,r,d] (t21 a w m b f h o p n g y ab ac k aa ae ad)
def x20(a u:LB)(m b f h o p n g:Int)(k:LI)(an y ab:Int)(w:LI):Option R_:=H.e P_ [r,r,r,r,r,r] ⟨[(0,vb a),(1,vs u),(4,.ptr 0 []),(6,.ptr 1 []),(7,vi an),(9,.own 2)],[.box 24 (.agg [vi 0,vi 0,vi 0,.nils]),.box 102 (.agg [.agg [vi m,vi b,vi f,vi h,vi o],.agg [vi p,vi n,vi g,vi y,vi ab],.own 3]),Ai 3 w,Ai 3 k],[]⟩
def x19(a u:LB)(v:LI)(m b f h o p n g af:Int)(k:LI):Option R_:=H.e P_ [r,r,r,r,r,l,(call 1 57),r,r,r,r,r,r,r] ⟨[(6,.own 0)],[Ai 3 v,.box 24 (.agg [vi 0,vi 0,vi 0,.nils]),.box 102 (.agg [.agg [vi m,vi b,vi f,vi h,vi o],.agg [vi p,vi n,vi g,vi (Ad (Ad g (Br (4:Int) (Ac v))) (4:Int)),vi af],.own 3]),Ai 3 k],[[(0,vb a),(1,vs u),(4,.ptr 1 []),(6,.ptr 2 []),(42,vb a)]]⟩
def x17(v:LI)(a u:LB)(m b f h o p n g:Int)(k:LI)(ag af:Int):Option R_:=H.e P_ [r,r,r,r,r,l,(call 1 57),r,r,r,r,r,r,l,r,d] (t17 v a u m b f h o p n g k ag af)
def x16(al:Int)(a u:LB)(m b f h o p n g ah ai:Int)(v k:LI):Option R_:=H.e P_ [r,r,r,r,r,l,(call 1 57),r,r,r] ⟨[(0,.ptr 0 []),(6,.own 1),(7,vi al)],[.box 102 (.agg [.agg [vi m,vi b,vi f,vi h,vi o],.agg [vi p,vi n,vi g,vi ah,vi ai],.own 3]),Ai 3 v,.box 24 (.agg [vi 0,vi 0,vi 0,.nils]),Ai 3 k],[[(0,vb a),(1,vs u),(4,.ptr 2 []),(6,.ptr 0 []),(42,vb a)]]⟩
def x15(a u:LB)(m b f h o p n g ah ai:Int)(k:LI):Option R_:=H.e P_ [r,r,r,r,r] ⟨[(0,vb a),(1,vs u),(4,.ptr 0 []),(6,.ptr 1 [])],[.box 24 (.agg [vi 0,vi 0,vi 0,.nils]),.box 102 (.agg [.agg [vi m,vi b,vi f,vi h,vi o],.agg [vi p,vi n,vi g,vi ah,vi ai],.own 2]),Ai 3 k],[]⟩
def x14(a u:LB)(m b f h o p n g ah ai:Int)(k:LI)(ao:Int):Option R_:=H.e P_ [r,r,r,r,l,r] ⟨[(0,vb a),(1,vs u),(4,.ptr 0 []),(6,.ptr 1 []),(8,vi ao)],[.box 24 (.agg [vi 0,vi 0,vi 0,.nils]),.box 102 (.agg [.agg [vi m,vi b,vi f,vi h,vi o],.agg [vi p,vi n,vi g,vi ah,vi ai],.own 2]),Ai 3 k],[]⟩
theorem e26:x26=ZX:=by kernel_rfl
theorem e24(Ax5:K_)(a:LB)(w:LI)(m b f h o p n g y ab:Int)(ac:LX)(k:LI):x24 Ax5 a w m b f h o p n g y ab ac k=XQ (λaa ae ad=>Ax5 (t21 a w m b f h o p n g y ab ac k aa ae ad)) a w m b f h o p n g y ab ac k:=by kernel_rfl
theorem i21(a:LB)(w:LI)(m b f h o p n g y ab:Int)(ac:LX)(k:LI):∀(q:Nat) (aa ae:Int) (ad:LX),z21 q (t21 a w m b f h o p n g y ab ac k aa ae ad)=Vw a w m b f h o p n g y ab ac k q aa ae ad:=
 ind (λ_ _ _=>by kernel_rfl) λq ih aa ae ad=>Eq.trans (b:=KR (x24 (z21 q) a w m b f h o p n g y ab ac k) x26 a w m b f h o p n g y ab ac k aa ae ad) (by kernel_rfl) (by simp only[e24,e26,ih]<;>rfl)
theorem e21:x21=oZ:=by funext a w m b f h o p n g y ab ac k aa ae ad;exact Eq.trans (by kernel_rfl) ((i21 a w m b f h o p n g y ab ac k Dz aa ae ad).trans (by rw[Bf];rfl))
theorem e20:x20=Qo:=Eq.trans (b:=HY x21) (by kernel_rfl) (by simp only[e21]<;>rfl)
theorem e19:x19=GW:=Eq.trans (b:=XD x20) (by kernel_rfl) (by simp only[e20]<;>rfl)
theorem i17(v:LI)(a u:LB)(m b f h o p n g:Int)(k:LI):∀(q:Nat) (ag af:Int),z17 q (t17 v a u m b f h o p n g k ag af)=Vm v a u m b f h o p n g k q ag af:=
 ind (λ_ _=>by kernel_rfl) λq ih ag af=>Eq.trans (b:=IW x19 (λag af=>(z17 q) (t17 v a u m b f h o p n g k ag af)) v a u m b f h o p n g k ag af) (by kernel_rfl) (by simp only[e19,ih]<;>rfl)
theorem e17:x17=YQ:=by funext v a u m b f h o p n g k ag af;exact Eq.trans (by kernel_rfl) ((i17 v a u m b f h o p n g k Dz ag af).trans (by rw[Bf];rfl))
theorem e16:x16=KN:=Eq.trans (b:=GY x20 x17) (by kernel_rfl) (by simp only[e20,e17]<;>rfl)
theorem e15:x15=AL:=Eq.trans (b:=ZG x20 x16) (by kernel_rfl) (by simp only[e20,e16]<;>rfl)
theorem e14:x14=Ur:=Eq.trans (b:=HU x15) (by kernel_rfl) (by simp only[e15]<;>rfl)
def F:=u2 Ra
theorem rn x:H.u P_ x=F x:=Eq.trans (b:=u2 (dJ x14) x) (by kernel_rfl) (by simp only[e14]<;>rfl)
def c:Con:=⟨H.p,H.r,F⟩
theorem ok:ConOk P_ gl 69 c:=cr H func69 (.cons F48.ok (.cons F50.ok (.cons F52.ok (.cons F56.ok (.cons F85.ok (.cons F104.ok .nil)))))) (Eg.cons ent57 (Eg.cons ent115 Eg.nil)) rn
end F69
namespace F31
def H:Hd:=⟨[Sb,Ss],[Si],.d,⟨[(69,F69.c)],gl,false⟩,[],f31⟩
def F:=u2 Pw
theorem rn x:H.u P_ x=F x:=by kernel_rfl
def c:Con:=⟨H.p,H.r,F⟩
theorem ok:ConOk P_ gl 31 c:=co H func31 (.cons F69.ok .nil) rn
end F31
namespace F15
abbrev R_:=(Int×Int×Int×Int×Int×Int)
def H:Hd:=⟨[Sb],[.agg [Si,Si,Si,Si,Si],Si],(.seq .d (.seq .d (.seq .d (.cut [0,2,4] [] (.cut [0,2,4,7] [] (.keep [0,2,4,7,17,18,19,20,21] true) .d) .d)))),⟨[(50,F50.c),(56,F56.c)],gl,false⟩,[(57,(.seq .d (.seq .d (.cut [0,6,7] [] .d (.seq .d (.seq .d (.seq .d (.cut [6] [] (.seq .d (.blk (.loop [0,6,60,61,62] [] .d))) .d))))))))],f15⟩
def t8(u:LI)(a:LB)(k m n o p f g b:Int)(h:LI)(w v:Int):S:=⟨[(0,.ptr 0 []),(6,.own 1),(60,.own 1),(61,vi (Ac u)),(62,vi w)],[.box 102 (.agg [.agg [vi k,vi m,vi n,vi o,vi p],.agg [vi f,vi g,vi b,vi (Ad (Ad b (Br (4:Int) (Ac u))) (4:Int)),vi v],.own 3]),Ai 3 u,.box 41 (.agg [vi 0,vi 0,vi 0,vi 0,vi 0]),Ai 3 h],[[(0,vb a),(2,.ptr 2 []),(4,.ptr 0 []),(18,vb a)]]⟩
def z8:Nat->S->Option R_:=H.i P_ [r,r,r,l,l,(call 1 57),r,r,r,r,r,r,l,r,d]
def x12(a:LB)(k m n o p f g b aa y:Int)(h:LI):Option R_:=H.e P_ [r,r,r,r] ⟨[(0,vb a),(2,.ptr 0 []),(4,.ptr 1 [])],[.box 41 (.agg [vi 0,vi 0,vi 0,vi 0,vi 0]),.box 102 (.agg [.agg [vi k,vi m,vi n,vi o,vi p],.agg [vi f,vi g,vi b,vi aa,vi y],.own 2]),Ai 3 h],[]⟩
def x11(a:LB)(k m n o p f g b:Int)(h:LI)(ae aa y:Int):Option R_:=H.e P_ [r,r,r,l,r] ⟨[(0,vb a),(2,.ptr 0 []),(4,.ptr 1 []),(7,vi ae)],[.box 41 (.agg [vi 0,vi 0,vi 0,vi 0,vi 0]),.box 102 (.agg [.agg [vi k,vi m,vi n,vi o,vi p],.agg [vi f,vi g,vi b,vi aa,vi y],.own 2]),Ai 3 h],[]⟩
def x10(a:LB)(u:LI)(k m n o p f g b v:Int)(h:LI):Option R_:=H.e P_ [r,r,r,l,l,(call 1 57),r,r,r,r,r,r,r] ⟨[(6,.own 0)],[Ai 3 u,.box 41 (.agg [vi 0,vi 0,vi 0,vi 0,vi 0]),.box 102 (.agg [.agg [vi k,vi m,vi n,vi o,vi p],.agg [vi f,vi g,vi b,vi (Ad (Ad b (Br (4:Int) (Ac u))) (4:Int)),vi v],.own 3]),Ai 3 h],[[(0,vb a),(2,.ptr 1 []),(4,.ptr 2 []),(18,vb a)]]⟩
def x8(u:LI)(a:LB)(k m n o p f g b:Int)(h:LI)(w v:Int):Option R_:=H.e P_ [r,r,r,l,l,(call 1 57),r,r,r,r,r,r,l,r,d] (t8 u a k m n o p f g b h w v)
def x7(ab:Int)(a:LB)(k m n o p f g b ac ad:Int)(u h:LI):Option R_:=H.e P_ [r,r,r,l,l,(call 1 57),r,r,r] ⟨[(0,.ptr 0 []),(6,.own 1),(7,vi ab)],[.box 102 (.agg [.agg [vi k,vi m,vi n,vi o,vi p],.agg [vi f,vi g,vi b,vi ac,vi ad],.own 3]),Ai 3 u,.box 41 (.agg [vi 0,vi 0,vi 0,vi 0,vi 0]),Ai 3 h],[[(0,vb a),(2,.ptr 2 []),(4,.ptr 0 []),(18,vb a)]]⟩
theorem e12:x12=kZ:=by kernel_rfl
theorem e11:x11=DX:=Eq.trans (b:=lQ x12) (by kernel_rfl) (by simp only[e12]<;>rfl)
theorem e10:x10=lH:=Eq.trans (b:=lI x11) (by kernel_rfl) (by simp only[e11]<;>rfl)
theorem i8(u:LI)(a:LB)(k m n o p f g b:Int)(h:LI):∀(q:Nat) (w v:Int),z8 q (t8 u a k m n o p f g b h w v)=XY u a k m n o p f g b h q w v:=
 ind (λ_ _=>by kernel_rfl) λq ih w v=>Eq.trans (b:=qK x10 (λw v=>(z8 q) (t8 u a k m n o p f g b h w v)) u a k m n o p f g b h w v) (by kernel_rfl) (by simp only[e10,ih]<;>rfl)
theorem e8:x8=nL:=by funext u a k m n o p f g b h w v;exact Eq.trans (by kernel_rfl) ((i8 u a k m n o p f g b h Dz w v).trans (by rw[Bf];rfl))
theorem e7:x7=oC:=Eq.trans (b:=pG x11 x8) (by kernel_rfl) (by simp only[e11,e8]<;>rfl)
def F:=J5
theorem rn x:H.u P_ x=F x:=Eq.trans (b:=nT x11 x7 x) (by kernel_rfl) (by simp only[e11,e7]<;>rfl)
def c:Con:=⟨H.p,H.r,F⟩
theorem ok:ConOk P_ gl 15 c:=cr H func15 (.cons F50.ok (.cons F56.ok .nil)) (Eg.cons ent57 Eg.nil) rn
end F15
namespace F11
abbrev R_:=(Int×Int×Int×Int×Int×Int×LI×Int)
def H:Hd:=⟨[Sb,Ss],[.agg [.agg [Si,Si,Si,Si,Si],Si,Ol 3],Si],(.seq .d (.seq .d (.seq .d (.seq .d (.seq .d (.seq .d (.seq .d (.seq .d (.seq .d (.cut [0,4,6,8] [] .d .d)))))))))),⟨[(46,Pv),(47,F47.c),(48,F48.c),(49,F49.c),(50,F50.c)],gl,false⟩,[],f11⟩
def x2(a:LB)(b f g h k n:Int):Option R_:=H.e P_ [r,r,r,r,r,r,r,r,r,r] ⟨[(0,vb a),(4,.ptr 0 []),(6,vi n),(8,.ptr 1 [])],[.box 35 (.agg [.agg [vi 0,vi 0,vi 0,vi 0,vi 0],vi 0,.nils]),.box 32 (.agg [vi b,vi f,vi g,vi h,vi k])],[]⟩
theorem e2:x2=Ja:=by kernel_rfl
def F:=u2 Ba
theorem rn x:H.u P_ x=F x:=Eq.trans (b:=u2 (Hk x2) x) (by kernel_rfl) (by simp only[e2]<;>rfl)
def c:Con:=⟨H.p,H.r,F⟩
theorem ok:ConOk P_ gl 11 c:=co H func11 (.cons Vx (.cons F47.ok (.cons F48.ok (.cons F49.ok (.cons F50.ok .nil))))) rn
end F11
namespace F77
abbrev R_:=(Int×Int)
def H:Hd:=⟨[.agg [Si,Si,Si,Si,Si],Si],[Si,Si],(.seq .d (.seq .d (.seq .d (.seq .d (.cut [2,8] [] (.seq .d (.blk (.loop [2,6,8,23,24] [] .d))) .d))))),⟨[(49,F49.c)],gl,false⟩,[],f77⟩
def t4(n f a b g h:Int)(m:LI)(k o:Int):S:=⟨[(2,.ptr 0 []),(6,.own 1),(8,vi k),(23,vi n),(24,vi o)],[.box 32 (.agg [vi f,vi a,vi b,vi g,vi h]),Ai 3 m],[]⟩
def z4:Nat->S->Option R_:=H.i P_ [r,r,r,r,l,r,d]
def x6(k f a b g h:Int):Option R_:=H.e P_ [r,r,r,r,r] ⟨[(2,.ptr 0 []),(8,vi k)],[.box 32 (.agg [vi f,vi a,vi b,vi g,vi h])],[]⟩
def x4(n f a b g h:Int)(m:LI)(k o:Int):Option R_:=H.e P_ [r,r,r,r,l,r,d] (t4 n f a b g h m k o)
theorem e6:x6=ZL:=by kernel_rfl
theorem i4(n f a b g h:Int)(m:LI):∀(q:Nat) (k o:Int),z4 q (t4 n f a b g h m k o)=Vq n f a b g h m q k o:=
 ind (λ_ _=>by kernel_rfl) λq ih k o=>Eq.trans (b:=LH x6 (λk o=>(z4 q) (t4 n f a b g h m k o)) n f a b g h m k o) (by kernel_rfl) (by simp only[e6,ih]<;>rfl)
theorem e4:x4=oX:=by funext n f a b g h m k o;exact Eq.trans (by kernel_rfl) ((i4 n f a b g h m Dz k o).trans (by rw[Bf];rfl))
def F:=u6 RK
theorem rn x:H.u P_ x=F x:=Eq.trans (b:=u6 (XP x4) x) (by kernel_rfl) (by simp only[e4]<;>rfl)
def c:Con:=⟨H.p,H.r,F⟩
theorem ok:ConOk P_ gl 77 c:=co H func77 (.cons F49.ok .nil) rn
end F77
namespace F29
abbrev R_:=(Int×UInt8×Int×Int×Int)
def H:Hd:=⟨[Sb,Ss,Si],[.agg [Si,Sc,Si,Si],Si],(.seq .d (.seq .d (.seq .d (.seq .d (.seq .d (.seq .d (.seq .d (.seq .d (.seq .d (.cut [6] [] (.seq .d (.blk (.loop [2,6,11,12,79,80,81] [] .d))) .d)))))))))),⟨[(11,F11.c),(15,F15.c),(31,F31.c),(77,F77.c)],gl,false⟩,[],f29⟩
def t4(a:Int)(b:LI)(g h k m n o p f:Int):S:=⟨[(2,vi a),(6,.ptr 0 []),(11,.ptr 1 []),(12,vi p),(79,.own 2),(80,vi (Ac b)),(81,vi f)],[.box 63 (.agg [vi 0,vc 0,vi 0,vi 0]),.box 35 (.agg [.agg [vi g,vi h,vi k,vi m,vi n],vi o,.own 2]),Ai 3 b],[]⟩
def z4:Nat->S->Option R_:=H.i P_ [r,r,r,r,r,r,r,r,r,l,r,d]
def x6:Option R_:=H.e P_ [r,r,r,r,r,r,r,r,r,r] ⟨[(6,.ptr 0 [])],[.box 63 (.agg [vi 0,vc 0,vi 0,vi 0])],[]⟩
def x4(a:Int)(b:LI)(g h k m n o p f:Int):Option R_:=H.e P_ [r,r,r,r,r,r,r,r,r,l,r,d] (t4 a b g h k m n o p f)
theorem e6:x6=lF:=by kernel_rfl
theorem i4(a:Int)(b:LI)(g h k m n o:Int):∀(q:Nat) (p f:Int),z4 q (t4 a b g h k m n o p f)=SN a b g h k m n o q p f:=
 ind (λ_ _=>by kernel_rfl) λq ih p f=>Eq.trans (b:=kU x6 (λp f=>(z4 q) (t4 a b g h k m n o p f)) a b g h k m n o p f) (by kernel_rfl) (by simp only[e6,ih]<;>rfl)
theorem e4:x4=lC:=by funext a b g h k m n o p f;exact Eq.trans (by kernel_rfl) ((i4 a b g h k m n o Dz p f).trans (by rw[Bf];rfl))
def F:=u3 wQ
theorem rn x:H.u P_ x=F x:=Eq.trans (b:=u3 (lO x4) x) (by kernel_rfl) (by simp only[e4]<;>rfl)
def c:Con:=⟨H.p,H.r,F⟩
theorem ok:ConOk P_ gl 29 c:=co H func29 (.cons F11.ok (.cons F15.ok (.cons F31.ok (.cons F77.ok .nil)))) rn
end F29
namespace F75
def TQ(a:LB):Option (LB):=
U5 a (
some ([]:LB)) (
(Et ([]:LB) a).bind λb=>
some b)
theorem vD: @TQ= @Is:=by
  unfold TQ Is
  repeat (refine funext λ_=>?_)
  repeat' first
    |with_reducible rfl
    |with_reducible refine Oo ?_ ?_
    |with_reducible refine Oi ?_ ?_ ?_
    |with_reducible refine Og ?_ ?_ ?_ ?_
    |((with_reducible refine Uf ?_ ?_);focus (intro h;first|(subst h;rfl)|(simp only[h];rfl)|(simp[Et,Ac,h];done)))
    |with_reducible refine Uh λx=>?_
    |with_reducible refine CR (λ_=>?_) (λ_=>?_)
    |(refine Ij (λh=>by simp only[h,Ub,Fm,Fa,ite_self]) (λx h=>?_);(try simp only[h,Fm]))
    |(refine Lf (λh=>?_) (λh=>?_)<;>simp only[h,if_true,if_false,Bool.false_eq_true])
def H:Hd:=⟨[Sb],[Ob 5],.d,⟨[],gl,false⟩,[],f75⟩
def F:=Is
theorem rn x:H.u P_ x=F x:=Eq.trans (b:=TQ x) (by kernel_rfl) (by rw[vD];rfl)
def c:Con:=⟨H.p,H.r,F⟩
theorem ok:ConOk P_ gl 75 c:=co H func75 .nil rn
end F75
namespace F32
def H:Hd:=⟨[Sb,Si,Sc],[Ob 5,Si],.d,⟨[(75,F75.c)],gl,false⟩,[],f32⟩
def F:=u3 PO
theorem rn x:H.u P_ x=F x:=by kernel_rfl
def c:Con:=⟨H.p,H.r,F⟩
theorem ok:ConOk P_ gl 32 c:=co H func32 (.cons F75.ok .nil) rn
end F32
namespace F78
def H:Hd:=⟨[Sb,Ss,Si],[Sc],.d,⟨[(46,Pv),(47,F47.c)],gl,false⟩,[],f78⟩
def F:=u3 Ec
theorem rn x:H.u P_ x=F x:=by kernel_rfl
def c:Con:=⟨H.p,H.r,F⟩
theorem ok:ConOk P_ gl 78 c:=co H func78 (.cons Vx (.cons F47.ok .nil)) rn
end F78
namespace F102
abbrev R_:=(LI×Int)
abbrev K_:=S->Option R_
def H:Hd:=⟨[Sl],[Ol 3,Si],(.seq .d (.seq .d (.seq .d (.seq .d (.seq .d (.cut [7] [] (.seq .d (.blk (.loop [6,7,17,18,19] [] (.seq .d (.seq .d (.cut [6,7,17,18,19] [] (.blk (.seq .d (.keep [6,7,9,17,18,19,23,24,25,26,27,28] true))) .d)))))) .d)))))),⟨[(93,F93.c)],gl,false⟩,[(138,.d)],f102⟩
def t6(a:LI)(b g:Int)(f:LI):S:=⟨[(6,.fn 138 [.ptr 0 []]),(7,.own 1),(17,vl a),(18,vi (Ac a)),(19,vi b)],[.box 3 (vi g),Ai 3 f],[]⟩
def z6:Nat->S->Option R_:=H.i P_ [r,r,r,r,r,l,r,d]
def x10(f:LI):Option R_:=H.e P_ [r,r,r,r,r,r] ⟨[(7,.own 0)],[Ai 3 f],[]⟩
def x8(kn6:K_)(a:LI)(b g h:Int)(k:LI):Option R_:=H.e P_ [r,r,r,r,r,l,r,d,(lp kn6),r,r,r] ⟨[(6,.fn 138 [.ptr 0 []]),(7,.own 1),(17,vl a),(18,vi (Ac a)),(19,vi b)],[.box 3 (vi (Ad g h)),Ai 3 k],[]⟩
def x6(a:LI)(b g:Int)(f:LI):Option R_:=H.e P_ [r,r,r,r,r,l,r,d] (t6 a b g f)
theorem e10:x10=bD:=by kernel_rfl
theorem e8(kn6:K_)(a:LI):x8 kn6 a=NS (λb g f=>kn6 (t6 a b g f)) a:=by kernel_rfl
theorem i6(a:LI):∀(q:Nat) (b g:Int) (f:LI),z6 q (t6 a b g f)=Qb a q b g f:=
 ind (λ_ _ _=>by kernel_rfl) λq ih b g f=>Eq.trans (b:=BW (x8 (z6 q) a) x10 a b g f) (by kernel_rfl) (by simp only[e8,e10,ih]<;>rfl)
theorem e6:x6=gS:=by funext a b g f;exact Eq.trans (by kernel_rfl) ((i6 a Dz b g f).trans (by rw[Bf];rfl))
def F:=PK
theorem rn x:H.u P_ x=F x:=Eq.trans (b:=OG x6 x) (by kernel_rfl) (by simp only[e6]<;>rfl)
def c:Con:=⟨H.p,H.r,F⟩
theorem ok:ConOk P_ gl 102 c:=cr H func102 (.cons F93.ok .nil) (Eg.cons ent138 Eg.nil) rn
end F102
namespace F19
abbrev R_:=(LB×Int)
abbrev K_:=S->Option R_
def H:Hd:=⟨[Si,Sw],[Ob 5,Si],(.seq .d (.seq .d (.seq .d (.cut [7] [] (.seq .d (.blk (.loop [0,7,17,18,19] [⟨7,[],.own 5 (.int .u8)⟩] (.seq .d (.seq .d (.cut [0,7,17,18,19] [] (.blk (.seq .d (.cut [0,7,9,17,18,19] [] .d (.seq .d (.blk (.loop [0,7,9,17,18,19,28,29] [] .d)))))) .d)))))) .d)))),⟨[(63,F63.c)],gl,false⟩,[],f19⟩
def t26(b:Int)(a:LX)(k:Int32)(f m:Int)(h:LB):S:=⟨[(0,vi b),(7,.own 0),(9,vx k),(17,vw a),(18,vi (Ac a)),(19,vi f),(28,vi (Db b (8:Int))),(29,vi m)],[Ab 5 h],[]⟩
def z26(Fk:K_):Nat->S->Option R_:=H.i P_ [r,r,r,l,r,d,(lp Fk),r,r,l,d,r,r,r,d]
def t16(b:Int)(a:LX)(f:Int)(g:LB):S:=⟨[(0,vi b),(7,.own 0),(17,vw a),(18,vi (Ac a)),(19,vi f)],[Ab 5 g],[]⟩
def z16:Nat->S->Option R_:=H.i P_ [r,r,r,l,r,d]
def x30(g:LB):Option R_:=H.e P_ [r,r,r,r] ⟨[(7,.own 0)],[Ab 5 g],[]⟩
def x28(Fk:K_)(b:Int)(a:LX)(f:Int)(h:LB):Option R_:=H.e P_ [r,r,r,l,r,d,(lp Fk),r,r,r] ⟨[(0,vi b),(7,.own 0),(17,vw a),(18,vi (Ac a)),(19,vi f)],[Ab 5 h],[]⟩
def x26(Fk:K_)(b:Int)(a:LX)(k:Int32)(f m:Int)(h:LB):Option R_:=H.e P_ [r,r,r,l,r,d,(lp Fk),r,r,l,d,r,r,r,d] (t26 b a k f m h)
def x25(Fk:K_)(b:Int)(a:LX)(f:Int)(g:LB)(k:Int32):Option R_:=H.e P_ [r,r,r,l,r,d,(lp Fk),r,r,l,d,r,r] ⟨[(0,vi b),(7,.own 0),(9,vx k),(17,vw a),(18,vi (Ac a)),(19,vi f)],[Ab 5 g],[]⟩
def x16(b:Int)(a:LX)(f:Int)(g:LB):Option R_:=H.e P_ [r,r,r,l,r,d] (t16 b a f g)
theorem e30:x30=lV:=by kernel_rfl
theorem e28(Fk:K_)(b:Int)(a:LX):x28 Fk b a=TU (λf g=>Fk (t16 b a f g)) b a:=by kernel_rfl
theorem i26(Fk:K_)(b:Int)(a:LX)(k:Int32)(f:Int):∀(q:Nat) (m:Int) (h:LB),z26 Fk q (t26 b a k f m h)=Li (λf g=>Fk (t16 b a f g)) b a k f q m h:=
 ind (λ_ _=>by kernel_rfl) λq ih m h=>Eq.trans (b:=DU (x28 Fk b a) (λm h=>(z26 Fk q) (t26 b a k f m h)) b a k f m h) (by kernel_rfl) (by simp only[e28,ih]<;>rfl)
theorem e26(Fk:K_)(b:Int)(a:LX):x26 Fk b a=TC (λf g=>Fk (t16 b a f g)) b a:=by funext k f m h;exact Eq.trans (by kernel_rfl) ((i26 Fk b a k f Dz m h).trans (by rw[Bf];rfl))
theorem e25(Fk:K_)(b:Int)(a:LX):x25 Fk b a=Nw (λf g=>Fk (t16 b a f g)) b a:=Eq.trans (b:=TJ (x26 Fk b a) b a) (by kernel_rfl) (by simp only[e26]<;>rfl)
theorem i16(b:Int)(a:LX):∀(q:Nat) (f:Int) (g:LB),z16 q (t16 b a f g)=Hr b a q f g:=
 ind (λ_ _=>by kernel_rfl) λq ih f g=>Eq.trans (b:=DY (x25 (z16 q) b a) x30 b a f g) (by kernel_rfl) (by simp only[e25,e30,ih]<;>rfl)
theorem e16:x16=lG:=by funext b a f g;exact Eq.trans (by kernel_rfl) ((i16 b a Dz f g).trans (by rw[Bf];rfl))
def F:=u2 Jq
theorem rn x:H.u P_ x=F x:=Eq.trans (b:=u2 (ZA x16) x) (by kernel_rfl) (by simp only[e16]<;>rfl)
def c:Con:=⟨H.p,H.r,F⟩
theorem ok:ConOk P_ gl 19 c:=co H func19 (.cons F63.ok .nil) rn
end F19
namespace F12
abbrev R_:=(LB×Int)
def H:Hd:=⟨[Sb,Ss,Si],[Ob 5,Si],(.seq .d (.cut [2,8,9,11] [] (.keep [0,1,2,8,9,11,12,13,14,15,16,17,18,19] true) (.seq .d (.seq .d (.cut [6,7] [⟨6,[],.own 5 (.int .u8)⟩] (.keep [2,6,7,8,30,31,32,33,34] true) .d))))),⟨[(11,F11.c),(19,F19.c),(49,F49.c),(85,F85.c),(102,F102.c),(104,F104.c)],gl,false⟩,[(51,.d),(103,(.seq .d (.cut [0,3,4,5,6,10,11] [] .d (.seq .d (.cut [4,12,13] [] .d .d)))))],f12⟩
def x6(a ac:Int):Option R_:=H.e P_ [r,r] ⟨[(2,vi a),(8,.cst .nilFunc),(9,vi 0),(11,vi ac)],[],[]⟩
def x10(ad:Int)(ae:LB):Option R_:=H.e P_ [r,r,r,r,r] ⟨[(6,.own 0),(7,vi ad)],[Ab 5 ae],[]⟩
def x9(w a h b:Int)(aa:LX)(n o p k:Int)(m:LB)(u:LX)(v f g:LI):Option R_:=H.e P_ [r,r,r,r,l,(call 2 103),r,r,r,r] ⟨[(4,.ptr 0 []),(12,.own 1),(13,vi w)],[.box 74 (.agg [vi h,vi b]),Aw 21 aa,.box 35 (.agg [.agg [vi n,vi h,vi b,vi o,vi p],vi k,.own 7]),.box 33 (.own 8),.box 27 (vb m),.box 136 (.val (.vec 16 (.int .i32)) u),.box 33 (.own 9),Ai 3 v,Ai 3 f,Ai 3 g],[[(2,vi a),(8,.fn 103 [.ptr 2 [],.ptr 3 [],.ptr 4 [],.ptr 0 [],.ptr 5 [],.ptr 6 []]),(30,.fn 103 [.ptr 2 [],.ptr 3 [],.ptr 4 [],.ptr 0 [],.ptr 5 [],.ptr 6 []]),(31,vi a)]]⟩
def x8(a k ab y:Int)(m:LB)(h b:Int)(u:LX)(n o p:Int)(g v f:LI):Option R_:=H.e P_ [r,r,r,r,l,(call 2 103),r,r] ⟨[(0,vi a),(3,.ptr 0 []),(4,.ptr 1 []),(5,.ptr 2 []),(6,.ptr 3 []),(10,vi (Ad k ab)),(11,vi (Ad k y))],[.box 27 (vb m),.box 74 (.agg [vi h,vi b]),.box 136 (.val (.vec 16 (.int .i32)) u),.box 33 (.own 6),.box 35 (.agg [.agg [vi n,vi h,vi b,vi o,vi p],vi k,.own 7]),.box 33 (.own 8),Ai 3 g,Ai 3 v,Ai 3 f],[[(2,vi a),(8,.fn 103 [.ptr 4 [],.ptr 5 [],.ptr 0 [],.ptr 1 [],.ptr 2 [],.ptr 3 []]),(30,.fn 103 [.ptr 4 [],.ptr 5 [],.ptr 0 [],.ptr 1 [],.ptr 2 [],.ptr 3 []]),(31,vi a)]]⟩
def x7(a:Int)(g:LI)(n h b o p k:Int)(m:LB)(u:LX)(v f:LI):Option R_:=H.e P_ [r,r] ⟨[(2,vi a),(8,.fn 103 [.ptr 0 [],.ptr 1 [],.ptr 2 [],.ptr 3 [],.ptr 4 [],.ptr 5 []]),(9,vi (Ac g)),(11,vi 0)],[.box 35 (.agg [.agg [vi n,vi h,vi b,vi o,vi p],vi k,.own 6]),.box 33 (.own 7),.box 27 (vb m),.box 74 (.agg [vi h,vi b]),.box 136 (.val (.vec 16 (.int .i32)) u),.box 33 (.own 8),Ai 3 v,Ai 3 f,Ai 3 g],[]⟩
theorem e6:x6=lE:=by kernel_rfl
theorem e10:x10=NP:=by kernel_rfl
theorem e9:x9=UA:=Eq.trans (b:=SY x10) (by kernel_rfl) (by simp only[e10]<;>rfl)
theorem e8:x8=TI:=Eq.trans (b:=TR x10 x9) (by kernel_rfl) (by simp only[e10,e9]<;>rfl)
theorem e7:x7=Xk:=Eq.trans (b:=TG x8) (by kernel_rfl) (by simp only[e8]<;>rfl)
def F:=u3 HD
theorem rn x:H.u P_ x=F x:=Eq.trans (b:=u3 (TN x6 x7) x) (by kernel_rfl) (by simp only[e6,e7]<;>rfl)
def c:Con:=⟨H.p,H.r,F⟩
theorem ok:ConOk P_ gl 12 c:=cr H func12 (.cons F11.ok (.cons F19.ok (.cons F49.ok (.cons F85.ok (.cons F102.ok (.cons F104.ok .nil)))))) (Eg.cons ent51 (Eg.cons ent103 Eg.nil)) rn
end F12
namespace F30
abbrev R_:=(Int×UInt8×Int×Int×Int)
def H:Hd:=⟨[Sb,Ss],[.agg [Si,Sc,Si,Si],Si],(.seq .d (.seq .d (.seq .d (.seq .d (.seq .d (.cut [0,1,4,6,7] [] .d (.seq .d (.cut [4,6,7,9] [] (.seq .d (.blk (.loop [0,1,4,6,7,9,42,43] [] .d))) .d)))))))),⟨[(11,F11.c),(12,F12.c),(31,F31.c),(77,F77.c),(78,F78.c)],gl,false⟩,[],f30⟩
def t6(p o:LB)(a:LI)(b:Int)(u:UInt8)(f g h k m n v:Int):S:=⟨[(0,vb p),(1,vs o),(4,.ptr 0 []),(6,.ptr 1 []),(7,.ptr 2 []),(9,vi (Ac a)),(42,vi (Ac a)),(43,vi v)],[.box 63 (.agg [vi 0,vc 0,vi 0,vi 0]),.box 63 (.agg [vi b,vc u,vi 0,vi 0]),.box 35 (.agg [.agg [vi f,vi g,vi h,vi k,vi m],vi n,.own 3]),Ai 3 a],[]⟩
def z6:Nat->S->Option R_:=H.i P_ [r,r,r,r,r,r,r,l,r,d]
def x8(b f g h k m n:Int)(a:LI)(w:Int)(y:UInt8)(aa:Int):Option R_:=H.e P_ [r,r,r,r,r,r,r,r] ⟨[(4,.ptr 0 []),(6,.ptr 1 []),(7,.ptr 2 []),(9,vi w)],[.box 63 (.agg [vi 0,vc 0,vi 0,vi 0]),.box 63 (.agg [vi b,vc y,vi aa,vi 0]),.box 35 (.agg [.agg [vi f,vi g,vi h,vi k,vi m],vi n,.own 3]),Ai 3 a],[]⟩
def x6(p o:LB)(a:LI)(b:Int)(u:UInt8)(f g h k m n v:Int):Option R_:=H.e P_ [r,r,r,r,r,r,r,l,r,d] (t6 p o a b u f g h k m n v)
def x5(p o:LB)(b f g h k m n:Int)(a:LI)(u:UInt8):Option R_:=H.e P_ [r,r,r,r,r,r] ⟨[(0,vb p),(1,vs o),(4,.ptr 0 []),(6,.ptr 1 []),(7,.ptr 2 [])],[.box 63 (.agg [vi 0,vc 0,vi 0,vi 0]),.box 63 (.agg [vi b,vc u,vi 0,vi 0]),.box 35 (.agg [.agg [vi f,vi g,vi h,vi k,vi m],vi n,.own 3]),Ai 3 a],[]⟩
theorem e8:x8=IK:=by kernel_rfl
theorem i6(p o:LB)(a:LI)(b:Int)(u:UInt8)(f g h k m n:Int):∀(q:Nat) (v:Int),z6 q (t6 p o a b u f g h k m n v)=Vt p o a b u f g h k m n q v:=
 ind (λ_=>by kernel_rfl) λq ih v=>Eq.trans (b:=HQ x8 (λv=>(z6 q) (t6 p o a b u f g h k m n v)) p o a b u f g h k m n v) (by kernel_rfl) (by simp only[e8,ih]<;>rfl)
theorem e6:x6=nW:=by funext p o a b u f g h k m n v;exact Eq.trans (by kernel_rfl) ((i6 p o a b u f g h k m n Dz v).trans (by rw[Bf];rfl))
theorem e5:x5=WM:=Eq.trans (b:=ZY x6) (by kernel_rfl) (by simp only[e6]<;>rfl)
def F:=u2 Sr
theorem rn x:H.u P_ x=F x:=Eq.trans (b:=u2 (IV x5) x) (by kernel_rfl) (by simp only[e5]<;>rfl)
def c:Con:=⟨H.p,H.r,F⟩
theorem ok:ConOk P_ gl 30 c:=co H func30 (.cons F11.ok (.cons F12.ok (.cons F31.ok (.cons F77.ok (.cons F78.ok .nil))))) rn
end F30
namespace F74
def H:Hd:=⟨[Sb,Si,.agg [Si,Sc,Si,Si],Si],[Sz],.d,⟨[(29,F29.c),(30,F30.c),(32,F32.c)],gl,false⟩,[],f74⟩
def F:=u7 Gi
theorem rn x:H.u P_ x=F x:=by kernel_rfl
def c:Con:=⟨H.p,H.r,F⟩
theorem ok:ConOk P_ gl 74 c:=co H func74 (.cons F29.ok (.cons F30.ok (.cons F32.ok .nil))) rn
end F74
namespace F27
def H:Hd:=⟨[],[Sz],.d,⟨[(73,F73.c),(74,F74.c)],gl,false⟩,[],f27⟩
noncomputable def F(x:Unit):=Wq
theorem rn x:H.u P_ x=F x:=by kernel_rfl
def c:Con:=⟨H.p,H.r,F⟩
theorem ok:ConOk P_ gl 27 c:=co H func27 (.cons F73.ok (.cons F74.ok .nil)) rn
end F27
namespace F36
def H:Hd:=⟨[.agg [Si,Si,Si,Sw]],[.agg [Si,Si]],.d,⟨[],gl,false⟩,[],f36⟩
def F:=u4 Jn
theorem rn x:H.u P_ x=F x:=by kernel_rfl
def c:Con:=⟨H.p,H.r,F⟩
theorem ok:ConOk P_ gl 36 c:=co H func36 .nil rn
end F36
namespace F119
def H:Hd:=⟨[Si],[Si],.d,⟨[],gl,false⟩,[],f119⟩
def F:=Kf
theorem rn x:H.u P_ x=F x:=by kernel_rfl
def c:Con:=⟨H.p,H.r,F⟩
theorem ok:ConOk P_ gl 119 c:=co H func119 .nil rn
end F119
namespace F80
def H:Hd:=⟨[.agg [Si,Si]],[Si],.d,⟨[(119,F119.c)],gl,false⟩,[],f80⟩
def F:=u2 Di
theorem rn x:H.u P_ x=F x:=by kernel_rfl
def c:Con:=⟨H.p,H.r,F⟩
theorem ok:ConOk P_ gl 80 c:=co H func80 (.cons F119.ok .nil) rn
end F80
namespace F81
abbrev R_:=Int
def H:Hd:=⟨[Si,Sw],[Si],(.seq .d (.seq .d (.seq .d (.seq .d (.cut [] [] (.seq .d (.blk (.loop [1,5,6] [] .d))) .d))))),⟨[(119,F119.c)],gl,false⟩,[],f81⟩
def t4(a:LX)(b f:Int):S:=⟨[(1,vw a),(5,vi b),(6,vi f)],[],[]⟩
def z4:Nat->S->Option R_:=H.i P_ [r,r,r,r,l,r,d]
def x6:Option R_:=H.e P_ [r,r,r,r,r] ⟨[],[],[]⟩
def x4(a:LX)(b f:Int):Option R_:=H.e P_ [r,r,r,r,l,r,d] (t4 a b f)
theorem e6:x6=MN:=by kernel_rfl
theorem i4(a:LX)(b:Int):∀(q:Nat) (f:Int),z4 q (t4 a b f)=Az a b q f:=
 ind (λ_=>by kernel_rfl) λq ih f=>Eq.trans (b:=Cu x6 (λf=>(z4 q) (t4 a b f)) a b f) (by kernel_rfl) (by simp only[e6,ih]<;>rfl)
theorem e4:x4=MA:=by funext a b f;exact Eq.trans (by kernel_rfl) ((i4 a b Dz f).trans (by rw[Bf];rfl))
def F:=u2 Ay
theorem rn x:H.u P_ x=F x:=Eq.trans (b:=u2 (Dq x4) x) (by kernel_rfl) (by simp only[e4]<;>rfl)
def c:Con:=⟨H.p,H.r,F⟩
theorem ok:ConOk P_ gl 81 c:=co H func81 (.cons F119.ok .nil) rn
end F81
namespace F35
def H:Hd:=⟨[.agg [Si,Si],Sw],[Si],.d,⟨[(80,F80.c),(81,F81.c)],gl,false⟩,[],f35⟩
def F:=u3 Cx
theorem rn x:H.u P_ x=F x:=by kernel_rfl
def c:Con:=⟨H.p,H.r,F⟩
theorem ok:ConOk P_ gl 35 c:=co H func35 (.cons F80.ok (.cons F81.ok .nil)) rn
end F35
namespace F82
def H:Hd:=⟨[.agg [Si,Si],Si],[Si],.d,⟨[(80,F80.c)],gl,false⟩,[],f82⟩
def F:=u3 Dh
theorem rn x:H.u P_ x=F x:=by kernel_rfl
def c:Con:=⟨H.p,H.r,F⟩
theorem ok:ConOk P_ gl 82 c:=co H func82 (.cons F80.ok .nil) rn
end F82
namespace F153
def H:Hd:=⟨[Si],[Si,Si],.d,⟨[],gl,false⟩,[],f153⟩
def F:=Te
theorem rn x:H.u P_ x=F x:=by kernel_rfl
def c:Con:=⟨H.p,H.r,F⟩
theorem ok:ConOk P_ gl 153 c:=co H func153 .nil rn
end F153
namespace F120
abbrev R_:=(LI×Int)
def H:Hd:=⟨[Si,Si],[Ol 3,Si],(.seq .d (.seq .d (.seq .d (.seq .d (.cut [8] [] (.blk (.loop [1,6,8] [⟨8,[],.own 3 (.int .i64)⟩] .d)) .d))))),⟨[(153,F153.c)],gl,false⟩,[],f120⟩
def t4(b f:Int)(a:LI):S:=⟨[(1,vi f),(6,vi b),(8,.own 0)],[Ai 3 a],[]⟩
def z4:Nat->S->Option R_:=H.i P_ [r,r,r,r,l,d]
def x6(a:LI):Option R_:=H.e P_ [r,r,r,r,r] ⟨[(8,.own 0)],[Ai 3 a],[]⟩
def x4(b f:Int)(a:LI):Option R_:=H.e P_ [r,r,r,r,l,d] (t4 b f a)
theorem e6:x6=CJ:=by kernel_rfl
theorem i4(b:Int):∀(q:Nat) (f:Int) (a:LI),z4 q (t4 b f a)=Ld b q f a:=
 ind (λ_ _=>by kernel_rfl) λq ih f a=>Eq.trans (b:=Ul x6 (λf a=>(z4 q) (t4 b f a)) b f a) (by kernel_rfl) (by simp only[e6,ih]<;>rfl)
theorem e4:x4=CA:=by funext b f a;exact Eq.trans (by kernel_rfl) ((i4 b Dz f a).trans (by rw[Bf];rfl))
def F:=u2 BK
theorem rn x:H.u P_ x=F x:=Eq.trans (b:=u2 (Uo x4) x) (by kernel_rfl) (by simp only[e4]<;>rfl)
def c:Con:=⟨H.p,H.r,F⟩
theorem ok:ConOk P_ gl 120 c:=co H func120 (.cons F153.ok .nil) rn
end F120
namespace F83
def H:Hd:=⟨[Si,Si],[Si,Si],.d,⟨[(120,F120.c)],gl,false⟩,[],f83⟩
def F:=u2 Me
theorem rn x:H.u P_ x=F x:=by kernel_rfl
def c:Con:=⟨H.p,H.r,F⟩
theorem ok:ConOk P_ gl 83 c:=co H func83 (.cons F120.ok .nil) rn
end F83
namespace F37
def H:Hd:=⟨[.agg [Si,Si,Si,Sw],Si],[Sz],.d,⟨[(36,F36.c),(82,F82.c),(83,F83.c)],gl,false⟩,[],f37⟩
def F:=u5 LJ
theorem rn x:H.u P_ x=F x:=by kernel_rfl
def c:Con:=⟨H.p,H.r,F⟩
theorem ok:ConOk P_ gl 37 c:=co H func37 (.cons F36.ok (.cons F82.ok (.cons F83.ok .nil))) rn
end F37
namespace F9
def H:Hd:=⟨[.agg [Si,Si,Si,Sw]],[Si],.d,⟨[(35,F35.c),(36,F36.c),(37,F37.c)],gl,false⟩,[],f9⟩
def F:=u4 Dr
theorem rn x:H.u P_ x=F x:=by kernel_rfl
def c:Con:=⟨H.p,H.r,F⟩
theorem ok:ConOk P_ gl 9 c:=co H func9 (.cons F35.ok (.cons F36.ok (.cons F37.ok .nil))) rn
end F9
namespace F17
def H:Hd:=⟨[Ss],[.agg [Ss,Ob 5,.agg [Si,Si,Si,Si,Si],Ol 3,Si,Ob 5,Sz,Si],Si],.d,⟨[],gl,false⟩,[],f17⟩
def F:=aU
theorem rn x:H.u P_ x=F x:=by kernel_rfl
def c:Con:=⟨H.p,H.r,F⟩
theorem ok:ConOk P_ gl 17 c:=co H func17 .nil rn
end F17
namespace F112
def Tk(a:LI):Option (LI):=
U5 a (
some ([]:LI)) (
(Et ([]:LI) a).bind λb=>
some b)
theorem VO: @Tk= @Hn:=by
  unfold Tk Hn
  repeat (refine funext λ_=>?_)
  repeat' first
    |with_reducible rfl
    |with_reducible refine Oo ?_ ?_
    |with_reducible refine Oi ?_ ?_ ?_
    |with_reducible refine Og ?_ ?_ ?_ ?_
    |((with_reducible refine Uf ?_ ?_);focus (intro h;first|(subst h;rfl)|(simp only[h];rfl)|(simp[Et,Ac,h];done)))
    |with_reducible refine Uh λx=>?_
    |with_reducible refine CR (λ_=>?_) (λ_=>?_)
    |(refine Ij (λh=>by simp only[h,Ub,Fm,Fa,ite_self]) (λx h=>?_);(try simp only[h,Fm]))
    |(refine Lf (λh=>?_) (λh=>?_)<;>simp only[h,if_true,if_false,Bool.false_eq_true])
def H:Hd:=⟨[Sl],[Ol 3],.d,⟨[],gl,false⟩,[],f112⟩
def F:=Hn
theorem rn x:H.u P_ x=F x:=Eq.trans (b:=Tk x) (by kernel_rfl) (by rw[VO];rfl)
def c:Con:=⟨H.p,H.r,F⟩
theorem ok:ConOk P_ gl 112 c:=co H func112 .nil rn
end F112
namespace F61
def H:Hd:=⟨[.agg [Ss,Sb,.agg [Si,Si,Si,Si,Si],Sl,Si,Sb,Sz,Si]],[.agg [Ss,Ob 5,.agg [Si,Si,Si,Si,Si],Ol 3,Si,Ob 5,Sz,Si]],.d,⟨[(75,F75.c),(112,F112.c)],gl,false⟩,[],f61⟩
def F:=u12 Ek
theorem rn x:H.u P_ x=F x:=by kernel_rfl
def c:Con:=⟨H.p,H.r,F⟩
theorem ok:ConOk P_ gl 61 c:=co H func61 (.cons F75.ok (.cons F112.ok .nil)) rn
end F61
namespace F151
def H:Hd:=⟨[.agg [Si,Si,Si,Si,Si],Ss],[Si],.d,⟨[],gl,false⟩,[],f151⟩
def F:=u6 Qs
theorem rn x:H.u P_ x=F x:=by kernel_rfl
def c:Con:=⟨H.p,H.r,F⟩
theorem ok:ConOk P_ gl 151 c:=co H func151 .nil rn
end F151
namespace F148
abbrev R_:=Bool
def H:Hd:=⟨[.agg [Ss,Sb,.agg [Si,Si,Si,Si,Si],Sl,Si,Sb,Sz,Si]],[Sz],(.seq .d (.seq .d (.seq .d (.cut [1,3] [] .d (.seq .d (.seq .d (.seq .d (.cut [1,5] [] (.seq .d (.blk (.loop [1,5,83,84,85] [] .d))) .d)))))))),⟨[(49,F49.c),(93,F93.c),(151,F151.c)],gl,false⟩,[],f148⟩
def t6(y:LI)(o p:LB)(h b f k m:Int)(g:LI)(a:Int)(n:LB)(u:Bool)(v w aa:Int):S:=⟨[(1,.ptr 0 []),(5,vi w),(83,vl y),(84,vi (Ac y)),(85,vi aa)],[.box 46 (.agg [vs o,vb p,.agg [vi h,vi b,vi f,vi k,vi m],vl g,vi a,vb n,vt u,vi v])],[]⟩
def z6:Nat->S->Option R_:=H.i P_ [r,r,r,r,r,r,r,l,r,d]
def x8(w:Int)(o p:LB)(h b f k m:Int)(g:LI)(a:Int)(n:LB)(u:Bool)(v:Int):Option R_:=H.e P_ [r,r,r,r,r,r,r,r] ⟨[(1,.ptr 0 []),(5,vi w)],[.box 46 (.agg [vs o,vb p,.agg [vi h,vi b,vi f,vi k,vi m],vl g,vi a,vb n,vt u,vi v])],[]⟩
def x6(y:LI)(o p:LB)(h b f k m:Int)(g:LI)(a:Int)(n:LB)(u:Bool)(v w aa:Int):Option R_:=H.e P_ [r,r,r,r,r,r,r,l,r,d] (t6 y o p h b f k m g a n u v w aa)
def x5(o p:LB)(h b f k m:Int)(g:LI)(a:Int)(n:LB)(u:Bool)(v:Int)(ab:LI):Option R_:=H.e P_ [r,r,r,r] ⟨[(1,.ptr 0 []),(3,.own 1)],[.box 46 (.agg [vs o,vb p,.agg [vi h,vi b,vi f,vi k,vi m],vl g,vi a,vb n,vt u,vi v]),Ai 3 ab],[]⟩
theorem e8:x8=UB:=by kernel_rfl
theorem i6(y:LI)(o p:LB)(h b f k m:Int)(g:LI)(a:Int)(n:LB)(u:Bool)(v:Int):∀(q:Nat) (w aa:Int),z6 q (t6 y o p h b f k m g a n u v w aa)=Sg y o p h b f k m g a n u v q w aa:=
 ind (λ_ _=>by kernel_rfl) λq ih w aa=>Eq.trans (b:=EB x8 (λw aa=>(z6 q) (t6 y o p h b f k m g a n u v w aa)) y o p h b f k m g a n u v w aa) (by kernel_rfl) (by simp only[e8,ih]<;>rfl)
theorem e6:x6=SU:=by funext y o p h b f k m g a n u v w aa;exact Eq.trans (by kernel_rfl) ((i6 y o p h b f k m g a n u v Dz w aa).trans (by rw[Bf];rfl))
theorem e5:x5=TB:=Eq.trans (b:=SX x6) (by kernel_rfl) (by simp only[e6]<;>rfl)
def F:=u12 BO
theorem rn x:H.u P_ x=F x:=Eq.trans (b:=u12 (TM x5) x) (by kernel_rfl) (by simp only[e5]<;>rfl)
def c:Con:=⟨H.p,H.r,F⟩
theorem ok:ConOk P_ gl 148 c:=co H func148 (.cons F49.ok (.cons F93.ok (.cons F151.ok .nil))) rn
end F148
namespace F111
def H:Hd:=⟨[Si],[.agg [Sz,Si]],.d,⟨[],gl,false⟩,[],f111⟩
def F:=Al
theorem rn x:H.u P_ x=F x:=by kernel_rfl
def c:Con:=⟨H.p,H.r,F⟩
theorem ok:ConOk P_ gl 111 c:=co H func111 .nil rn
end F111
namespace F150
abbrev R_:=Bool
def H:Hd:=⟨[Sb],[Sz],(.seq .d (.cut [] [] (.seq .d (.blk (.loop [0,5,6] [] .d))) .d)),⟨[(96,F96.c)],gl,false⟩,[],f150⟩
def t4(a:LB)(b:Int):S:=⟨[(0,vb a),(5,.val (.vec 2 .str) ([([73,68,51]:LB),([65,80,69,84,65,71,69,88]:LB)]:List LB)),(6,vi b)],[],[]⟩
def z4:Nat->S->Option R_:=H.i P_ [r,l,r,d]
def x6:Option R_:=H.e P_ [r,r] ⟨[],[],[]⟩
def x4(a:LB)(b:Int):Option R_:=H.e P_ [r,l,r,d] (t4 a b)
theorem e6:x6=lU:=by kernel_rfl
theorem i4(a:LB):∀(q:Nat) (b:Int),z4 q (t4 a b)=Lh a q b:=
 ind (λ_=>by kernel_rfl) λq ih b=>Eq.trans (b:=Xr x6 (λb=>(z4 q) (t4 a b)) a b) (by kernel_rfl) (by simp only[e6,ih]<;>rfl)
theorem e4:x4=TT:=by funext a b;exact Eq.trans (by kernel_rfl) ((i4 a Dz b).trans (by rw[Bf];rfl))
def F:=Tc
theorem rn x:H.u P_ x=F x:=Eq.trans (b:=TO x4 x) (by kernel_rfl) (by simp only[e4]<;>rfl)
def c:Con:=⟨H.p,H.r,F⟩
theorem ok:ConOk P_ gl 150 c:=co H func150 (.cons F96.ok .nil) rn
end F150
namespace F152
def H:Hd:=⟨[.agg [Si,Si,Si,Si,Si]],[.agg [Si,Si]],.d,⟨[],gl,false⟩,[],f152⟩
def F:=u5 DG
theorem rn x:H.u P_ x=F x:=by kernel_rfl
def c:Con:=⟨H.p,H.r,F⟩
theorem ok:ConOk P_ gl 152 c:=co H func152 .nil rn
end F152
namespace F203
abbrev R_:=Int
def H:Hd:=⟨[Sl,Si],[Si],(.seq .d (.cut [] [] (.seq .d (.blk (.loop [0,1,7,8] [] .d))) .d)),⟨[],gl,false⟩,[],f203⟩
def t4(a:LI)(b f:Int):S:=⟨[(0,vl a),(1,vi b),(7,vi (Ac a)),(8,vi f)],[],[]⟩
def z4:Nat->S->Option R_:=H.i P_ [r,l,r,d]
def x6:Option R_:=H.e P_ [r,r] ⟨[],[],[]⟩
def x4(a:LI)(b f:Int):Option R_:=H.e P_ [r,l,r,d] (t4 a b f)
theorem e6:x6=Ps:=by kernel_rfl
theorem i4(a:LI)(b:Int):∀(q:Nat) (f:Int),z4 q (t4 a b f)=Ch a b q f:=
 ind (λ_=>by kernel_rfl) λq ih f=>Eq.trans (b:=Fl x6 (λf=>(z4 q) (t4 a b f)) a b f) (by kernel_rfl) (by simp only[e6,ih]<;>rfl)
theorem e4:x4=Jc:=by funext a b f;exact Eq.trans (by kernel_rfl) ((i4 a b Dz f).trans (by rw[Bf];rfl))
def F:=u2 Ka
theorem rn x:H.u P_ x=F x:=Eq.trans (b:=u2 (Jb x4) x) (by kernel_rfl) (by simp only[e4]<;>rfl)
def c:Con:=⟨H.p,H.r,F⟩
theorem ok:ConOk P_ gl 203 c:=co H func203 .nil rn
end F203
namespace F180
def H:Hd:=⟨[Sl,Si],[Sz],.d,⟨[(203,F203.c)],gl,false⟩,[],f180⟩
def F:=u2 Iv
theorem rn x:H.u P_ x=F x:=by kernel_rfl
def c:Con:=⟨H.p,H.r,F⟩
theorem ok:ConOk P_ gl 180 c:=co H func180 (.cons F203.ok .nil) rn
end F180
namespace F149
def H:Hd:=⟨[Si],[Sz],.d,⟨[(180,F180.c)],gl,false⟩,[],f149⟩
def F:=Tp
theorem rn x:H.u P_ x=F x:=by kernel_rfl
def c:Con:=⟨H.p,H.r,F⟩
theorem ok:ConOk P_ gl 149 c:=co H func149 (.cons F180.ok .nil) rn
end F149
namespace F107
def EO(j28:Bool->Int->Option Int)(w ah:Int)(g a:LB)(k p o u v b:Int)(m:Bool)(n:Int)(ao:LX)(f:LI)(h:LB):Option Int:=
if(Be ah 0)then
(Al ah).bind λ(br,bs)=>
j28 br bs
else
(Jq o ao).bind λ(bt,be)=>
if(Be be 0)then
(Al be).bind λ(bu,bv)=>
j28 bu bv
else
(Et h bt).bind λdv=>
(λfa:Option Int=>
bo (
fa)) (
(Bm a w (Ac a)).bind λdw=>
j28 false 0)
theorem mM: @EO= @Zd:=by
  unfold EO Zd;simp only[eY,NW,OM]
def KY(j13:Bool->Int->Option Int)(j12:LB->LB->Int->Int->Int->Int->Int->Int->Bool->Int->LI->LB->Option Int)(j25:Bool->Int->Option Int)(j23:LB->LB->Int->Int->Int->Int->Int->Int->Bool->Int->LI->LB->Option Int)(j24:LB->LB->Int->Int->Int->Int->Int->Int->Bool->Int->LI->LB->Int->Option Int)(j28:Bool->Int->Option Int)(j26:Int->LB->LB->Int->Int->Int->Int->Int->Int->Bool->Int->LX->LI->LI->LB->Option Int)(j22:Bool->Option Int)(j21:Option Int)(aq ar:LB)(au av aw ax ay:Int)(az:LI)(ai:Int)(aj:LB)(ac:Bool)(y:Int):Option Int:=
if(Ex (Ac aq) 64)then
some 8
else
if((geq y 0)&&(!ac))then
(Ek aq ar au av aw ax ay az ai aj ac y).bind λ(g,a,k,p,o,u,v,f,b,h,m,n)=>
(BO aq ar au av aw ax ay az ai aj ac y).bind λbw=>
if bw then
if(geq k 0)then
(Ir a).bind λ(al,ba)=>
if(geq ba 24)then
j13 true 0
else
if(Be ba 0)then
(Al ba).bind λ(bx,bz)=>
j13 bx bz
else
(Bm a al (Ac a)).bind λda=>
(Tc da).bind λan=>
if an then
j13 true 0
else
(Bm a al (Ac a)).bind λdb=>
(Lk db).bind λ(ae,af,aa,ag,ab,bb)=>
if(geq bb 24)then
j13 true 0
else
if(Be bb 0)then
(Al bb).bind λ(dc,dd)=>
j13 dc dd
else
both (
(Bm a (Ad al 22) (Ac a)).bind λak=>
(λfb:Option Int=>
bo (
fb)) (
j12 g ak ae af aa ag ab b m n f h)) [
(Bm a (Ad al 22) (Ac a)).bind λak=>
j12 g ak ae af aa ag ab b m n f h]
else
if(geq (Ac f) 0)then
if(geq k 2)then
if(Cj (Ac a) 8)then
j25 true 0
else
j23 g a k p o u v b m n f h
else
j24 g a k p o u v b m n f h 0
else
if(Cj b (Ac f))then
(Ao f b).bind λ_=>
(Ao f b).bind λw=>
if(Cj (Ac a) w)then
j28 true 0
else
(Qe g).bind λ(ap,am)=>
if(Be am 0)then
(Al am).bind λ(de,df)=>
j28 de df
else
(Dl k p o u v).bind λ(ad,dg)=>
if((Be dg 0)||(Nj b (Ac ad)))then
(Al 8).bind λ(dh,di)=>
j28 dh di
else
j26 w g a k p o u v b m n ap ad f h
else
if(Ex (Ac a) 4000)then
(Al 38).bind λ(dj,bf)=>
j22 ((dj==true)&&((geq bf 0)&&true))
else
j21
else
j22 false
else
if((geq (Ac ar) 0)&&(geq (Ac az) 0))then
if((((geq au 0)&&((geq av 0)&&((geq aw 0)&&((geq ax 0)&&((geq ay 0)&&true)))))&&(geq ai 0))&&(oz (Ac aj) 12000))then
if(geq y 0)then
j22 true
else
if(!ac)then
(Tp y).bind λdk=>
j22 dk
else
j22 false
else
j22 false
else
if((false&&(geq ai 0))&&(oz (Ac aj) 12000))then
if(geq y 0)then
j22 true
else
if(!ac)then
(Tp y).bind λdl=>
j22 dl
else
j22 false
else
j22 false
theorem oR: @KY= @BQ:=by
  unfold KY BQ
  try simp only[eY,NW,OM]
  all_goals
    repeat (refine funext λ_=>?_)
    repeat' first
      |with_reducible rfl
      |with_reducible refine Oo ?_ ?_
      |with_reducible refine Oi ?_ ?_ ?_
      |with_reducible refine Og ?_ ?_ ?_ ?_
      |((with_reducible refine Uf ?_ ?_);focus (intro h;first|(subst h;rfl)|(simp only[h];rfl)|(simp[Et,Ac,h];done)))
      |with_reducible refine Uh λx=>?_
      |with_reducible refine CR (λ_=>?_) (λ_=>?_)
      |(refine Ij (λh=>by simp only[h,Ub,Fm,Fa,ite_self]) (λx h=>?_);(try simp only[h,Fm]))
      |(refine Lf (λh=>?_) (λh=>?_)<;>simp only[h,if_true,if_false,Bool.false_eq_true])
abbrev R_:=Int
def H:Hd:=⟨[.agg [Ss,Sb,.agg [Si,Si,Si,Si,Si],Sl,Si,Sb,Sz,Si]],[Si],(.seq .d (.seq .d (.seq .d (.cut [3] [] (.seq .d (.cond (.seq .d (.keep [3,21,22,23,24,25] false)) .d)) .d)))),⟨[(19,F19.c),(46,Pv),(47,F47.c),(48,F48.c),(49,F49.c),(50,F50.c),(61,F61.c),(85,F85.c),(104,F104.c),(111,F111.c),(148,F148.c),(149,F149.c),(150,F150.c),(151,F151.c),(152,F152.c)],gl,false⟩,[(60,(.seq .d (.cut [2] [] (.blk (.seq .d (.cond (.cut [2] [] (.keep [2,11] true) .d) (.seq .d (.cond (.cut [2] [] (.keep [2,20] true) .d) (.seq .d (.cond (.cut [2] [] (.keep [2,33] true) .d) .d))))))) .d))),(108,(.seq .d (.seq .d (.seq .d (.seq .d (.seq .d (.cut [0,2,5] [] (.mode false) .d))))))),(109,(.seq .d (.seq .d (.cut [0,2,3] [⟨0,[1],.ro (.int .u8)⟩] (.seq .d (.cond (.seq .d (.cut [0,2,3] [⟨0,[1],.ro (.int .u8)⟩,⟨9,[1],.ro (.int .u8)⟩,⟨10,[1],.ro (.int .u8)⟩,⟨15,[1],.ro (.int .u8)⟩,⟨16,[1],.ro (.int .u8)⟩,⟨18,[],.ro (.int .u8)⟩] .d (.cut [0,2,3,4,5] [] .d .d))) .d)) .d)))),(110,(.seq .d (.seq .d (.seq .d (.seq .d (.seq .d (.seq .d (.cut [0,2,3,4,6] [⟨0,[1],.ro (.int .u8)⟩,⟨9,[1],.ro (.int .u8)⟩,⟨10,[1],.ro (.int .u8)⟩,⟨13,[1],.ro (.int .u8)⟩,⟨14,[1],.ro (.int .u8)⟩,⟨19,[1],.ro (.int .u8)⟩,⟨20,[1],.ro (.int .u8)⟩,⟨22,[],.ro (.int .u8)⟩,⟨28,[1],.ro (.int .u8)⟩,⟨29,[1],.ro (.int .u8)⟩,⟨40,[1],.ro (.int .u8)⟩,⟨41,[1],.ro (.int .u8)⟩] .d (.cut [0,2,3,5,7] [] .d (.seq .d (.seq .d (.seq .d (.seq .d (.seq (.mode false) .d))))))))))))))],f107⟩
def x22(bi:Bool):Option R_:=H.e P_ [r,r,r,r] ⟨[(3,vt bi)],[],[]⟩
def x21:Option R_:=H.e P_ [r,r,r,l,r,l,r,(dcall 3 60 3 #[true,true,true,true,true,true,true,true] #[true,true,true,true,true,false,false,false]),r,r] ⟨[(2,.ptr 0 [])],[.box 108 (.agg [vt false,vi 0])],[[(3,vt false),(21,.cst (.bool true)),(23,.agg [vt true,vi 0])]]⟩
def x13(bj:Bool)(bk:Int):Option R_:=H.e P_ [r,r,r,l,r,l,r,(dcall 3 60 3 #[true,true,true,true,true,true,true,true] #[true,true,true,true,true,false,false,false]),r,l,d,r,l,r] ⟨[(2,.ptr 0 [])],[.box 108 (.agg [vt bj,vi bk])],[[(3,vt false),(21,.cst (.bool true)),(23,.agg [vt true,vi 0])]]⟩
def x12(g ak:LB)(ae af aa ag ab b:Int)(m:Bool)(n:Int)(f:LI)(h:LB):Option R_:=H.e P_ [r,r,r,l,r,l,r,(dcall 3 60 3 #[true,true,true,true,true,true,true,true] #[true,true,true,true,true,false,false,false]),r,l,d,r,l,l,(call 1 108),r,r,r,r,r,r] ⟨[(0,.ptr 0 []),(2,.ptr 1 []),(5,.ptr 2 [])],[.box 46 (.agg [vs g,vb ak,.agg [vi ae,vi af,vi aa,vi ag,vi ab],.own 4,vi b,.own 5,vt m,vi n]),.box 108 (.agg [vt false,vi 0]),.box 32 (.agg [vi ae,vi af,vi aa,vi ag,vi ab]),.box 108 (.agg [vt false,vi 0]),Ai 3 f,Ab 5 h],[[(2,.ptr 3 [])],[(3,vt false),(21,.cst (.bool true)),(23,.agg [vt true,vi 0])]]⟩
def x25(bl:Bool)(bm:Int):Option R_:=H.e P_ [r,r,r,l,r,l,r,(dcall 3 60 3 #[true,true,true,true,true,true,true,true] #[true,true,true,true,true,false,false,false]),r,l,d,r,r,r,l,r] ⟨[(2,.ptr 0 [])],[.box 108 (.agg [vt bl,vi bm])],[[(3,vt false),(21,.cst (.bool true)),(23,.agg [vt true,vi 0])]]⟩
def x24(g a:LB)(k p o u v b:Int)(m:Bool)(n:Int)(f:LI)(h:LB)(bg:Int):Option R_:=H.e P_ [r,r,r,l,r,l,r,(dcall 3 60 3 #[true,true,true,true,true,true,true,true] #[true,true,true,true,true,false,false,false]),r,l,d,r,r,r,l,l,(call 1 109),r,r,r] ⟨[(0,.ptr 0 []),(2,.ptr 1 []),(3,vi bg)],[.box 46 (.agg [vs g,vb a,.agg [vi k,vi p,vi o,vi u,vi v],.own 3,vi b,.own 4,vt m,vi n]),.box 108 (.agg [vt false,vi 0]),.box 108 (.agg [vt false,vi 0]),Ai 3 f,Ab 5 h],[[(2,.ptr 2 [])],[(3,vt false),(21,.cst (.bool true)),(23,.agg [vt true,vi 0])]]⟩
def x15(bd:Bool)(bc:Int)(g a:LB)(k p o u v b:Int)(m:Bool)(n:Int)(f:LI)(h:LB):Option R_:=H.e P_ [r,r,r,l,r,l,r,(dcall 3 60 3 #[true,true,true,true,true,true,true,true] #[true,true,true,true,true,false,false,false]),r,l,d,r,r,r,l,l,(call 1 109),r,r,l,r,l,r,r,r] ⟨[(0,.ptr 0 []),(2,.ptr 1 []),(3,vi 8),(4,vt bd),(5,vi bc)],[.box 46 (.agg [vs g,vb a,.agg [vi k,vi p,vi o,vi u,vi v],.own 3,vi b,.own 4,vt m,vi n]),.box 108 (.agg [vt false,vi 0]),.box 108 (.agg [vt false,vi 0]),Ai 3 f,Ab 5 h],[[(2,.ptr 2 [])],[(3,vt false),(21,.cst (.bool true)),(23,.agg [vt true,vi 0])]]⟩
def x23(g a:LB)(k p o u v b:Int)(m:Bool)(n:Int)(f:LI)(h:LB):Option R_:=H.e P_ [r,r,r,l,r,l,r,(dcall 3 60 3 #[true,true,true,true,true,true,true,true] #[true,true,true,true,true,false,false,false]),r,l,d,r,r,r,l,l,(call 1 109),r,r,l,r,l,r,r] ⟨[(0,.ptr 0 []),(2,.ptr 1 []),(3,vi 8)],[.box 46 (.agg [vs g,vb a,.agg [vi k,vi p,vi o,vi u,vi v],.own 3,vi b,.own 4,vt m,vi n]),.box 108 (.agg [vt false,vi 0]),.box 108 (.agg [vt false,vi 0]),Ai 3 f,Ab 5 h],[[(2,.ptr 2 [])],[(3,vt false),(21,.cst (.bool true)),(23,.agg [vt true,vi 0])]]⟩
def x28(bp:Bool)(bq:Int):Option R_:=H.e P_ [r,r,r,l,r,l,r,(dcall 3 60 3 #[true,true,true,true,true,true,true,true] #[true,true,true,true,true,false,false,false]),r,l,d,r,r,r,r,r,l,r] ⟨[(2,.ptr 0 [])],[.box 108 (.agg [vt bp,vi bq])],[[(3,vt false),(21,.cst (.bool true)),(23,.agg [vt true,vi 0])]]⟩
def x27(w ah:Int)(g a:LB)(k p o u v b:Int)(m:Bool)(n:Int)(ao:LX)(f:LI)(h:LB):Option R_:=H.e P_ [r,r,r,l,r,l,r,(dcall 3 60 3 #[true,true,true,true,true,true,true,true] #[true,true,true,true,true,false,false,false]),r,l,d,r,r,r,r,r,l,l,(call 1 110),r,r,r,r,r,r,r,r] ⟨[(0,.ptr 0 []),(2,.ptr 1 []),(3,vi w),(5,vi ah),(7,.own 2)],[.box 46 (.agg [vs g,vb a,.agg [vi k,vi p,vi o,vi u,vi v],.own 4,vi b,.own 5,vt m,vi n]),.box 108 (.agg [vt false,vi 0]),Aw 21 ao,.box 108 (.agg [vt false,vi 0]),Ai 3 f,Ab 5 h],[[(2,.ptr 3 [])],[(3,vt false),(21,.cst (.bool true)),(23,.agg [vt true,vi 0])]]⟩
def x26(w:Int)(g a:LB)(k p o u v b:Int)(m:Bool)(n:Int)(ap:LX)(ad f:LI)(h:LB):Option R_:=H.e P_ [r,r,r,l,r,l,r,(dcall 3 60 3 #[true,true,true,true,true,true,true,true] #[true,true,true,true,true,false,false,false]),r,l,d,r,r,r,r,r,l,l,(call 1 110),r,r,r,r,r,r,r] ⟨[(0,.ptr 0 []),(2,.ptr 1 []),(3,vi w),(4,.ptr 2 []),(6,.own 3)],[.box 46 (.agg [vs g,vb a,.agg [vi k,vi p,vi o,vi u,vi v],.own 5,vi b,.own 6,vt m,vi n]),.box 108 (.agg [vt false,vi 0]),.box 136 (.val (.vec 16 (.int .i32)) ap),Ai 3 ad,.box 108 (.agg [vt false,vi 0]),Ai 3 f,Ab 5 h],[[(2,.ptr 4 [])],[(3,vt false),(21,.cst (.bool true)),(23,.agg [vt true,vi 0])]]⟩
theorem e22:x22=Cb:=by kernel_rfl
theorem e21:x21=Zf:=Eq.trans (b:=HG x22) (by kernel_rfl) (by simp only[e22]<;>rfl)
theorem e13:x13=Fo:=Eq.trans (b:=HM x22) (by kernel_rfl) (by simp only[e22]<;>rfl)
theorem e12:x12=Zb:=Eq.trans (b:=KQ x13) (by kernel_rfl) (by simp only[e13]<;>rfl)
theorem e25:x25=Kl:=Eq.trans (b:=KP x22) (by kernel_rfl) (by simp only[e22]<;>rfl)
theorem e24:x24=Ku:=Eq.trans (b:=HO x25) (by kernel_rfl) (by simp only[e25]<;>rfl)
theorem e15:x15=JR:=Eq.trans (b:=LM x25 x24) (by kernel_rfl) (by simp only[e25,e24]<;>rfl)
theorem e23:x23=Zk:=Eq.trans (b:=JF x15) (by kernel_rfl) (by simp only[e15]<;>rfl)
theorem e28:x28=It:=Eq.trans (b:=JQ x22) (by kernel_rfl) (by simp only[e22]<;>rfl)
theorem e27:x27=HB:=Eq.trans (b:=EO x28) (by kernel_rfl) (by rw[mM];simp only[e28]<;>rfl)
theorem e26:x26=Yy:=Eq.trans (b:=HF x27) (by kernel_rfl) (by simp only[e27]<;>rfl)
def F:=u12 Pu
theorem rn x:H.u P_ x=F x:=Eq.trans (b:=u12 (KY x13 x12 x25 x23 x24 x28 x26 x22 x21) x) (by kernel_rfl) (by unfold F;rw[oR];simp only[e13,e12,e25,e23,e24,e28,e26,e22,e21]<;>rfl)
def c:Con:=⟨H.p,H.r,F⟩
theorem ok:ConOk P_ gl 107 c:=cr H func107 (.cons F19.ok (.cons Vx (.cons F47.ok (.cons F48.ok (.cons F49.ok (.cons F50.ok (.cons F61.ok (.cons F85.ok (.cons F104.ok (.cons F111.ok (.cons F148.ok (.cons F149.ok (.cons F150.ok (.cons F151.ok (.cons F152.ok .nil))))))))))))))) (Eg.cons ent60 (Eg.cons ent108 (Eg.cons ent109 (Eg.cons ent110 Eg.nil)))) rn
end F107
namespace F59
def IL(f g:LB)(h k m n o:Int)(p:LI)(u:Int)(v:LB)(b:Bool)(a:Int):Option (LB×LB×Int×Int×Int×Int×Int×LI×Int×LB×Bool×Int×Int):=
(Pu f g h k m n o p u v b a).bind λw=>
if(Be w 0)then
some (([]:LB),([]:LB),0,0,0,0,0,([]:LI),0,([]:LB),false,0,w)
else
if(Be a 0)then
(λbl:Option (LB×LB×Int×Int×Int×Int×Int×LI×Int×LB×Bool×Int×Int)=>
both (
both (
(Ek f g h k m n o p u v b a).bind λ(y,aa,ab,ac,ad,ae,af,ag,ah,ai,aj,ak)=>
(λbm:Option (LB×LB×Int×Int×Int×Int×Int×LI×Int×LB×Bool×Int×Int)=>
bo (
bm)) (
some (y,aa,ab,ac,ad,ae,af,ag,ah,ai,aj,ak,a))) [
bl]) [
bl]) (
(Ek f g h k m n o p u v b a).bind λ(y,aa,ab,ac,ad,ae,af,ag,ah,ai,aj,ak)=>
some (y,aa,ab,ac,ad,ae,af,ag,ah,ai,aj,ak,a))
else
if b then
(Ek f g h k m n o p u v b a).bind λ(al,am,an,ao,ap,aq,ar,au,av,aw,ax,ay)=>
some (al,am,an,ao,ap,aq,ar,au,av,aw,ax,ay,36)
else
(Ek f g h k m n o p u v b a).bind λ(az,ba,bb,bc,bd,be,bf,bg,bh,bi,bj,bk)=>
some (az,ba,bb,bc,bd,be,bf,bg,bh,bi,bj,bk,0)
theorem pP: @IL= @Tj:=by
  unfold IL Tj
  try simp only[eY,NW,OM]
  all_goals
    repeat (refine funext λ_=>?_)
    repeat' first
      |with_reducible rfl
      |with_reducible refine Oo ?_ ?_
      |with_reducible refine Oi ?_ ?_ ?_
      |with_reducible refine Og ?_ ?_ ?_ ?_
      |((with_reducible refine Uf ?_ ?_);focus (intro h;first|(subst h;rfl)|(simp only[h];rfl)|(simp[Et,Ac,h];done)))
      |with_reducible refine Uh λx=>?_
      |with_reducible refine CR (λ_=>?_) (λ_=>?_)
      |(refine Ij (λh=>by simp only[h,Ub,Fm,Fa,ite_self]) (λx h=>?_);(try simp only[h,Fm]))
      |(refine Lf (λh=>?_) (λh=>?_)<;>simp only[h,if_true,if_false,Bool.false_eq_true])
def H:Hd:=⟨[.agg [Ss,Sb,.agg [Si,Si,Si,Si,Si],Sl,Si,Sb,Sz,Si]],[.agg [Ss,Ob 5,.agg [Si,Si,Si,Si,Si],Ol 3,Si,Ob 5,Sz,Si],Si],(.seq .d (.seq .d (.seq (.blk (.seq .d (.cond (.seq (.mode false) .d) .d))) .d))),⟨[(61,F61.c),(107,F107.c)],gl,false⟩,[],f59⟩
def F:=u12 Tj
theorem rn x:H.u P_ x=F x:=Eq.trans (b:=u12 IL x) (by kernel_rfl) (by rw[pP];rfl)
def c:Con:=⟨H.p,H.r,F⟩
theorem ok:ConOk P_ gl 59 c:=co H func59 (.cons F61.ok (.cons F107.ok .nil)) rn
end F59
namespace F62
def H:Hd:=⟨[.agg [Ss,Sb,.agg [Si,Si,Si,Si,Si],Sl,Si,Sb,Sz,Si],Si],[.agg [Ss,Ob 5,.agg [Si,Si,Si,Si,Si],Ol 3,Si,Sb,Sz,Si],Si],.d,⟨[],gl,false⟩,[],f62⟩
def F:=u13 VI
theorem rn x:H.u P_ x=F x:=by kernel_rfl
def c:Con:=⟨H.p,H.r,F⟩
theorem ok:ConOk P_ gl 62 c:=co H func62 .nil rn
end F62
namespace F18
def JA(j78:Int->Int->Int->Int->Int->LI->Bool->Int->LB->Int->LB->Option (LB×LB×Int×Int×Int×Int×Int×LI×Int×LB×Bool×Int×Int))(a:LB)(b:Bool)(f w ag:Int)(g:LB)(m p o u v h:Int)(am:LX)(k:LI)(n:LB):Option (LB×LB×Int×Int×Int×Int×Int×LI×Int×LB×Bool×Int×Int):=
if(Be ag 0)then
(Al ag).bind λ(dd,de)=>
j78 m p o u v k dd de g h n
else
(Jq o am).bind λ(df,aj)=>
if(Be aj 0)then
(Al aj).bind λ(dg,dh)=>
j78 m p o u v k dg dh g h n
else
(Et n df).bind λdi=>
(λhb:Option (LB×LB×Int×Int×Int×Int×Int×LI×Int×LB×Bool×Int×Int)=>
bo (
hb)) (
(Bm g w (Ac g)).bind λdj=>
j78 m p o u v k false 0 dj (Ad h 1) di)
theorem pR: @JA= @BU:=by
  unfold JA BU;simp only[eY,NW,OM]
def HZ(j62:Int->LI->LB->Bool->Int->LB->Int->Int->Int->Int->Int->Option (LB×LB×Int×Int×Int×Int×Int×LI×Int×LB×Bool×Int×Int))(j61:LB->Int->Int->Int->Int->Int->Int->LI->LB->Option (LB×LB×Int×Int×Int×Int×Int×LI×Int×LB×Bool×Int×Int))(j75:Int->Int->Int->Int->Int->Int->LB->Bool->Int->LB->LI->Option (LB×LB×Int×Int×Int×Int×Int×LI×Int×LB×Bool×Int×Int))(j73:LB->Int->Int->Int->Int->Int->Int->LI->LB->Option (LB×LB×Int×Int×Int×Int×Int×LI×Int×LB×Bool×Int×Int))(j74:LB->Int->Int->Int->Int->Int->Int->LI->LB->Int->Option (LB×LB×Int×Int×Int×Int×Int×LI×Int×LB×Bool×Int×Int))(j78:Int->Int->Int->Int->Int->LI->Bool->Int->LB->Int->LB->Option (LB×LB×Int×Int×Int×Int×Int×LI×Int×LB×Bool×Int×Int))(j76:Int->LB->Int->Int->Int->Int->Int->Int->LX->LI->LI->LB->Option (LB×LB×Int×Int×Int×Int×Int×LI×Int×LB×Bool×Int×Int))(j71:LB->Int->Int->Int->Int->Int->Int->Bool->Int->LI->LB->Option (LB×LB×Int×Int×Int×Int×Int×LI×Int×LB×Bool×Int×Int))(j70:LB->Int->Int->Int->Int->Int->Int->LI->LB->Option (LB×LB×Int×Int×Int×Int×Int×LI×Int×LB×Bool×Int×Int))(a:LB)(b:Bool)(f:Int)(g:LB)(m p o u v h:Int)(k:LI)(n:LB):Option (LB×LB×Int×Int×Int×Int×Int×LI×Int×LB×Bool×Int×Int):=
if(geq m 0)then
(Ir g).bind λ(ah,ao)=>
if(geq ao 24)then
j62 h k n true 0 g m p o u v
else
if(Be ao 0)then
(Al ao).bind λ(dk,dl)=>
j62 h k n dk dl g m p o u v
else
(Bm g ah (Ac g)).bind λdm=>
(Tc dm).bind λal=>
if al then
j62 h k n true 0 g m p o u v
else
(Bm g ah (Ac g)).bind λdn=>
(Lk dn).bind λ(ab,ac,y,ad,aa,ap)=>
if(geq ap 24)then
j62 h k n true 0 g m p o u v
else
if(Be ap 0)then
(Al ap).bind λ(dp,dq)=>
j62 h k n dp dq g m p o u v
else
both (
(Bm g (Ad ah 22) (Ac g)).bind λaf=>
bo (
j61 af ab ac y ad aa h k n)) [
(Bm g (Ad ah 22) (Ac g)).bind λaf=>
j61 af ab ac y ad aa h k n]
else
if(geq (Ac k) 0)then
if(geq m 2)then
if(Cj (Ac g) 8)then
j75 m p o u v h n true 0 g k
else
j73 g m p o u v h k n
else
j74 g m p o u v h k n 0
else
if(Cj h (Ac k))then
(Ao k h).bind λ_=>
(Ao k h).bind λw=>
if(Cj (Ac g) w)then
j78 m p o u v k true 0 g h n
else
(Qe a).bind λ(an,ak)=>
if(Be ak 0)then
(Al ak).bind λ(dr,ds)=>
j78 m p o u v k dr ds g h n
else
(Dl m p o u v).bind λ(ae,dt)=>
if((Be dt 0)||(Nj h (Ac ae)))then
(Al 8).bind λ(du,bc)=>
j78 m p o u v k du bc g h n
else
j76 w g m p o u v h an ae k n
else
if(Ex (Ac g) 4000)then
(Al 38).bind λ(dv,ai)=>
j71 g m p o u v h dv ai k n
else
j70 g m p o u v h k n
theorem oK: @HZ= @Jp:=by
  unfold HZ Jp
  repeat (refine funext λ_=>?_)
  repeat' first
    |with_reducible rfl
    |with_reducible refine Oo ?_ ?_
    |with_reducible refine Oi ?_ ?_ ?_
    |with_reducible refine Og ?_ ?_ ?_ ?_
    |((with_reducible refine Uf ?_ ?_);focus (intro h;first|(subst h;rfl)|(simp only[h];rfl)|(simp[Et,Ac,h];done)))
    |with_reducible refine Uh λx=>?_
    |with_reducible refine CR (λ_=>?_) (λ_=>?_)
    |(refine Ij (λh=>by simp only[h,Ub,Fm,Fa,ite_self]) (λx h=>?_);(try simp only[h,Fm]))
    |(refine Lf (λh=>?_) (λh=>?_)<;>simp only[h,if_true,if_false,Bool.false_eq_true])
abbrev R_:=(LB×LB×Int×Int×Int×Int×Int×LI×Int×LB×Bool×Int×Int)
abbrev K_:=S->Option R_
def H:Hd:=⟨[.agg [Ss,Sb,.agg [Si,Si,Si,Si,Si],Sl,Si,Sb,Sz,Si],Sb],[.agg [Ss,Ob 5,.agg [Si,Si,Si,Si,Si],Ol 3,Si,Sb,Sz,Si],Si],(.seq .d (.seq .d (.seq .d (.seq .d (.blk (.loop [2,4] [⟨2,[1],.ro (.int .u8)⟩] (.blk (.cut [2,4,7] [] (.keep [2,4,7,22] true) .d)))))))),⟨[(19,F19.c),(46,Pv),(47,F47.c),(48,F48.c),(49,F49.c),(50,F50.c),(59,F59.c),(61,F61.c),(62,F62.c),(85,F85.c),(104,F104.c),(111,F111.c),(150,F150.c),(151,F151.c),(152,F152.c)],gl,false⟩,[(60,(.seq .d (.cut [2] [] (.blk (.seq .d (.cond (.cut [2] [] (.keep [2,11] true) .d) (.seq .d (.cond (.cut [2] [] (.keep [2,20] true) .d) (.seq .d (.cond (.cut [2] [] (.keep [2,33] true) .d) .d))))))) .d))),(108,(.seq .d (.seq .d (.seq .d (.seq .d (.seq .d (.cut [0,2,5] [] (.mode false) .d))))))),(109,(.seq .d (.seq .d (.cut [0,2,3] [] (.seq .d (.cond (.seq .d (.cut [0,2,3] [⟨0,[1],.ro (.int .u8)⟩,⟨9,[1],.ro (.int .u8)⟩,⟨10,[1],.ro (.int .u8)⟩,⟨15,[1],.ro (.int .u8)⟩,⟨16,[1],.ro (.int .u8)⟩,⟨18,[],.ro (.int .u8)⟩] .d (.cut [0,2,3,4,5] [] .d .d))) .d)) .d)))),(110,(.seq .d (.seq .d (.seq .d (.seq .d (.seq .d (.seq .d (.cut [0,2,3,4,6] [⟨0,[1],.ro (.int .u8)⟩,⟨9,[1],.ro (.int .u8)⟩,⟨10,[1],.ro (.int .u8)⟩,⟨13,[1],.ro (.int .u8)⟩,⟨14,[1],.ro (.int .u8)⟩,⟨19,[1],.ro (.int .u8)⟩,⟨20,[1],.ro (.int .u8)⟩,⟨22,[],.ro (.int .u8)⟩,⟨28,[1],.ro (.int .u8)⟩,⟨29,[1],.ro (.int .u8)⟩,⟨40,[1],.ro (.int .u8)⟩,⟨41,[1],.ro (.int .u8)⟩] .d (.cut [0,2,3,5,7] [] .d (.seq .d (.seq .d (.seq .d (.seq .d (.seq (.mode false) .d))))))))))))))],f18⟩
def t37(a:LB)(b:Bool)(f:Int)(g:LB)(m p o u v h:Int)(k:LI)(n:LB):S:=⟨[(2,.ptr 0 []),(4,.ptr 1 [])],[.box 46 (.agg [vs a,vb g,.agg [vi m,vi p,vi o,vi u,vi v],.own 2,vi h,.own 3,vt b,vi f]),.box 46 (.agg [vs ([]:LB),.nils,.agg [vi 0,vi 0,vi 0,vi 0,vi 0],.nils,vi 0,.nils,vt false,vi 0]),Ai 3 k,Ab 5 n],[]⟩
def z37:Nat->S->Option R_:=H.i P_ [r,r,r,r,d]
def x71(Je:K_)(a:LB)(b:Bool)(f:Int)(ar:LB)(au av aw ax ay az:Int)(bh:Bool)(be:Int)(ba:LI)(bb:LB):Option R_:=H.e P_ [r,r,r,r,d,(lp Je),d,r] ⟨[(2,.ptr 0 []),(4,.ptr 1 []),(7,.ptr 2 [])],[.box 46 (.agg [vs a,vb ar,.agg [vi au,vi av,vi aw,vi ax,vi ay],.own 3,vi az,.own 4,vt b,vi f]),.box 46 (.agg [vs ([]:LB),.nils,.agg [vi 0,vi 0,vi 0,vi 0,vi 0],.nils,vi 0,.nils,vt false,vi 0]),.box 108 (.agg [vt bh,vi be]),Ai 3 ba,Ab 5 bb],[]⟩
def x70(Je:K_)(a:LB)(b:Bool)(f:Int)(g:LB)(m p o u v h:Int)(k:LI)(n:LB):Option R_:=H.e P_ [r,r,r,r,d,(lp Je),d,l,(call 0 60),r,r] ⟨[(2,.ptr 0 [])],[.box 108 (.agg [vt false,vi 0]),.box 46 (.agg [vs a,vb g,.agg [vi m,vi p,vi o,vi u,vi v],.own 3,vi h,.own 4,vt b,vi f]),.box 46 (.agg [vs ([]:LB),.nils,.agg [vi 0,vi 0,vi 0,vi 0,vi 0],.nils,vi 0,.nils,vt false,vi 0]),Ai 3 k,Ab 5 n],[[(2,.ptr 1 []),(4,.ptr 2 [])]]⟩
def x62(Je:K_)(a:LB)(b:Bool)(f h:Int)(k:LI)(n:LB)(bj:Bool)(bk:Int)(bl:LB)(bm bn bp bq br:Int):Option R_:=H.e P_ [r,r,r,r,d,(lp Je),d,l,(call 0 60),r,l,d,r,l,r] ⟨[(2,.ptr 0 [])],[.box 108 (.agg [vt bj,vi bk]),.box 46 (.agg [vs a,vb bl,.agg [vi bm,vi bn,vi bp,vi bq,vi br],.own 3,vi h,.own 4,vt b,vi f]),.box 46 (.agg [vs ([]:LB),.nils,.agg [vi 0,vi 0,vi 0,vi 0,vi 0],.nils,vi 0,.nils,vt false,vi 0]),Ai 3 k,Ab 5 n],[[(2,.ptr 1 []),(4,.ptr 2 [])]]⟩
def x61(Je:K_)(a:LB)(b:Bool)(f:Int)(af:LB)(ab ac y ad aa h:Int)(k:LI)(n:LB):Option R_:=H.e P_ [r,r,r,r,d,(lp Je),d,l,(call 0 60),r,l,d,r,l,l,(call 1 108),r,r,r,r,r,r] ⟨[(0,.ptr 0 []),(2,.ptr 1 []),(5,.ptr 2 [])],[.box 46 (.agg [vs a,vb af,.agg [vi ab,vi ac,vi y,vi ad,vi aa],.own 5,vi h,.own 6,vt b,vi f]),.box 108 (.agg [vt false,vi 0]),.box 32 (.agg [vi ab,vi ac,vi y,vi ad,vi aa]),.box 108 (.agg [vt false,vi 0]),.box 46 (.agg [vs ([]:LB),.nils,.agg [vi 0,vi 0,vi 0,vi 0,vi 0],.nils,vi 0,.nils,vt false,vi 0]),Ai 3 k,Ab 5 n],[[(2,.ptr 3 [])],[(2,.ptr 0 []),(4,.ptr 4 [])]]⟩
def x75(Je:K_)(a:LB)(b:Bool)(f m p o u v h:Int)(n:LB)(bs:Bool)(bt:Int)(bu:LB)(bv:LI):Option R_:=H.e P_ [r,r,r,r,d,(lp Je),d,l,(call 0 60),r,l,d,r,r,r,l,r] ⟨[(2,.ptr 0 [])],[.box 108 (.agg [vt bs,vi bt]),.box 46 (.agg [vs a,vb bu,.agg [vi m,vi p,vi o,vi u,vi v],.own 3,vi h,.own 4,vt b,vi f]),.box 46 (.agg [vs ([]:LB),.nils,.agg [vi 0,vi 0,vi 0,vi 0,vi 0],.nils,vi 0,.nils,vt false,vi 0]),Ai 3 bv,Ab 5 n],[[(2,.ptr 1 []),(4,.ptr 2 [])]]⟩
def x74(Je:K_)(a:LB)(b:Bool)(f:Int)(g:LB)(m p o u v h:Int)(k:LI)(n:LB)(bf:Int):Option R_:=H.e P_ [r,r,r,r,d,(lp Je),d,l,(call 0 60),r,l,d,r,r,r,l,l,(call 1 109),r,r,r] ⟨[(0,.ptr 0 []),(2,.ptr 1 []),(3,vi bf)],[.box 46 (.agg [vs a,vb g,.agg [vi m,vi p,vi o,vi u,vi v],.own 4,vi h,.own 5,vt b,vi f]),.box 108 (.agg [vt false,vi 0]),.box 108 (.agg [vt false,vi 0]),.box 46 (.agg [vs ([]:LB),.nils,.agg [vi 0,vi 0,vi 0,vi 0,vi 0],.nils,vi 0,.nils,vt false,vi 0]),Ai 3 k,Ab 5 n],[[(2,.ptr 2 [])],[(2,.ptr 0 []),(4,.ptr 3 [])]]⟩
def x64(Je:K_)(a:LB)(b:Bool)(f:Int)(bd:Bool)(aq:Int)(g:LB)(m p o u v h:Int)(k:LI)(n:LB):Option R_:=H.e P_ [r,r,r,r,d,(lp Je),d,l,(call 0 60),r,l,d,r,r,r,l,l,(call 1 109),r,r,l,r,l,r,r,r] ⟨[(0,.ptr 0 []),(2,.ptr 1 []),(3,vi 8),(4,vt bd),(5,vi aq)],[.box 46 (.agg [vs a,vb g,.agg [vi m,vi p,vi o,vi u,vi v],.own 4,vi h,.own 5,vt b,vi f]),.box 108 (.agg [vt false,vi 0]),.box 108 (.agg [vt false,vi 0]),.box 46 (.agg [vs ([]:LB),.nils,.agg [vi 0,vi 0,vi 0,vi 0,vi 0],.nils,vi 0,.nils,vt false,vi 0]),Ai 3 k,Ab 5 n],[[(2,.ptr 2 [])],[(2,.ptr 0 []),(4,.ptr 3 [])]]⟩
def x73(Je:K_)(a:LB)(b:Bool)(f:Int)(g:LB)(m p o u v h:Int)(k:LI)(n:LB):Option R_:=H.e P_ [r,r,r,r,d,(lp Je),d,l,(call 0 60),r,l,d,r,r,r,l,l,(call 1 109),r,r,l,r,l,r,r] ⟨[(0,.ptr 0 []),(2,.ptr 1 []),(3,vi 8)],[.box 46 (.agg [vs a,vb g,.agg [vi m,vi p,vi o,vi u,vi v],.own 4,vi h,.own 5,vt b,vi f]),.box 108 (.agg [vt false,vi 0]),.box 108 (.agg [vt false,vi 0]),.box 46 (.agg [vs ([]:LB),.nils,.agg [vi 0,vi 0,vi 0,vi 0,vi 0],.nils,vi 0,.nils,vt false,vi 0]),Ai 3 k,Ab 5 n],[[(2,.ptr 2 [])],[(2,.ptr 0 []),(4,.ptr 3 [])]]⟩
def x78(Je:K_)(a:LB)(b:Bool)(f m p o u v:Int)(k:LI)(bx:Bool)(bz:Int)(da:LB)(db:Int)(dc:LB):Option R_:=H.e P_ [r,r,r,r,d,(lp Je),d,l,(call 0 60),r,l,d,r,r,r,r,r,l,r] ⟨[(2,.ptr 0 [])],[.box 108 (.agg [vt bx,vi bz]),.box 46 (.agg [vs a,vb da,.agg [vi m,vi p,vi o,vi u,vi v],.own 3,vi db,.own 4,vt b,vi f]),.box 46 (.agg [vs ([]:LB),.nils,.agg [vi 0,vi 0,vi 0,vi 0,vi 0],.nils,vi 0,.nils,vt false,vi 0]),Ai 3 k,Ab 5 dc],[[(2,.ptr 1 []),(4,.ptr 2 [])]]⟩
def x77(Je:K_)(a:LB)(b:Bool)(f w ag:Int)(g:LB)(m p o u v h:Int)(am:LX)(k:LI)(n:LB):Option R_:=H.e P_ [r,r,r,r,d,(lp Je),d,l,(call 0 60),r,l,d,r,r,r,r,r,l,l,(call 1 110),r,r,r,r,r,r,r,r] ⟨[(0,.ptr 0 []),(2,.ptr 1 []),(3,vi w),(5,vi ag),(7,.own 2)],[.box 46 (.agg [vs a,vb g,.agg [vi m,vi p,vi o,vi u,vi v],.own 5,vi h,.own 6,vt b,vi f]),.box 108 (.agg [vt false,vi 0]),Aw 21 am,.box 108 (.agg [vt false,vi 0]),.box 46 (.agg [vs ([]:LB),.nils,.agg [vi 0,vi 0,vi 0,vi 0,vi 0],.nils,vi 0,.nils,vt false,vi 0]),Ai 3 k,Ab 5 n],[[(2,.ptr 3 [])],[(2,.ptr 0 []),(4,.ptr 4 [])]]⟩
def x76(Je:K_)(a:LB)(b:Bool)(f w:Int)(g:LB)(m p o u v h:Int)(an:LX)(ae k:LI)(n:LB):Option R_:=H.e P_ [r,r,r,r,d,(lp Je),d,l,(call 0 60),r,l,d,r,r,r,r,r,l,l,(call 1 110),r,r,r,r,r,r,r] ⟨[(0,.ptr 0 []),(2,.ptr 1 []),(3,vi w),(4,.ptr 2 []),(6,.own 3)],[.box 46 (.agg [vs a,vb g,.agg [vi m,vi p,vi o,vi u,vi v],.own 6,vi h,.own 7,vt b,vi f]),.box 108 (.agg [vt false,vi 0]),.box 136 (.val (.vec 16 (.int .i32)) an),Ai 3 ae,.box 108 (.agg [vt false,vi 0]),.box 46 (.agg [vs ([]:LB),.nils,.agg [vi 0,vi 0,vi 0,vi 0,vi 0],.nils,vi 0,.nils,vt false,vi 0]),Ai 3 k,Ab 5 n],[[(2,.ptr 4 [])],[(2,.ptr 0 []),(4,.ptr 5 [])]]⟩
def x37(a:LB)(b:Bool)(f:Int)(g:LB)(m p o u v h:Int)(k:LI)(n:LB):Option R_:=H.e P_ [r,r,r,r,d] (t37 a b f g m p o u v h k n)
theorem e71(Je:K_)(a:LB)(b:Bool)(f:Int):x71 Je a b f=Cq (λg m p o u v h k n=>Je (t37 a b f g m p o u v h k n)) a b f:=by kernel_rfl
theorem e70(Je:K_)(a:LB)(b:Bool)(f:Int):x70 Je a b f=BP (λg m p o u v h k n=>Je (t37 a b f g m p o u v h k n)) a b f:=Eq.trans (b:=gH (x71 Je a b f) a b f) (by kernel_rfl) (by simp only[e71]<;>rfl)
theorem e62(Je:K_)(a:LB)(b:Bool)(f:Int):x62 Je a b f=Px (λg m p o u v h k n=>Je (t37 a b f g m p o u v h k n)) a b f:=Eq.trans (b:=fR (x71 Je a b f) a b f) (by kernel_rfl) (by simp only[e71]<;>rfl)
theorem e61(Je:K_)(a:LB)(b:Bool)(f:Int):x61 Je a b f=Wa (λg m p o u v h k n=>Je (t37 a b f g m p o u v h k n)) a b f:=Eq.trans (b:=OD (x62 Je a b f) a b f) (by kernel_rfl) (by simp only[e62]<;>rfl)
theorem e75(Je:K_)(a:LB)(b:Bool)(f:Int):x75 Je a b f=Mg (λg m p o u v h k n=>Je (t37 a b f g m p o u v h k n)) a b f:=Eq.trans (b:=eL (x71 Je a b f) a b f) (by kernel_rfl) (by simp only[e71]<;>rfl)
theorem e74(Je:K_)(a:LB)(b:Bool)(f:Int):x74 Je a b f=Ml (λg m p o u v h k n=>Je (t37 a b f g m p o u v h k n)) a b f:=Eq.trans (b:=OH (x75 Je a b f) a b f) (by kernel_rfl) (by simp only[e75]<;>rfl)
theorem e64(Je:K_)(a:LB)(b:Bool)(f:Int):x64 Je a b f=NG (λg m p o u v h k n=>Je (t37 a b f g m p o u v h k n)) a b f:=Eq.trans (b:=NT (x75 Je a b f) (x74 Je a b f) a b f) (by kernel_rfl) (by simp only[e75,e74]<;>rfl)
theorem e73(Je:K_)(a:LB)(b:Bool)(f:Int):x73 Je a b f=Vr (λg m p o u v h k n=>Je (t37 a b f g m p o u v h k n)) a b f:=Eq.trans (b:=OT (x64 Je a b f) a b f) (by kernel_rfl) (by simp only[e64]<;>rfl)
theorem e78(Je:K_)(a:LB)(b:Bool)(f:Int):x78 Je a b f=Qc (λg m p o u v h k n=>Je (t37 a b f g m p o u v h k n)) a b f:=Eq.trans (b:=fA (x71 Je a b f) a b f) (by kernel_rfl) (by simp only[e71]<;>rfl)
theorem e77(Je:K_)(a:LB)(b:Bool)(f:Int):x77 Je a b f=NN (λg m p o u v h k n=>Je (t37 a b f g m p o u v h k n)) a b f:=Eq.trans (b:=JA (x78 Je a b f) a b f) (by kernel_rfl) (by rw[pR];simp only[e78]<;>rfl)
theorem e76(Je:K_)(a:LB)(b:Bool)(f:Int):x76 Je a b f=Ux (λg m p o u v h k n=>Je (t37 a b f g m p o u v h k n)) a b f:=Eq.trans (b:=NR (x77 Je a b f) a b f) (by kernel_rfl) (by simp only[e77]<;>rfl)
theorem i37(a:LB)(b:Bool)(f:Int):∀(q:Nat) (g:LB) (m p o u v h:Int) (k:LI) (n:LB),z37 q (t37 a b f g m p o u v h k n)=Bd a b f q g m p o u v h k n:=
 ind (λ_ _ _ _ _ _ _ _ _=>by kernel_rfl) λq ih g m p o u v h k n=>Eq.trans (b:=HZ (x62 (z37 q) a b f) (x61 (z37 q) a b f) (x75 (z37 q) a b f) (x73 (z37 q) a b f) (x74 (z37 q) a b f) (x78 (z37 q) a b f) (x76 (z37 q) a b f) (x71 (z37 q) a b f) (x70 (z37 q) a b f) a b f g m p o u v h k n) (by kernel_rfl) (by rw[oK];simp only[e62,e61,e75,e73,e74,e78,e76,e71,e70,ih]<;>rfl)
theorem e37:x37=fZ:=by funext a b f g m p o u v h k n;exact Eq.trans (by kernel_rfl) ((i37 a b f Dz g m p o u v h k n).trans (by rw[Bf];rfl))
def F:=u13 Ki
theorem rn x:H.u P_ x=F x:=Eq.trans (b:=u13 (Xq x37) x) (by kernel_rfl) (by simp only[e37]<;>rfl)
def c:Con:=⟨H.p,H.r,F⟩
theorem ok:ConOk P_ gl 18 c:=cr H func18 (.cons F19.ok (.cons Vx (.cons F47.ok (.cons F48.ok (.cons F49.ok (.cons F50.ok (.cons F59.ok (.cons F61.ok (.cons F62.ok (.cons F85.ok (.cons F104.ok (.cons F111.ok (.cons F150.ok (.cons F151.ok (.cons F152.ok .nil))))))))))))))) (Eg.cons ent60 (Eg.cons ent108 (Eg.cons ent109 (Eg.cons ent110 Eg.nil)))) rn
end F18
namespace F64
def H:Hd:=⟨[.agg [Ss,Sb,.agg [Si,Si,Si,Si,Si],Sl,Si,Sb,Sz,Si]],[Si],.d,⟨[(46,Pv),(47,F47.c),(52,F52.c)],gl,false⟩,[],f64⟩
def F:=u12 II
theorem rn x:H.u P_ x=F x:=by kernel_rfl
def c:Con:=⟨H.p,H.r,F⟩
theorem ok:ConOk P_ gl 64 c:=co H func64 (.cons Vx (.cons F47.ok (.cons F52.ok .nil))) rn
end F64
namespace F20
def H:Hd:=⟨[.agg [Ss,Sb,.agg [Si,Si,Si,Si,Si],Sl,Si,Sb,Sz,Si]],[.agg [Ss,Ob 5,.agg [Si,Si,Si,Si,Si],Ol 3,Si,Sb,Sz,Si],Si],.d,⟨[(59,F59.c),(62,F62.c),(64,F64.c)],gl,false⟩,[],f20⟩
def F:=u12 Gb
theorem rn x:H.u P_ x=F x:=by kernel_rfl
def c:Con:=⟨H.p,H.r,F⟩
theorem ok:ConOk P_ gl 20 c:=co H func20 (.cons F59.ok (.cons F62.ok (.cons F64.ok .nil))) rn
end F20
namespace F7
def Pp(f:LB)(a:Bool)(b k:LB):Option Bool:=
(Sr k f).bind λ(n,bf,bg,g,u)=>
(aU f).bind λ(v,w,y,aa,ab,ac,ad,ae,af,ag,ah,ai,aj)=>
(Ki v w y aa ab ac ad ae af ag ah ai k).bind λ(ak,al,am,an,ao,ap,aq,ar,au,av,aw,ax,bh)=>
(Gb ak al am an ao ap aq ar au av aw ax).bind λ(bi,bj,bk,bl,bm,bn,bp,bq,br,m,bs,bt,ay)=>
if((((((Be u 0)||(Be aj 0))||(Be n ay))||(geq n 0))||(Cj g 0))||(Ex g (Ac b)))then
some false
else
(λbe:Option Bool=>
both (
both (
if a then
(Bm b 0 g).bind λh=>
some (m==h)
else
some false) [
be]) [
both (
be) [
if a then
(Bm b 0 g).bind λh=>
both (
bo (
some (m==h))) [
some (m==h)]
else
some false]]) (
both (
if a then
(Bm b 0 g).bind λh=>
some (m==h)
else
some false) [
if a then
(Bm b 0 g).bind λh=>
bo (
some (m==h))
else
some false])
theorem NO: @Pp= @Kx:=by
  unfold Pp Kx
  try simp only[eY,NW,OM]
  all_goals
    repeat (refine funext λ_=>?_)
    repeat' first
      |with_reducible rfl
      |with_reducible refine Oo ?_ ?_
      |with_reducible refine Oi ?_ ?_ ?_
      |with_reducible refine Og ?_ ?_ ?_ ?_
      |((with_reducible refine Uf ?_ ?_);focus (intro h;first|(subst h;rfl)|(simp only[h];rfl)|(simp[Et,Ac,h];done)))
      |with_reducible refine Uh λx=>?_
      |with_reducible refine CR (λ_=>?_) (λ_=>?_)
      |(refine Ij (λh=>by simp only[h,Ub,Fm,Fa,ite_self]) (λx h=>?_);(try simp only[h,Fm]))
      |(refine Lf (λh=>?_) (λh=>?_)<;>simp only[h,if_true,if_false,Bool.false_eq_true])
abbrev R_:=Bool
def H:Hd:=⟨[.agg [Si,Si,Si,Sw],Ss,Si,Sc],[Sz],(.seq .d (.seq .d (.seq .d (.seq .d (.seq .d (.seq .d (.seq .d (.seq .d (.cut [1,9,12,14] [⟨14,[],.ro (.int .u8)⟩] .d (.seq .d (.seq .d (.seq .d (.seq .d (.seq .d (.seq (.mode false) .d))))))))))))))),⟨[(9,F9.c),(10,F10.c),(17,F17.c),(18,F18.c),(19,F19.c),(20,F20.c),(27,F27.c),(30,F30.c),(32,F32.c)],gl,false⟩,[],f7⟩
def x2(f:LB)(a:Bool)(b k:LB):Option R_:=H.e P_ [r,r,r,r,r,r,r,r,r] ⟨[(1,vs f),(9,vt a),(12,.own 0),(14,vb k)],[Ab 5 b],[]⟩
theorem e2:x2=Ff:=Eq.trans (b:=Pp) (by kernel_rfl) (by rw[NO];rfl)
def F:=u7 Nm
theorem rn x:H.u P_ x=F x:=Eq.trans (b:=u7 (Qp x2) x) (by kernel_rfl) (by simp only[e2]<;>rfl)
def c:Con:=⟨H.p,H.r,F⟩
theorem ok:ConOk P_ gl 7 c:=co H func7 (.cons F9.ok (.cons F10.ok (.cons F17.ok (.cons F18.ok (.cons F19.ok (.cons F20.ok (.cons F27.ok (.cons F30.ok (.cons F32.ok .nil))))))))) rn
end F7
end
end Go.Proofs.YtidigmkmfmopgaaGreatDoor
