/- A part of the proof of a statement of this seat (see the text that ends in Proof): PfOk. No conditions of its own. -/
import Derived.Test.YtidigmkmfmopgaaGreatDoorPfBB
import Derived.Test.YtidigmkmfmopgaaGreatDoorPfPA
import Derived.Test.YtidigmkmfmopgaaGreatDoorPfHA
import Derived.Test.YtidigmkmfmopgaaGreatDoorProg
import Derived.KernelRfl
set_option linter.unusedVariables false
set_option linter.unusedSimpArgs false
set_option maxRecDepth 10000
namespace Go.Proofs.YtidigmkmfmopgaaGreatDoor
open Go Go.Lv Go.Pl Go.Rx Go.Rx.PS
noncomputable section
def g0:List Value:=[.int .i64 2, .int .i64 2, .int .i64 2, .int .i64 4, .int .i64 4]
def g1:List Value:=[.bool true, .int .i64 0]
def g2:List Value:=[.bool false, .int .i64 0]
def g3:List Value:=[.int .u8 0, .int .u8 1, .int .u8 56, .int .u8 2, .int .u8 57, .int .u8 49, .int .u8 28, .int .u8 3, .int .u8 61, .int .u8 58, .int .u8 42, .int .u8 50, .int .u8 38, .int .u8 29, .int .u8 17, .int .u8 4, .int .u8 62, .int .u8 47, .int .u8 59, .int .u8 36, .int .u8 45, .int .u8 43, .int .u8 51, .int .u8 22, .int .u8 53, .int .u8 39, .int .u8 33, .int .u8 30, .int .u8 24, .int .u8 18, .int .u8 12, .int .u8 5, .int .u8 63, .int .u8 55, .int .u8 48, .int .u8 27, .int .u8 60, .int .u8 41, .int .u8 37, .int .u8 16, .int .u8 46, .int .u8 35, .int .u8 44, .int .u8 21, .int .u8 52, .int .u8 32, .int .u8 23, .int .u8 11, .int .u8 54, .int .u8 26, .int .u8 40, .int .u8 15, .int .u8 34, .int .u8 20, .int .u8 31, .int .u8 10, .int .u8 25, .int .u8 14, .int .u8 19, .int .u8 9, .int .u8 13, .int .u8 8, .int .u8 7, .int .u8 6]
def gl:List (Nat×List Value):=[(0,g0),(1,g1),(2,g2),(3,g3)]
theorem mixed:Tryz.prog.follows .mixedOrders=true:=by kernel_rfl
noncomputable abbrev P_:=Tryz.prog
theorem cr(H:Hd){f:Nat}{F:GH (Wp H.p)->Option (GH (Wp H.r))}(hf:P_.funcs[f]? =some H.f)(hT:LV P_ H.T)(hA:∀p∈H.s,Ent P_ p.1)(h:∀x,H.u P_ x=F x)(hb:okH H=true:=by kernel_rfl):ConOk P_ H.T.gl f ⟨H.p,H.r,F⟩:=Hd.con mixed H hf hT hA hb h
theorem co(H:Hd){f:Nat}{F:GH (Wp H.p)->Option (GH (Wp H.r))}(hf:P_.funcs[f]? =some H.f)(hT:LV P_ H.T)(h:∀x,H.u P_ x=F x)(hb:(H.s.isEmpty&&okH H)=true:=by kernel_rfl):ConOk P_ H.T.gl f ⟨H.p,H.r,F⟩:=Hd.Bjz mixed H hf hT hb h
theorem ent43:Ent Tryz.prog 43:=Ent.mk Tryz.func43 (by kernel_rfl) rfl
theorem ent46:Ent Tryz.prog 46:=Ent.mk Tryz.func46 (by kernel_rfl) rfl
theorem ent57:Ent Tryz.prog 57:=Ent.mk Tryz.func57 (by kernel_rfl) rfl
theorem ent60:Ent Tryz.prog 60:=Ent.mk Tryz.func60 (by kernel_rfl) rfl
theorem ent94:Ent Tryz.prog 94:=Ent.mk Tryz.func94 (by kernel_rfl) rfl
theorem ent105:Ent Tryz.prog 105:=Ent.mk Tryz.func105 (by kernel_rfl) rfl
theorem ent108:Ent Tryz.prog 108:=Ent.mk Tryz.func108 (by kernel_rfl) rfl
theorem ent109:Ent Tryz.prog 109:=Ent.mk Tryz.func109 (by kernel_rfl) rfl
theorem ent110:Ent Tryz.prog 110:=Ent.mk Tryz.func110 (by kernel_rfl) rfl
theorem ent128:Ent Tryz.prog 128:=Ent.mk Tryz.func128 (by kernel_rfl) rfl
theorem ent166:Ent Tryz.prog 166:=Ent.mk Tryz.func166 (by kernel_rfl) rfl
theorem ent167:Ent Tryz.prog 167:=Ent.mk Tryz.func167 (by kernel_rfl) rfl
theorem ent168:Ent Tryz.prog 168:=Ent.mk Tryz.func168 (by kernel_rfl) rfl
theorem ent181:Ent Tryz.prog 181:=Ent.mk Tryz.func181 (by kernel_rfl) rfl
theorem ent182:Ent Tryz.prog 182:=Ent.mk Tryz.func182 (by kernel_rfl) rfl
theorem ent185:Ent Tryz.prog 185:=Ent.mk Tryz.func185 (by kernel_rfl) rfl
theorem ent191:Ent Tryz.prog 191:=Ent.mk Tryz.func191 (by kernel_rfl) rfl
theorem ent194:Ent Tryz.prog 194:=Ent.mk Tryz.func194 (by kernel_rfl) rfl
theorem ent196:Ent Tryz.prog 196:=Ent.mk Tryz.func196 (by kernel_rfl) rfl
theorem ent199:Ent Tryz.prog 199:=Ent.mk Tryz.func199 (by kernel_rfl) rfl
theorem ent202:Ent Tryz.prog 202:=Ent.mk Tryz.func202 (by kernel_rfl) rfl
theorem ent213:Ent Tryz.prog 213:=Ent.mk Tryz.func213 (by kernel_rfl) rfl
abbrev u2{A B R:Type}(f:A->B->R)(x:A×B):=f x.1 x.2
abbrev u3{A B C R:Type}(f:A->B->C->R):=u2 λa=>u2 (f a)
abbrev u4{A B C D R:Type}(f:A->B->C->D->R):=u2 λa=>u3 (f a)
abbrev u5{A B C D E R:Type}(f:A->B->C->D->E->R):=u2 λa=>u4 (f a)
abbrev u6{A B C D E F R:Type}(f:A->B->C->D->E->F->R):=u2 λa=>u5 (f a)
abbrev u7{A B C D E F G R:Type}(f:A->B->C->D->E->F->G->R):=u2 λa=>u6 (f a)
abbrev u8{A B C D E F G H R:Type}(f:A->B->C->D->E->F->G->H->R):=u2 λa=>u7 (f a)
abbrev u9{A B C D E F G H I R:Type}(f:A->B->C->D->E->F->G->H->I->R):=u2 λa=>u8 (f a)
abbrev u10{A B C D E F G H I J R:Type}(f:A->B->C->D->E->F->G->H->I->J->R):=u2 λa=>u9 (f a)
abbrev u11{A B C D E F G H I J K R:Type}(f:A->B->C->D->E->F->G->H->I->J->K->R):=u2 λa=>u10 (f a)
abbrev u12{A B C D E F G H I J K L R:Type}(f:A->B->C->D->E->F->G->H->I->J->K->L->R):=u2 λa=>u11 (f a)
abbrev u13{A B C D E F G H I J K L M R:Type}(f:A->B->C->D->E->F->G->H->I->J->K->L->M->R):=u2 λa=>u12 (f a)
open Go.Proofs.Tryz
namespace F88
noncomputable def H:Hd:=⟨[.agg [Si,Si,Si,Sw]],[.agg [Si,Si]], .d,⟨[],gl,false⟩,[],f88⟩
def F:=u4 NQ
theorem rn x:H.u P_ x=F x:=by kernel_rfl
def c:Con:=⟨H.p,H.r,F⟩
theorem ok:ConOk P_ gl 88 c:=co H func88 .nil rn
end F88
namespace F113
abbrev R_:=(Int32×Int32×Int)
noncomputable def H:Hd:=⟨[Si],[Sx,Sx,Si],(.seq .d (.seq (.seq .d (.blk (.cut [0,7] [] .d .d))) .d)),⟨[],gl,false⟩,[],f113⟩
def x2(a:Int)(b:Bool):Option R_:=H.e P_ [r,l,r,d,r] ⟨[(0,vi a),(7,vt b)],[],[]⟩
theorem e2:x2=WA:=by kernel_rfl
def F:=Vi
theorem rn x:H.u P_ x=F x:=Eq.trans (b:=UO x2 x) (by kernel_rfl) (by simp only[e2]<;>rfl)
def c:Con:=⟨H.p,H.r,F⟩
theorem ok:ConOk P_ gl 113 c:=co H func113 .nil rn
end F113
namespace F139
noncomputable def H:Hd:=⟨[.agg [Si,Si]],[Si], .d,⟨[(113,F113.c)],gl,false⟩,[],f139⟩
def F:=u2 Hl
theorem rn x:H.u P_ x=F x:=by kernel_rfl
def c:Con:=⟨H.p,H.r,F⟩
theorem ok:ConOk P_ gl 139 c:=co H func139 (.cons F113.ok .nil) rn
end F139
namespace F118
noncomputable def H:Hd:=⟨[Si],[Si,Si], .d,⟨[],gl,false⟩,[],f118⟩
def F:=Vw
theorem rn x:H.u P_ x=F x:=by kernel_rfl
def c:Con:=⟨H.p,H.r,F⟩
theorem ok:ConOk P_ gl 118 c:=co H func118 .nil rn
end F118
namespace F117
noncomputable def H:Hd:=⟨[Si,Si],[Si,Si], .d,⟨[(118,F118.c)],gl,false⟩,[],f117⟩
def F:=u2 Jp
theorem rn x:H.u P_ x=F x:=by kernel_rfl
def c:Con:=⟨H.p,H.r,F⟩
theorem ok:ConOk P_ gl 117 c:=co H func117 (.cons F118.ok .nil) rn
end F117
namespace F121
noncomputable def H:Hd:=⟨[.agg [Si,Si,Si,Sw],Si],[Si], .d,⟨[(88,F88.c),(117,F117.c),(139,F139.c)],gl,false⟩,[],f121⟩
def F:=u5 MO
theorem rn x:H.u P_ x=F x:=by kernel_rfl
def c:Con:=⟨H.p,H.r,F⟩
theorem ok:ConOk P_ gl 121 c:=co H func121 (.cons F88.ok (.cons F117.ok (.cons F139.ok .nil))) rn
end F121
namespace F63
abbrev R_:=Int
noncomputable def H:Hd:=⟨[Si,Sw],[Si],(.seq .d (.seq .d (.seq .d (.seq .d (.cut [] [] (.seq .d (.blk (.loop [5,6,22,23,24] [] .d))) .d))))),⟨[(113,F113.c)],gl,false⟩,[],f63⟩
def t4(b f:Int32)(a:LX)(g:Int):S:=⟨[(5,vx b),(6,vx f),(22,vw a),(23,vi (Ac a)),(24,vi g)],[],[]⟩
def z4:Nat->S->Option R_:=H.i P_ [r,r,r,r,l,r,d]
def x6:Option R_:=H.e P_ [r,r,r,r,r] ⟨[],[],[]⟩
def x4(b f:Int32)(a:LX)(g:Int):Option R_:=H.e P_ [r,r,r,r,l,r,d] (t4 b f a g)
theorem e6:x6=kY:=by kernel_rfl
theorem i4(b f:Int32)(a:LX):∀(q:Nat) (g:Int),z4 q (t4 b f a g)=Ub b f a q g:=
 ind (λ_=>by kernel_rfl) λq ih g=>Eq.trans (b:=HF x6 (λg=>(z4 q) (t4 b f a g)) b f a g) (by kernel_rfl) (by simp only[e6,ih]<;>rfl)
theorem e4:x4=mM:=by funext b f a g;exact Eq.trans (by kernel_rfl) ((i4 b f a Ed g).trans (by rw[Bg];rfl))
def F:=u2 Zc
theorem rn x:H.u P_ x=F x:=Eq.trans (b:=u2 (XF x4) x) (by kernel_rfl) (by simp only[e4]<;>rfl)
def c:Con:=⟨H.p,H.r,F⟩
theorem ok:ConOk P_ gl 63 c:=co H func63 (.cons F113.ok .nil) rn
end F63
namespace F84
noncomputable def H:Hd:=⟨[.agg [Si,Si,Si,Sw]],[Si], .d,⟨[(63,F63.c),(121,F121.c)],gl,false⟩,[],f84⟩
def F:=u4 Ex
theorem rn x:H.u P_ x=F x:=by kernel_rfl
def c:Con:=⟨H.p,H.r,F⟩
theorem ok:ConOk P_ gl 84 c:=co H func84 (.cons F63.ok (.cons F121.ok .nil)) rn
end F84
namespace F38
def RX(j2:LB->Int->Int->Int->LX->Option (Int×Int×Int×Int×Int×Int))(a b f:Int)(g:LX)(h:LB):Option (Int×Int×Int×Int×Int×Int):=
(Ex a b f g).bind λk=>
if(Bi k 0)then
some (0,0,0,0,0,k)
else
if(Ez (Ac h) 64)then
some (0,0,0,0,0,2)
else
(Le (Bi a 0)).bind λ_=>
bo (
j2 h a b f g)
theorem sD: @RX= @JU:=by
  unfold RX JU;simp only[WX,DX,DY]
abbrev R_:=(Int×Int×Int×Int×Int×Int)
noncomputable def H:Hd:=⟨[.agg [Si,Si,Si,Sw],Ss],[.agg [Si,Si,Si,Si,Si],Si],(.seq .d (.seq .d (.seq .d (.cut [1,4,7] [] .d .d)))),⟨[(84,F84.c)],gl,false⟩,[],f38⟩
def x2(h:LB)(a b f:Int)(g:LX):Option R_:=H.e P_ [r,r,r,r] ⟨[(1,vs h),(4, .ptr 0 []),(7, .ptr 1 [])],[.box 32 (.agg [vi 0,vi 0,vi 0,vi 0,vi 0]), .box 32 (.agg [vi 1,vi a,vi b,vi f,vi (Cv (Ac g) a)])],[]⟩
theorem e2:x2=XD:=by kernel_rfl
def F:=u5 ZS
theorem rn x:H.u P_ x=F x:=Eq.trans (b:=u5 (RX x2) x) (by kernel_rfl) (by unfold F;rw[sD];simp only[e2]<;>rfl)
def c:Con:=⟨H.p,H.r,F⟩
theorem ok:ConOk P_ gl 38 c:=co H func38 (.cons F84.ok .nil) rn
end F38
namespace F154
abbrev R_:=(UInt64×Int)
abbrev K_:=S->Option R_
noncomputable def H:Hd:=⟨[Sq,Sb],[Sq,Si],(.seq .d (.seq .d (.cut [4,5] [] (.keep [0,1,4,5,9,10,11,12] true) .d))),⟨[],gl,false⟩,[(181,(.seq .d (.cut [1] [] (.seq .d (.blk (.loop [0,1,9,10,11] [] .d))) .d))),(182,(.seq .d (.seq .d (.cut [1] [] (.seq .d (.blk (.loop [1,5] [] (.seq .d (.seq .d (.cut [1,5] [] (.blk (.seq .d (.seq .d (.cut [1,2,3,5] [] (.seq .d (.blk (.loop [1,2,3,5,11] [] .d))) .d)))) .d)))))) .d))))],f154⟩
def t27(a:LB)(b:UInt64)(f:LQ)(h:UInt64)(m:Int):S:=⟨[(0, .ptr 0 []),(1,vq h),(9,vb a),(10,vi (Ac a)),(11,vi m)],[.box 285 (.val (.vec 256 (.int .u64)) f)],[[(0,vq b),(1,vb a),(4,vq 0),(5,vi 0),(9, .ptr 0 []),(10,vq b),(11,vb a)]]⟩
def z27:Nat->S->Option R_:=H.i P_ [r,r,l,(call 3 181),r,l,r,d]
def t21(b:UInt64)(a:LB)(g:Int)(f:LQ)(k:UInt64)(n:Int):S:=⟨[(1, .ptr 0 []),(2,vi g),(3,vq k),(5,vi g),(11,vi n)],[.box 285 (.val (.vec 256 (.int .u64)) f)],[[(0,vq b),(1,vb a),(4,vq 0),(5,vi 0)]]⟩
def z21(Fa:K_):Nat->S->Option R_:=H.i P_ [r,r,l,(call 0 182),r,r,l,r,d,(lp Fa),r,r,l,d,r,r,l,r,d]
def t16(b:UInt64)(a:LB)(g:Int)(f:LQ):S:=⟨[(1, .ptr 0 []),(5,vi g)],[.box 285 (.val (.vec 256 (.int .u64)) f)],[[(0,vq b),(1,vb a),(4,vq 0),(5,vi 0)]]⟩
def z16:Nat->S->Option R_:=H.i P_ [r,r,l,(call 0 182),r,r,l,r,d]
def x30(h:UInt64):Option R_:=H.e P_ [r,r,r] ⟨[(4,vq h),(5,vi 0)],[],[]⟩
def x29(h b:UInt64)(a:LB)(f:LQ):Option R_:=H.e P_ [r,r,l,(call 3 181),r,r] ⟨[(1,vq h)],[.box 285 (.val (.vec 256 (.int .u64)) f)],[[(0,vq b),(1,vb a),(4,vq 0),(5,vi 0),(9, .ptr 0 []),(10,vq b),(11,vb a)]]⟩
def x27(a:LB)(b:UInt64)(f:LQ)(h:UInt64)(m:Int):Option R_:=H.e P_ [r,r,l,(call 3 181),r,l,r,d] (t27 a b f h m)
def x26(b:UInt64)(a:LB)(f:LQ):Option R_:=H.e P_ [r,r,l,(call 0 182),r,r,r] ⟨[(1, .ptr 0 [])],[.box 285 (.val (.vec 256 (.int .u64)) f)],[[(0,vq b),(1,vb a),(4,vq 0),(5,vi 0)]]⟩
def x24(Fa:K_)(b:UInt64)(a:LB)(g:Int)(o:LQ):Option R_:=H.e P_ [r,r,l,(call 0 182),r,r,l,r,d,(lp Fa),r,r,r] ⟨[(1, .ptr 0 []),(5,vi g)],[.box 285 (.val (.vec 256 (.int .u64)) o)],[[(0,vq b),(1,vb a),(4,vq 0),(5,vi 0)]]⟩
def x23(Fa:K_)(b:UInt64)(a:LB)(g:Int)(k:UInt64)(f:LQ):Option R_:=H.e P_ [r,r,l,(call 0 182),r,r,l,r,d,(lp Fa),r,r,l,d,r,r,r] ⟨[(1, .ptr 0 []),(2,vi g),(3,vq k),(5,vi g)],[.box 285 (.val (.vec 256 (.int .u64)) f)],[[(0,vq b),(1,vb a),(4,vq 0),(5,vi 0)]]⟩
def x21(Fa:K_)(b:UInt64)(a:LB)(g:Int)(f:LQ)(k:UInt64)(n:Int):Option R_:=H.e P_ [r,r,l,(call 0 182),r,r,l,r,d,(lp Fa),r,r,l,d,r,r,l,r,d] (t21 b a g f k n)
def x16(b:UInt64)(a:LB)(g:Int)(f:LQ):Option R_:=H.e P_ [r,r,l,(call 0 182),r,r,l,r,d] (t16 b a g f)
theorem e30:x30=VN:=by kernel_rfl
theorem e29:x29=XC:=Eq.trans (b:=VH x30) (by kernel_rfl) (by simp only[e30]<;>rfl)
theorem i27(a:LB)(b:UInt64)(f:LQ):∀(q:Nat) (h:UInt64) (m:Int),z27 q (t27 a b f h m)=Uq a b f q h m:=
 ind (λ_ _=>by kernel_rfl) λq ih h m=>Eq.trans (b:=JD x29 (λh m=>(z27 q) (t27 a b f h m)) a b f h m) (by kernel_rfl) (by simp only[e29,ih]<;>rfl)
theorem e27:x27=VX:=by funext a b f h m;exact Eq.trans (by kernel_rfl) ((i27 a b f Ed h m).trans (by rw[Bg];rfl))
theorem e26:x26=HZ:=Eq.trans (b:=XZ x27) (by kernel_rfl) (by simp only[e27]<;>rfl)
theorem e24(Fa:K_)(b:UInt64)(a:LB):x24 Fa b a=YB (λg f=>Fa (t16 b a g f)) b a:=by kernel_rfl
theorem e23(Fa:K_)(b:UInt64)(a:LB):x23 Fa b a=JJ (λg f=>Fa (t16 b a g f)) b a:=Eq.trans (b:=VO (x24 Fa b a) b a) (by kernel_rfl) (by simp only[e24]<;>rfl)
theorem i21(Fa:K_)(b:UInt64)(a:LB)(g:Int)(f:LQ):∀(q:Nat) (k:UInt64) (n:Int),z21 Fa q (t21 b a g f k n)=Uu (λg f=>Fa (t16 b a g f)) b a g f q k n:=
 ind (λ_ _=>by kernel_rfl) λq ih k n=>Eq.trans (b:=KB (x23 Fa b a) (λk n=>(z21 Fa q) (t21 b a g f k n)) b a g f k n) (by kernel_rfl) (by simp only[e23,ih]<;>rfl)
theorem e21(Fa:K_)(b:UInt64)(a:LB):x21 Fa b a=WI (λg f=>Fa (t16 b a g f)) b a:=by funext g f k n;exact Eq.trans (by kernel_rfl) ((i21 Fa b a g f Ed k n).trans (by rw[Bg];rfl))
theorem i16(b:UInt64)(a:LB):∀(q:Nat) (g:Int) (f:LQ),z16 q (t16 b a g f)=Pv b a q g f:=
 ind (λ_ _=>by kernel_rfl) λq ih g f=>Eq.trans (b:=JG (x21 (z16 q) b a) x26 b a g f) (by kernel_rfl) (by simp only[e21,e26,ih]<;>rfl)
theorem e16:x16=VQ:=by funext b a g f;exact Eq.trans (by kernel_rfl) ((i16 b a Ed g f).trans (by rw[Bg];rfl))
def F:=u2 fO
theorem rn x:H.u P_ x=F x:=Eq.trans (b:=u2 (aP x16) x) (by kernel_rfl) (by simp only[e16]<;>rfl)
def c:Con:=⟨H.p,H.r,F⟩
theorem ok:ConOk P_ gl 154 c:=cr H func154 .nil (Ft.cons ent181 (Ft.cons ent182 Ft.nil)) rn
end F154
namespace F122
noncomputable def H:Hd:=⟨[Sb],[Sq,Si], .d,⟨[(154,F154.c)],gl,false⟩,[],f122⟩
def F:=eL
theorem rn x:H.u P_ x=F x:=by kernel_rfl
def c:Con:=⟨H.p,H.r,F⟩
theorem ok:ConOk P_ gl 122 c:=co H func122 (.cons F154.ok .nil) rn
end F122
namespace F123
abbrev R_:=LX
noncomputable def H:Hd:=⟨[Sq],[.lf (.vec 16 (.int .i32)) none],(.seq .d (.seq .d (.cut [2,3] [] (.seq .d (.blk (.loop [0,2,3,5] [] .d))) .d))),⟨[],gl,false⟩,[],f123⟩
def t4(f:UInt64)(b:Int)(a:LX):S:=⟨[(0,vq f),(2, .ptr 0 []),(3, .ptr 1 []),(5,vi b)],[.box 136 (.val (.vec 16 (.int .i32)) (List.replicate 16 (0:Int32))), .box 136 (.val (.vec 16 (.int .i32)) a)],[]⟩
def z4:Nat->S->Option R_:=H.i P_ [r,r,l,r,d]
def x6(a:LX):Option R_:=H.e P_ [r,r,r] ⟨[(2, .ptr 0 []),(3, .ptr 1 [])],[.box 136 (.val (.vec 16 (.int .i32)) (List.replicate 16 (0:Int32))), .box 136 (.val (.vec 16 (.int .i32)) a)],[]⟩
def x4(f:UInt64)(b:Int)(a:LX):Option R_:=H.e P_ [r,r,l,r,d] (t4 f b a)
theorem e6:x6=Abn:=by kernel_rfl
theorem i4(f:UInt64):∀(q:Nat) (b:Int) (a:LX),z4 q (t4 f b a)=MM f q b a:=
 ind (λ_ _=>by kernel_rfl) λq ih b a=>Eq.trans (b:=iF x6 (λb a=>(z4 q) (t4 f b a)) f b a) (by kernel_rfl) (by simp only[e6,ih]<;>rfl)
theorem e4:x4=Aeg:=by funext f b a;exact Eq.trans (by kernel_rfl) ((i4 f Ed b a).trans (by rw[Bg];rfl))
def F:=Ai2
theorem rn x:H.u P_ x=F x:=Eq.trans (b:=Ace x4 x) (by kernel_rfl) (by simp only[e4]<;>rfl)
def c:Con:=⟨H.p,H.r,F⟩
theorem ok:ConOk P_ gl 123 c:=co H func123 .nil rn
end F123
namespace F85
noncomputable def H:Hd:=⟨[Ss],[.lf (.vec 16 (.int .i32)) none,Si], .d,⟨[(122,F122.c),(123,F123.c)],gl,false⟩,[],f85⟩
def F:=Uf
theorem rn x:H.u P_ x=F x:=by kernel_rfl
def c:Con:=⟨H.p,H.r,F⟩
theorem ok:ConOk P_ gl 85 c:=co H func85 (.cons F122.ok (.cons F123.ok .nil)) rn
end F85
namespace F198
noncomputable def H:Hd:=⟨[Sq,Sq],[Sq,Sq], .d,⟨[],gl,false⟩,[],f198⟩
def F:=u2 RK
theorem rn x:H.u P_ x=F x:=by kernel_rfl
def c:Con:=⟨H.p,H.r,F⟩
theorem ok:ConOk P_ gl 198 c:=co H func198 .nil rn
end F198
namespace F171
noncomputable def H:Hd:=⟨[Sq,Sq],[Sq,Sq], .d,⟨[(198,F198.c)],gl,false⟩,[],f171⟩
def F:=u2 OJ
theorem rn x:H.u P_ x=F x:=by kernel_rfl
def c:Con:=⟨H.p,H.r,F⟩
theorem ok:ConOk P_ gl 171 c:=co H func171 (.cons F198.ok .nil) rn
end F171
namespace F136
def Qx(j10:LI->Option (LI))(bk8:Int->LI->Option (LI))(b:Int)(a:LI):Option (LI):=
if(Cr b (Ac a))then
both (
(jH (Ac a) b (Ac a)).bind λ_=>
(jH (Ac a) 0 b).bind λ_=>
bk8 (Ad b (YH ((Ac a)-b) (YQ a 0 (b-(0:Int))).length)) (Xn a b ((Ac a)-b) (YQ a 0 (b-(0:Int))))) [
(jH (Ac a) 0 b).bind λ_=>
(jH (Ac a) b (Ac a)).bind λ_=>
bk8 (Ad b (YH ((Ac a)-b) (YQ a 0 (b-(0:Int))).length)) (Xn a b ((Ac a)-b) (YQ a 0 (b-(0:Int))))]
else
j10 a
theorem SL: @Qx= @Im:=by
  unfold Qx Im
  repeat (refine funext λ_=>?_)
  repeat' first
    |with_reducible rfl
    |with_reducible refine Nb ?_ ?_
    |with_reducible refine Nh ?_ ?_ ?_
    |with_reducible refine Mz ?_ ?_ ?_ ?_
    |((with_reducible refine Rr ?_ ?_);focus (intro h;first|(subst h;rfl)|(simp only[h];rfl)|(simp[Dy,Ac,h];done)))
    |with_reducible refine Rt λx=>?_
    |with_reducible refine AP (λ_=>?_) (λ_=>?_)
    |(refine Hc (λh=>by simp only[h,Rv,Em,Eb,ite_self]) (λx h=>?_);(try simp only[h,Em]))
    |(refine Jf (λh=>?_) (λh=>?_)<;>simp only[h,if_true,if_false,Bool.false_eq_true])
abbrev R_:=LI
noncomputable def H:Hd:=⟨[Sl,Si],[Ol 3],(.seq .d (.cut [0,1] [] .d (.seq .d (.cut [0,6] [] .d (.seq .d (.seq .d (.cut [7] [] (.blk (.loop [7,8] [] (.seq .d (.blk (.mode false))))) .d))))))),⟨[(171,F171.c)],gl,true⟩,[],f136⟩
def t8(b:Int)(a:LI):S:=⟨[(7, .own 0),(8,vi b)],[Ai 3 a],[]⟩
def z8:Nat->S->Option R_:=H.i P_ [r,r,r,r,r,r,l,d]
def x10(a:LI):Option R_:=H.e P_ [r,r,r,r,r,r,r] ⟨[(7, .own 0)],[Ai 3 a],[]⟩
def x8(b:Int)(a:LI):Option R_:=H.e P_ [r,r,r,r,r,r,l,d] (t8 b a)
def x7(f:LI)(g:UInt64):Option R_:=H.e P_ [r,r,r,r] ⟨[(0,vl f),(6,vq g)],[],[]⟩
def x6(f:LI)(h:Int):Option R_:=H.e P_ [r,r] ⟨[(0,vl f),(1,vi h)],[],[]⟩
theorem e10:x10=La:=by kernel_rfl
theorem i8:∀(q:Nat) (b:Int) (a:LI),z8 q (t8 b a)=Fz q b a:=
 ind (λ_ _=>by kernel_rfl) λq ih b a=>Eq.trans (b:=Qx x10 (λb a=>(z8 q) (t8 b a)) b a) (by kernel_rfl) (by rw[SL];simp only[e10,ih]<;>rfl)
theorem e8:x8=Sm:=by funext b a;exact Eq.trans (by kernel_rfl) ((i8 Ed b a).trans (by rw[Bg];rfl))
theorem e7:x7=Se:=Eq.trans (b:=Sg x8) (by kernel_rfl) (by simp only[e8]<;>rfl)
theorem e6:x6=Sp:=Eq.trans (b:=Sa x7) (by kernel_rfl) (by simp only[e7]<;>rfl)
def F:=u2 Qn
theorem rn x:H.u P_ x=F x:=Eq.trans (b:=u2 (Sr x6) x) (by kernel_rfl) (by simp only[e6]<;>rfl)
def c:Con:=⟨H.p,H.r,F⟩
theorem ok:ConOk P_ gl 136 c:=co H func136 (.cons F171.ok .nil) rn
end F136
namespace F172
abbrev R_:=LI
noncomputable def H:Hd:=⟨[.lf (.list (.list (.int .i64))) none],[Ol 3],(.seq .d (.seq .d (.cut [0,3] [] (.seq .d (.blk (.loop [0,3,9,10,11] [] .d))) (.cut [0,6] [⟨6,[], .own 3 (.int .i64)⟩] (.keep [0,3,6,23,24] true) (.cut [6] [] (.seq .d (.blk (.loop [6,25,26,27] [] .d))) .d))))),⟨[],gl,true⟩,[(199,(.seq .d (.cut [0,1] [] .d .d)))],f172⟩
def t14(a:List LI)(g:Int)(f:LI):S:=⟨[(6, .own 0),(25, .val (.list (.list (.int .i64))) a),(26,vi (Ac a)),(27,vi g)],[Ai 3 f],[]⟩
def z14:Nat->S->Option R_:=H.i P_ [r,r,r,r,l,r,d]
def t9(a:List LI)(b h:Int):S:=⟨[(0, .val (.list (.list (.int .i64))) a),(3,vi b),(9, .val (.list (.list (.int .i64))) a),(10,vi (Ac a)),(11,vi h)],[],[]⟩
def z9:Nat->S->Option R_:=H.i P_ [r,r,l,r,d]
def x16(f:LI):Option R_:=H.e P_ [r,r,r,r,r] ⟨[(6, .own 0)],[Ai 3 f],[]⟩
def x14(a:List LI)(g:Int)(f:LI):Option R_:=H.e P_ [r,r,r,r,l,r,d] (t14 a g f)
def x13(a:List LI)(k:LI):Option R_:=H.e P_ [r,r,r,r] ⟨[(0, .val (.list (.list (.int .i64))) a),(6, .own 0)],[Ai 3 k],[]⟩
def x12(b:Int)(a:List LI):Option R_:=H.e P_ [r,r,r,l,(call 1 199),r,r] ⟨[(0, .nils),(1,vi b)],[],[[(0, .val (.list (.list (.int .i64))) a),(3,vi b),(23,vi b)]]⟩
def x11(a:List LI)(b:Int):Option R_:=H.e P_ [r,r,r] ⟨[(0, .val (.list (.list (.int .i64))) a),(3,vi b)],[],[]⟩
def x9(a:List LI)(b h:Int):Option R_:=H.e P_ [r,r,l,r,d] (t9 a b h)
theorem e16:x16=BJ:=by kernel_rfl
theorem i14(a:List LI):∀(q:Nat) (g:Int) (f:LI),z14 q (t14 a g f)=Fi a q g f:=
 ind (λ_ _=>by kernel_rfl) λq ih g f=>Eq.trans (b:=Hz x16 (λg f=>(z14 q) (t14 a g f)) a g f) (by kernel_rfl) (by simp only[e16,ih]<;>rfl)
theorem e14:x14=Qt:=by funext a g f;exact Eq.trans (by kernel_rfl) ((i14 a Ed g f).trans (by rw[Bg];rfl))
theorem e13:x13=Kz:=Eq.trans (b:=Rb x14) (by kernel_rfl) (by simp only[e14]<;>rfl)
theorem e12:x12=Qy:=Eq.trans (b:=Qz x13) (by kernel_rfl) (by simp only[e13]<;>rfl)
theorem e11:x11=Qu:=Eq.trans (b:=Qw x12) (by kernel_rfl) (by simp only[e12]<;>rfl)
theorem i9(a:List LI):∀(q:Nat) (b h:Int),z9 q (t9 a b h)=Fw a q b h:=
 ind (λ_ _=>by kernel_rfl) λq ih b h=>Eq.trans (b:=Ip x11 (λb h=>(z9 q) (t9 a b h)) a b h) (by kernel_rfl) (by simp only[e11,ih]<;>rfl)
theorem e9:x9=Sf:=by funext a b h;exact Eq.trans (by kernel_rfl) ((i9 a Ed b h).trans (by rw[Bg];rfl))
def F:=Qj
theorem rn x:H.u P_ x=F x:=Eq.trans (b:=Sj x9 x) (by kernel_rfl) (by simp only[e9]<;>rfl)
def c:Con:=⟨H.p,H.r,F⟩
theorem ok:ConOk P_ gl 172 c:=cr H func172 .nil (Ft.cons ent199 Ft.nil) rn
end F172
namespace F137
noncomputable def H:Hd:=⟨[Sl,Sl],[Ol 3], .d,⟨[(172,F172.c)],gl,false⟩,[],f137⟩
def F:=u2 VE
theorem rn x:H.u P_ x=F x:=by kernel_rfl
def c:Con:=⟨H.p,H.r,F⟩
theorem ok:ConOk P_ gl 137 c:=co H func137 (.cons F172.ok .nil) rn
end F137
namespace F101
noncomputable def H:Hd:=⟨[Si,Si],[Ol 3,Si], .d,⟨[(117,F117.c),(118,F118.c),(136,F136.c),(137,F137.c)],gl,false⟩,[],f101⟩
def F:=u2 AK
theorem rn x:H.u P_ x=F x:=by kernel_rfl
def c:Con:=⟨H.p,H.r,F⟩
theorem ok:ConOk P_ gl 101 c:=co H func101 (.cons F117.ok (.cons F118.ok (.cons F136.ok (.cons F137.ok .nil)))) rn
end F101
namespace F155
noncomputable def H:Hd:=⟨[.agg [Si,Si],Sw],[Si], .d,⟨[(63,F63.c),(139,F139.c)],gl,false⟩,[],f155⟩
def F:=u3 OO
theorem rn x:H.u P_ x=F x:=by kernel_rfl
def c:Con:=⟨H.p,H.r,F⟩
theorem ok:ConOk P_ gl 155 c:=co H func155 (.cons F63.ok (.cons F139.ok .nil)) rn
end F155
namespace F183
noncomputable def H:Hd:=⟨[Si,Sw],[Si], .d,⟨[],gl,false⟩,[],f183⟩
def F:=u2 eP
theorem rn x:H.u P_ x=F x:=by kernel_rfl
def c:Con:=⟨H.p,H.r,F⟩
theorem ok:ConOk P_ gl 183 c:=co H func183 .nil rn
end F183
namespace F184
def Nx(a:LX):Option (LX):=
Acg a (
some ([]:LX)) (
(Dy ([]:LX) a).bind λb=>
some b)
theorem KR: @Nx= @El:=by
  unfold Nx El
  repeat (refine funext λ_=>?_)
  repeat' first
    |with_reducible rfl
    |with_reducible refine Nb ?_ ?_
    |with_reducible refine Nh ?_ ?_ ?_
    |with_reducible refine Mz ?_ ?_ ?_ ?_
    |((with_reducible refine Rr ?_ ?_);focus (intro h;first|(subst h;rfl)|(simp only[h];rfl)|(simp[Dy,Ac,h];done)))
    |with_reducible refine Rt λx=>?_
    |with_reducible refine AP (λ_=>?_) (λ_=>?_)
    |(refine Hc (λh=>by simp only[h,Rv,Em,Eb,ite_self]) (λx h=>?_);(try simp only[h,Em]))
    |(refine Jf (λh=>?_) (λh=>?_)<;>simp only[h,if_true,if_false,Bool.false_eq_true])
noncomputable def H:Hd:=⟨[Sw],[Ow 21], .d,⟨[],gl,false⟩,[],f184⟩
def F:=El
theorem rn x:H.u P_ x=F x:=Eq.trans (b:=Nx x) (by kernel_rfl) (by rw[KR];rfl)
def c:Con:=⟨H.p,H.r,F⟩
theorem ok:ConOk P_ gl 184 c:=co H func184 .nil rn
end F184
namespace F156
abbrev R_:=(LX×Int)
abbrev K_:=S->Option R_
noncomputable def H:Hd:=⟨[Si,Sw],[Ow 21,Si],(.seq .d (.seq .d (.seq .d (.cut [7] [] (.seq .d (.blk (.loop [0,7,8] [] (.seq .d (.cut [0,7,8] [] (.blk (.keep [0,7,8,24,25,26,27,28,29] true)) .d))))) .d)))),⟨[(183,F183.c),(184,F184.c)],gl,true⟩,[(185,(.seq .d (.cut [0,2] [] (.seq .d (.blk (.loop [0,2,7,8] [] .d))) .d)))],f156⟩
def t17(b a h:Int)(g:LX):S:=⟨[(0, .view true 0 [] (.int .i32) a ((Ad a b)-a)),(2,vi (Am ((Ad a b)-a) (1:Int))),(7,vi (Am ((Ad a b)-a) (1:Int))),(8,vi h)],[Aw 21 g],[[(0,vi b),(7, .own 0),(8,vi a),(24, .own 0),(25,vi a),(26,vi a),(27,vi b),(28,vi (Ad a b)),(29, .view true 0 [] (.int .i32) a ((Ad a b)-a))]]⟩
def z17(Qh:K_):Nat->S->Option R_:=H.i P_ [r,r,r,l,r,d,(lp Qh),r,l,d,(call 6 185),r,l,r,d]
def t12(b a:Int)(f:LX):S:=⟨[(0,vi b),(7, .own 0),(8,vi a)],[Aw 21 f],[]⟩
def z12:Nat->S->Option R_:=H.i P_ [r,r,r,l,r,d]
def x22(f:LX):Option R_:=H.e P_ [r,r,r,r] ⟨[(7, .own 0)],[Aw 21 f],[]⟩
def x20(Qh:K_)(b a:Int)(k:LX):Option R_:=H.e P_ [r,r,r,l,r,d,(lp Qh),r,r] ⟨[(0,vi b),(7, .own 0),(8,vi a)],[Aw 21 k],[]⟩
def x19(Qh:K_)(b a:Int)(g:LX):Option R_:=H.e P_ [r,r,r,l,r,d,(lp Qh),r,l,d,(call 6 185),r,r] ⟨[(0, .view true 0 [] (.int .i32) a ((Ad a b)-a)),(2,vi (Am ((Ad a b)-a) (1:Int)))],[Aw 21 g],[[(0,vi b),(7, .own 0),(8,vi a),(24, .own 0),(25,vi a),(26,vi a),(27,vi b),(28,vi (Ad a b)),(29, .view true 0 [] (.int .i32) a ((Ad a b)-a))]]⟩
def x17(Qh:K_)(b a h:Int)(g:LX):Option R_:=H.e P_ [r,r,r,l,r,d,(lp Qh),r,l,d,(call 6 185),r,l,r,d] (t17 b a h g)
def x12(b a:Int)(f:LX):Option R_:=H.e P_ [r,r,r,l,r,d] (t12 b a f)
theorem e22:x22=zK:=by kernel_rfl
theorem e20(Qh:K_)(b:Int):x20 Qh b=aF (λa f=>Qh (t12 b a f)) b:=by kernel_rfl
theorem e19(Qh:K_)(b:Int):x19 Qh b=lI (λa f=>Qh (t12 b a f)) b:=Eq.trans (b:=nU (x20 Qh b) b) (by kernel_rfl) (by simp only[e20]<;>rfl)
theorem i17(Qh:K_)(b a:Int):∀(q:Nat) (h:Int) (g:LX),z17 Qh q (t17 b a h g)=FG (λa f=>Qh (t12 b a f)) b a q h g:=
 ind (λ_ _=>by kernel_rfl) λq ih h g=>Eq.trans (b:=ZM (x19 Qh b) (λh g=>(z17 Qh q) (t17 b a h g)) b a h g) (by kernel_rfl) (by simp only[e19,ih]<;>rfl)
theorem e17(Qh:K_)(b:Int):x17 Qh b=zC (λa f=>Qh (t12 b a f)) b:=by funext a h g;exact Eq.trans (by kernel_rfl) ((i17 Qh b a Ed h g).trans (by rw[Bg];rfl))
theorem i12(b:Int):∀(q:Nat) (a:Int) (f:LX),z12 q (t12 b a f)=EW b q a f:=
 ind (λ_ _=>by kernel_rfl) λq ih a f=>Eq.trans (b:=kN (x17 (z12 q) b) x22 b a f) (by kernel_rfl) (by simp only[e17,e22,ih]<;>rfl)
theorem e12:x12=nE:=by funext b a f;exact Eq.trans (by kernel_rfl) ((i12 b Ed a f).trans (by rw[Bg];rfl))
def F:=u2 Aac
theorem rn x:H.u P_ x=F x:=Eq.trans (b:=u2 (sL x12) x) (by kernel_rfl) (by simp only[e12]<;>rfl)
def c:Con:=⟨H.p,H.r,F⟩
theorem ok:ConOk P_ gl 156 c:=cr H func156 (.cons F183.ok (.cons F184.ok .nil)) (Ft.cons ent185 Ft.nil) rn
end F156
namespace F186
abbrev R_:=(Int×LX×LX×Int)
noncomputable def H:Hd:=⟨[Si, .lf (.vec 16 (.int .i32)) none],[.agg [Si, .lf (.vec 16 (.int .i32)) none, .lf (.vec 16 (.int .i32)) none],Si],(.seq .d (.seq .d (.seq (.seq .d (.blk (.cut [4,6,9,11] [] .d .d))) .d))),⟨[],gl,false⟩,[],f186⟩
def x2(a:Int)(b:LX)(f:Bool):Option R_:=H.e P_ [r,r,l,r,d,r] ⟨[(4, .ptr 0 []),(6, .ptr 1 []),(9,vi a),(11,vt f)],[.box 222 (.agg [vi 0, .val (.vec 16 (.int .i32)) (List.replicate 16 (0:Int32)), .val (.vec 16 (.int .i32)) (List.replicate 16 (0:Int32))]), .box 222 (.agg [vi 10, .val (.vec 16 (.int .i32)) b, .val (.vec 16 (.int .i32)) (List.replicate 16 (0:Int32))])],[]⟩
theorem e2:x2=zF:=by kernel_rfl
def F:=u2 uL
theorem rn x:H.u P_ x=F x:=Eq.trans (b:=u2 (xY x2) x) (by kernel_rfl) (by simp only[e2]<;>rfl)
def c:Con:=⟨H.p,H.r,F⟩
theorem ok:ConOk P_ gl 186 c:=co H func186 .nil rn
end F186
namespace F157
noncomputable def H:Hd:=⟨[Si, .lf (.vec 16 (.int .i32)) none],[.agg [Si,Sx, .agg [Si, .lf (.vec 16 (.int .i32)) none, .lf (.vec 16 (.int .i32)) none]],Si], .d,⟨[(186,F186.c)],gl,false⟩,[],f157⟩
def F:=u2 xO
theorem rn x:H.u P_ x=F x:=by kernel_rfl
def c:Con:=⟨H.p,H.r,F⟩
theorem ok:ConOk P_ gl 157 c:=co H func157 (.cons F186.ok .nil) rn
end F157
namespace F187
noncomputable def H:Hd:=⟨[.agg [Si,Sx, .agg [Si, .lf (.vec 16 (.int .i32)) none, .lf (.vec 16 (.int .i32)) none]]],[Si], .d,⟨[(186,F186.c)],gl,false⟩,[],f187⟩
def F:=u5 Zw
theorem rn x:H.u P_ x=F x:=by kernel_rfl
def c:Con:=⟨H.p,H.r,F⟩
theorem ok:ConOk P_ gl 187 c:=co H func187 (.cons F186.ok .nil) rn
end F187
namespace F204
noncomputable def H:Hd:=⟨[Si],[Si,Si], .d,⟨[],gl,false⟩,[],f204⟩
def F:=mW
theorem rn x:H.u P_ x=F x:=by kernel_rfl
def c:Con:=⟨H.p,H.r,F⟩
theorem ok:ConOk P_ gl 204 c:=co H func204 .nil rn
end F204
namespace F205
noncomputable def H:Hd:=⟨[Si,Sx],[Sx], .d,⟨[],gl,false⟩,[],f205⟩
def F:=u2 aA
theorem rn x:H.u P_ x=F x:=by kernel_rfl
def c:Con:=⟨H.p,H.r,F⟩
theorem ok:ConOk P_ gl 205 c:=co H func205 .nil rn
end F205
namespace F188
noncomputable def H:Hd:=⟨[Si,Sx],[Sx,Si], .d,⟨[(204,F204.c),(205,F205.c)],gl,false⟩,[],f188⟩
def F:=u2 Zv
theorem rn x:H.u P_ x=F x:=by kernel_rfl
def c:Con:=⟨H.p,H.r,F⟩
theorem ok:ConOk P_ gl 188 c:=co H func188 (.cons F204.ok (.cons F205.ok .nil)) rn
end F188
namespace F210
noncomputable def H:Hd:=⟨[.agg [Si, .lf (.vec 16 (.int .i32)) none, .lf (.vec 16 (.int .i32)) none]],[Si], .d,⟨[],gl,false⟩,[],f210⟩
def F:=u3 NJ
theorem rn x:H.u P_ x=F x:=by kernel_rfl
def c:Con:=⟨H.p,H.r,F⟩
theorem ok:ConOk P_ gl 210 c:=co H func210 .nil rn
end F210
namespace F206
abbrev R_:=(Int32×Int)
noncomputable def H:Hd:=⟨[.agg [Si, .lf (.vec 16 (.int .i32)) none, .lf (.vec 16 (.int .i32)) none]],[Sx,Si],(.seq .d (.seq .d (.seq .d (.cut [1,5] [] (.seq .d (.blk (.loop [1,5,18,19] [] .d))) .d)))),⟨[(210,F210.c)],gl,false⟩,[],f206⟩
def t4(b:LX)(a:Int)(f:LX)(g:Int32)(h:Int):S:=⟨[(1, .ptr 0 []),(5,vx g),(18, .val (.vec 16 (.int .i32)) b),(19,vi h)],[.box 222 (.agg [vi a, .val (.vec 16 (.int .i32)) b, .val (.vec 16 (.int .i32)) f])],[]⟩
def z4:Nat->S->Option R_:=H.i P_ [r,r,r,l,r,d]
def x6(g:Int32)(a:Int)(b f:LX):Option R_:=H.e P_ [r,r,r,r] ⟨[(1, .ptr 0 []),(5,vx g)],[.box 222 (.agg [vi a, .val (.vec 16 (.int .i32)) b, .val (.vec 16 (.int .i32)) f])],[]⟩
def x4(b:LX)(a:Int)(f:LX)(g:Int32)(h:Int):Option R_:=H.e P_ [r,r,r,l,r,d] (t4 b a f g h)
theorem e6:x6=bQ:=by kernel_rfl
theorem i4(b:LX)(a:Int)(f:LX):∀(q:Nat) (g:Int32) (h:Int),z4 q (t4 b a f g h)=Xc b a f q g h:=
 ind (λ_ _=>by kernel_rfl) λq ih g h=>Eq.trans (b:=OE x6 (λg h=>(z4 q) (t4 b a f g h)) b a f g h) (by kernel_rfl) (by simp only[e6,ih]<;>rfl)
theorem e4:x4=aQ:=by funext b a f g h;exact Eq.trans (by kernel_rfl) ((i4 b a f Ed g h).trans (by rw[Bg];rfl))
def F:=u3 YA
theorem rn x:H.u P_ x=F x:=Eq.trans (b:=u3 (bM x4) x) (by kernel_rfl) (by simp only[e4]<;>rfl)
def c:Con:=⟨H.p,H.r,F⟩
theorem ok:ConOk P_ gl 206 c:=co H func206 (.cons F210.ok .nil) rn
end F206
namespace F215
noncomputable def H:Hd:=⟨[Si],[Sx], .d,⟨[],gl,false⟩,[],f215⟩
def F:=cM
theorem rn x:H.u P_ x=F x:=by kernel_rfl
def c:Con:=⟨H.p,H.r,F⟩
theorem ok:ConOk P_ gl 215 c:=co H func215 .nil rn
end F215
namespace F211
abbrev R_:=(Int×LX×LX×Int)
noncomputable def H:Hd:=⟨[.agg [Si, .lf (.vec 16 (.int .i32)) none, .lf (.vec 16 (.int .i32)) none],Sx],[.agg [Si, .lf (.vec 16 (.int .i32)) none, .lf (.vec 16 (.int .i32)) none],Si],(.seq .d (.seq .d (.seq .d (.cut [2,4] [] (.seq .d (.blk (.loop [1,2,4,19,20] [] .d))) .d)))),⟨[(210,F210.c),(215,F215.c)],gl,false⟩,[],f211⟩
def t4(h:Int32)(f:LX)(g a:Int)(b:LX):S:=⟨[(1,vx h),(2, .ptr 0 []),(4, .ptr 1 []),(19, .val (.vec 16 (.int .i32)) f),(20,vi a)],[.box 222 (.agg [vi g, .val (.vec 16 (.int .i32)) b, .val (.vec 16 (.int .i32)) f]), .box 222 (.agg [vi 0, .val (.vec 16 (.int .i32)) (List.replicate 16 (0:Int32)), .val (.vec 16 (.int .i32)) (List.replicate 16 (0:Int32))])],[]⟩
def z4:Nat->S->Option R_:=H.i P_ [r,r,r,l,r,d]
def x6(g:Int)(b f:LX):Option R_:=H.e P_ [r,r,r,r] ⟨[(2, .ptr 0 []),(4, .ptr 1 [])],[.box 222 (.agg [vi g, .val (.vec 16 (.int .i32)) b, .val (.vec 16 (.int .i32)) f]), .box 222 (.agg [vi 0, .val (.vec 16 (.int .i32)) (List.replicate 16 (0:Int32)), .val (.vec 16 (.int .i32)) (List.replicate 16 (0:Int32))])],[]⟩
def x4(h:Int32)(f:LX)(g a:Int)(b:LX):Option R_:=H.e P_ [r,r,r,l,r,d] (t4 h f g a b)
theorem e6:x6=pZ:=by kernel_rfl
theorem i4(h:Int32)(f:LX)(g:Int):∀(q:Nat) (a:Int) (b:LX),z4 q (t4 h f g a b)=Xl h f g q a b:=
 ind (λ_ _=>by kernel_rfl) λq ih a b=>Eq.trans (b:=OP x6 (λa b=>(z4 q) (t4 h f g a b)) h f g a b) (by kernel_rfl) (by simp only[e6,ih]<;>rfl)
theorem e4:x4=qB:=by funext h f g a b;exact Eq.trans (by kernel_rfl) ((i4 h f g Ed a b).trans (by rw[Bg];rfl))
def F:=u4 iH
theorem rn x:H.u P_ x=F x:=Eq.trans (b:=u4 (aY x4) x) (by kernel_rfl) (by simp only[e4]<;>rfl)
def c:Con:=⟨H.p,H.r,F⟩
theorem ok:ConOk P_ gl 211 c:=co H func211 (.cons F210.ok (.cons F215.ok .nil)) rn
end F211
namespace F212
def aN(j2:Int32->Int->LX->LX->Option (Int×LX×LX×Int))(b:Int)(f a:LX)(g:Int32):Option (Int×LX×LX×Int):=
(NJ b f a).bind λh=>
if(Bi h 0)then
some (0,(List.replicate 16 (0:Int32)),(List.replicate 16 (0:Int32)),h)
else
both (
(jH 16 1 16).bind λ_=>
(jH 16 0 16).bind λ_=>
j2 g b f a) [
(jH 16 0 16).bind λ_=>
(jH 16 1 16).bind λ_=>
j2 g b f a]
theorem xC: @aN= @UA:=by
  unfold aN UA
  repeat (refine funext λ_=>?_)
  repeat' first
    |with_reducible rfl
    |with_reducible refine Nb ?_ ?_
    |with_reducible refine Nh ?_ ?_ ?_
    |with_reducible refine Mz ?_ ?_ ?_ ?_
    |((with_reducible refine Rr ?_ ?_);focus (intro h;first|(subst h;rfl)|(simp only[h];rfl)|(simp[Dy,Ac,h];done)))
    |with_reducible refine Rt λx=>?_
    |with_reducible refine AP (λ_=>?_) (λ_=>?_)
    |(refine Hc (λh=>by simp only[h,Rv,Em,Eb,ite_self]) (λx h=>?_);(try simp only[h,Em]))
    |(refine Jf (λh=>?_) (λh=>?_)<;>simp only[h,if_true,if_false,Bool.false_eq_true])
abbrev R_:=(Int×LX×LX×Int)
noncomputable def H:Hd:=⟨[.agg [Si, .lf (.vec 16 (.int .i32)) none, .lf (.vec 16 (.int .i32)) none],Sx],[.agg [Si, .lf (.vec 16 (.int .i32)) none, .lf (.vec 16 (.int .i32)) none],Si],(.seq .d (.seq .d (.cut [1,2,4] [] .d .d))),⟨[(210,F210.c)],gl,false⟩,[],f212⟩
def x2(g:Int32)(b:Int)(f a:LX):Option R_:=H.e P_ [r,r,r] ⟨[(1,vx g),(2, .ptr 0 []),(4, .ptr 1 [])],[.box 222 (.agg [vi b, .val (.vec 16 (.int .i32)) f, .val (.vec 16 (.int .i32)) (Xn a (1:Int) ((16:Int)-(1:Int)) (YQ a (0:Int) ((16:Int)-(0:Int))))]), .box 222 (.agg [vi 0, .val (.vec 16 (.int .i32)) (List.replicate 16 (0:Int32)), .val (.vec 16 (.int .i32)) (List.replicate 16 (0:Int32))])],[]⟩
theorem e2:x2=hU:=by kernel_rfl
def F:=u4 pG
theorem rn x:H.u P_ x=F x:=Eq.trans (b:=u4 (aN x2) x) (by kernel_rfl) (by unfold F;rw[xC];simp only[e2]<;>rfl)
def c:Con:=⟨H.p,H.r,F⟩
theorem ok:ConOk P_ gl 212 c:=co H func212 (.cons F210.ok .nil) rn
end F212
namespace F207
noncomputable def H:Hd:=⟨[.agg [Si, .lf (.vec 16 (.int .i32)) none, .lf (.vec 16 (.int .i32)) none],Sx,Sx],[.agg [Si, .lf (.vec 16 (.int .i32)) none, .lf (.vec 16 (.int .i32)) none]], .d,⟨[(211,F211.c),(212,F212.c)],gl,false⟩,[],f207⟩
def F:=u5 YO
theorem rn x:H.u P_ x=F x:=by kernel_rfl
def c:Con:=⟨H.p,H.r,F⟩
theorem ok:ConOk P_ gl 207 c:=co H func207 (.cons F211.ok (.cons F212.ok .nil)) rn
end F207
namespace F189
noncomputable def H:Hd:=⟨[.agg [Si, .lf (.vec 16 (.int .i32)) none, .lf (.vec 16 (.int .i32)) none],Sx],[Sx, .agg [Si, .lf (.vec 16 (.int .i32)) none, .lf (.vec 16 (.int .i32)) none],Si], .d,⟨[(206,F206.c),(207,F207.c)],gl,false⟩,[],f189⟩
def F:=u4 ZT
theorem rn x:H.u P_ x=F x:=by kernel_rfl
def c:Con:=⟨H.p,H.r,F⟩
theorem ok:ConOk P_ gl 189 c:=co H func189 (.cons F206.ok (.cons F207.ok .nil)) rn
end F189
namespace F158
def HA(a:Int)(b:Int32)(f:Int)(g h:LX)(k:Int32):Option (Int32×Int×Int32×Int×LX×LX×Int):=
(Zw a b f g h).bind λm=>
if(Bi m 0)then
some (0,0,0,0,(List.replicate 16 (0:Int32)),(List.replicate 16 (0:Int32)),m)
else
(Zv a b).bind λ(n,y)=>
(ZT f g h (Am k n)).bind λ(o,p,u,v,w)=>
bo (
some (o,a,k,p,u,v,w))
theorem kQ: @HA= @Xj:=by
  unfold HA Xj;simp only[WX,DX,DY]
noncomputable def H:Hd:=⟨[.agg [Si,Sx, .agg [Si, .lf (.vec 16 (.int .i32)) none, .lf (.vec 16 (.int .i32)) none]],Sx],[Sx, .agg [Si,Sx, .agg [Si, .lf (.vec 16 (.int .i32)) none, .lf (.vec 16 (.int .i32)) none]],Si],(.seq .d (.seq .d (.seq .d (.seq .d (.seq (.mode false) .d))))),⟨[(187,F187.c),(188,F188.c),(189,F189.c)],gl,false⟩,[],f158⟩
def F:=u6 Xj
theorem rn x:H.u P_ x=F x:=Eq.trans (b:=u6 HA x) (by kernel_rfl) (by rw[kQ];rfl)
def c:Con:=⟨H.p,H.r,F⟩
theorem ok:ConOk P_ gl 158 c:=co H func158 (.cons F187.ok (.cons F188.ok (.cons F189.ok .nil))) rn
end F158
namespace F159
noncomputable def H:Hd:=⟨[Sx],[Su], .d,⟨[],gl,false⟩,[],f159⟩
def F:=pC
theorem rn x:H.u P_ x=F x:=by kernel_rfl
def c:Con:=⟨H.p,H.r,F⟩
theorem ok:ConOk P_ gl 159 c:=co H func159 .nil rn
end F159
namespace F125
abbrev R_:=(LU×Int)
noncomputable def H:Hd:=⟨[.agg [Si,Si], .lf (.vec 16 (.int .i32)) none,Sw],[Ov 60,Si],(.seq .d (.seq .d (.seq .d (.seq .d (.seq .d (.cut [3,9,11] [] (.seq .d (.blk (.loop [3,4,9,11,36] [] .d))) (.seq .d (.cut [13] [] (.seq .d (.blk (.loop [3,11,13,49,50,51] [⟨13,[], .own 60 (.int .u32)⟩] .d))) .d)))))))),⟨[(155,F155.c),(156,F156.c),(157,F157.c),(158,F158.c),(159,F159.c)],gl,false⟩,[],f125⟩
def t10(b:LX)(a f g:Int)(o:List (Int×Int32×(Int×LX×LX×Unit)×Unit))(k:LU):S:=⟨[(3, .ptr 0 []),(11, .ptr 1 []),(13, .own 2),(49, .own 3),(50,vi (Ac b)),(51,vi g)],[.box 74 (.agg [vi a,vi f]), .box 225 (.val (.vec 6 (.cons (.int .i64) (.cons (.int .i32) (.cons (.cons (.int .i64) (.cons (.vec 16 (.int .i32)) (.cons (.vec 16 (.int .i32)) .nil))) .nil)))) o),Av 60 k,Aw 21 b],[]⟩
def z10:Nat->S->Option R_:=H.i P_ [r,r,r,r,r,r,r,l,r,d]
def t7(a f:Int)(m b:LX)(n:Int)(h:List (Int×Int32×(Int×LX×LX×Unit)×Unit)):S:=⟨[(3, .ptr 0 []),(4, .ptr 1 []),(9, .own 2),(11, .ptr 3 []),(36,vi n)],[.box 74 (.agg [vi a,vi f]), .box 136 (.val (.vec 16 (.int .i32)) m),Aw 21 b, .box 225 (.val (.vec 6 (.cons (.int .i64) (.cons (.int .i32) (.cons (.cons (.int .i64) (.cons (.vec 16 (.int .i32)) (.cons (.vec 16 (.int .i32)) .nil))) .nil)))) h)],[]⟩
def z7:Nat->S->Option R_:=H.i P_ [r,r,r,r,r,l,r,d]
def x12(k:LU):Option R_:=H.e P_ [r,r,r,r,r,r,r,r] ⟨[(13, .own 0)],[Av 60 k],[]⟩
def x10(b:LX)(a f g:Int)(o:List (Int×Int32×(Int×LX×LX×Unit)×Unit))(k:LU):Option R_:=H.e P_ [r,r,r,r,r,r,r,l,r,d] (t10 b a f g o k)
def x9(a f:Int)(b:LX)(h:List (Int×Int32×(Int×LX×LX×Unit)×Unit)):Option R_:=H.e P_ [r,r,r,r,r,r] ⟨[(3, .ptr 0 []),(9, .own 1),(11, .ptr 2 [])],[.box 74 (.agg [vi a,vi f]),Aw 21 b, .box 225 (.val (.vec 6 (.cons (.int .i64) (.cons (.int .i32) (.cons (.cons (.int .i64) (.cons (.vec 16 (.int .i32)) (.cons (.vec 16 (.int .i32)) .nil))) .nil)))) h)],[]⟩
def x7(a f:Int)(m b:LX)(n:Int)(h:List (Int×Int32×(Int×LX×LX×Unit)×Unit)):Option R_:=H.e P_ [r,r,r,r,r,l,r,d] (t7 a f m b n h)
theorem e12:x12=UQ:=by kernel_rfl
theorem i10(b:LX)(a f:Int):∀(q:Nat) (g:Int) (o:List (Int×Int32×(Int×LX×LX×Unit)×Unit)) (k:LU),z10 q (t10 b a f g o k)=Mc b a f q g o k:=
 ind (λ_ _ _=>by kernel_rfl) λq ih g o k=>Eq.trans (b:=Wm x12 (λg o k=>(z10 q) (t10 b a f g o k)) b a f g o k) (by kernel_rfl) (by simp only[e12,ih]<;>rfl)
theorem e10:x10=XP:=by funext b a f g o k;exact Eq.trans (by kernel_rfl) ((i10 b a f Ed g o k).trans (by rw[Bg];rfl))
theorem e9:x9=KO:=Eq.trans (b:=ZW x10) (by kernel_rfl) (by simp only[e10]<;>rfl)
theorem i7(a f:Int)(m b:LX):∀(q:Nat) (n:Int) (h:List (Int×Int32×(Int×LX×LX×Unit)×Unit)),z7 q (t7 a f m b n h)=KA a f m b q n h:=
 ind (λ_ _=>by kernel_rfl) λq ih n h=>Eq.trans (b:=ZC x9 (λn h=>(z7 q) (t7 a f m b n h)) a f m b n h) (by kernel_rfl) (by simp only[e9,ih]<;>rfl)
theorem e7:x7=Yo:=by funext a f m b n h;exact Eq.trans (by kernel_rfl) ((i7 a f m b Ed n h).trans (by rw[Bg];rfl))
def F:=u4 JH
theorem rn x:H.u P_ x=F x:=Eq.trans (b:=u4 (JQ x7) x) (by kernel_rfl) (by simp only[e7]<;>rfl)
def c:Con:=⟨H.p,H.r,F⟩
theorem ok:ConOk P_ gl 125 c:=co H func125 (.cons F155.ok (.cons F156.ok (.cons F157.ok (.cons F158.ok (.cons F159.ok .nil))))) rn
end F125
namespace F160
noncomputable def H:Hd:=⟨[],[.agg [Si,Si,Sq,Sq]], .d,⟨[],gl,false⟩,[],f160⟩
noncomputable def F(x:Unit):=sO
theorem rn x:H.u P_ x=F x:=by kernel_rfl
def c:Con:=⟨H.p,H.r,F⟩
theorem ok:ConOk P_ gl 160 c:=co H func160 .nil rn
end F160
namespace F126
abbrev R_:=((List (Int×Int×UInt64×UInt64×Unit)))
noncomputable def H:Hd:=⟨[],[.lf (.vec 6 (.cons (.int .i64) (.cons (.int .i64) (.cons (.int .u64) (.cons (.int .u64) .nil))))) none],(.seq .d (.seq .d (.cut [0,1] [] (.seq .d (.blk (.loop [0,1,3] [] .d))) .d))),⟨[(160,F160.c)],gl,false⟩,[],f126⟩
def t4(b:Int)(a:List (Int×Int×UInt64×UInt64×Unit)):S:=⟨[(0, .ptr 0 []),(1, .ptr 1 []),(3,vi b)],[.box 185 (.val (.vec 6 (.cons (.int .i64) (.cons (.int .i64) (.cons (.int .u64) (.cons (.int .u64) .nil))))) (List.replicate 6 ((0:Int),(0:Int),(0:UInt64),(0:UInt64),()))), .box 185 (.val (.vec 6 (.cons (.int .i64) (.cons (.int .i64) (.cons (.int .u64) (.cons (.int .u64) .nil))))) a)],[]⟩
def z4:Nat->S->Option R_:=H.i P_ [r,r,l,r,d]
def x6(a:List (Int×Int×UInt64×UInt64×Unit)):Option R_:=H.e P_ [r,r,r] ⟨[(0, .ptr 0 []),(1, .ptr 1 [])],[.box 185 (.val (.vec 6 (.cons (.int .i64) (.cons (.int .i64) (.cons (.int .u64) (.cons (.int .u64) .nil))))) (List.replicate 6 ((0:Int),(0:Int),(0:UInt64),(0:UInt64),()))), .box 185 (.val (.vec 6 (.cons (.int .i64) (.cons (.int .i64) (.cons (.int .u64) (.cons (.int .u64) .nil))))) a)],[]⟩
def x4(b:Int)(a:List (Int×Int×UInt64×UInt64×Unit)):Option R_:=H.e P_ [r,r,l,r,d] (t4 b a)
theorem e6:x6=aD:=by kernel_rfl
theorem i4:∀(q:Nat) (b:Int) (a:List (Int×Int×UInt64×UInt64×Unit)),z4 q (t4 b a)=GO q b a:=
 ind (λ_ _=>by kernel_rfl) λq ih b a=>Eq.trans (b:=ZV x6 (λb a=>(z4 q) (t4 b a)) b a) (by kernel_rfl) (by simp only[e6,ih]<;>rfl)
theorem e4:x4=HQ:=by funext b a;exact Eq.trans (by kernel_rfl) ((i4 Ed b a).trans (by rw[Bg];rfl))
noncomputable def F(x:Unit):=KE
theorem rn x:H.u P_ x=F x:=Eq.trans (b:=JR x4) (by kernel_rfl) (by simp only[e4]<;>rfl)
def c:Con:=⟨H.p,H.r,F⟩
theorem ok:ConOk P_ gl 126 c:=co H func126 (.cons F160.ok .nil) rn
end F126
namespace F161
noncomputable def H:Hd:=⟨[.agg [Sb,Si]],[Si], .d,⟨[],gl,false⟩,[],f161⟩
def F:=u2 Kg
theorem rn x:H.u P_ x=F x:=by kernel_rfl
def c:Con:=⟨H.p,H.r,F⟩
theorem ok:ConOk P_ gl 161 c:=co H func161 .nil rn
end F161
namespace F162
def WW(j4:Int->Int->UInt64->UInt64->Option Int)(a b:Int)(f g:UInt64):Option Int:=
both (
bo (
j4 a b f g)) [
j4 a b f g]
theorem tX: @WW= @OI:=by
  unfold WW OI
  repeat (refine funext λ_=>?_)
  repeat' first
    |with_reducible rfl
    |with_reducible refine Nb ?_ ?_
    |with_reducible refine Nh ?_ ?_ ?_
    |with_reducible refine Mz ?_ ?_ ?_ ?_
    |((with_reducible refine Rr ?_ ?_);focus (intro h;first|(subst h;rfl)|(simp only[h];rfl)|(simp[Dy,Ac,h];done)))
    |with_reducible refine Rt λx=>?_
    |with_reducible refine AP (λ_=>?_) (λ_=>?_)
    |(refine Hc (λh=>by simp only[h,Rv,Em,Eb,ite_self]) (λx h=>?_);(try simp only[h,Em]))
    |(refine Jf (λh=>?_) (λh=>?_)<;>simp only[h,if_true,if_false,Bool.false_eq_true])
def WM(j3:Int->Int->UInt64->UInt64->Option Int)(a b:Int)(f g:UInt64):Option Int:=
both (
bo (
j3 a b f g)) [
j3 a b f g]
theorem uI: @WM= @OL:=by
  unfold WM OL
  repeat (refine funext λ_=>?_)
  repeat' first
    |with_reducible rfl
    |with_reducible refine Nb ?_ ?_
    |with_reducible refine Nh ?_ ?_ ?_
    |with_reducible refine Mz ?_ ?_ ?_ ?_
    |((with_reducible refine Rr ?_ ?_);focus (intro h;first|(subst h;rfl)|(simp only[h];rfl)|(simp[Dy,Ac,h];done)))
    |with_reducible refine Rt λx=>?_
    |with_reducible refine AP (λ_=>?_) (λ_=>?_)
    |(refine Hc (λh=>by simp only[h,Rv,Em,Eb,ite_self]) (λx h=>?_);(try simp only[h,Em]))
    |(refine Jf (λh=>?_) (λh=>?_)<;>simp only[h,if_true,if_false,Bool.false_eq_true])
abbrev R_:=Int
noncomputable def H:Hd:=⟨[.agg [Si,Si,Sq,Sq]],[Si],(.seq .d (.seq .d (.cut [1,3] [] (.mode false) (.cut [1,3] [] (.mode false) .d)))),⟨[],gl,false⟩,[],f162⟩
def x4(a b:Int)(f g:UInt64):Option R_:=H.e P_ [r,r,r,r] ⟨[(1, .ptr 0 []),(3, .ptr 1 [])],[.box 184 (.agg [vi a,vi b,vq f,vq g]), .box 184 (.agg [vi (Fe (pP a (0:Int)) (24:Int)),vi (Fe (pP b (0:Int)) (24:Int)),vq (Fe f (68719476735:UInt64)),vq (Fe g (68719476735:UInt64))])],[]⟩
def x3(a b:Int)(f g:UInt64):Option R_:=H.e P_ [r,r,r] ⟨[(1, .ptr 0 []),(3, .ptr 1 [])],[.box 184 (.agg [vi a,vi b,vq f,vq g]), .box 184 (.agg [vi (Fe (pP a (0:Int)) (24:Int)),vi (Fe (pP b (0:Int)) (24:Int)),vq f,vq g])],[]⟩
theorem e4:x4=bL:=by kernel_rfl
theorem e3:x3=bC:=Eq.trans (b:=WW x4) (by kernel_rfl) (by rw[tX];simp only[e4]<;>rfl)
def F:=u4 VF
theorem rn x:H.u P_ x=F x:=Eq.trans (b:=u4 (WM x3) x) (by kernel_rfl) (by unfold F;rw[uI];simp only[e3]<;>rfl)
def c:Con:=⟨H.p,H.r,F⟩
theorem ok:ConOk P_ gl 162 c:=co H func162 .nil rn
end F162
namespace F163
noncomputable def H:Hd:=⟨[.agg [Si,Si,Sq,Sq],Su],[Si,Su], .d,⟨[],gl,false⟩,[],f163⟩
def F:=u5 NN
theorem rn x:H.u P_ x=F x:=by kernel_rfl
def c:Con:=⟨H.p,H.r,F⟩
theorem ok:ConOk P_ gl 163 c:=co H func163 .nil rn
end F163
namespace F173
def Ps(a:LB):Option (LB):=
Acg a (
some ([]:LB)) (
(Dy ([]:LB) a).bind λb=>
some b)
theorem PW: @Ps= @Fo:=by
  unfold Ps Fo
  repeat (refine funext λ_=>?_)
  repeat' first
    |with_reducible rfl
    |with_reducible refine Nb ?_ ?_
    |with_reducible refine Nh ?_ ?_ ?_
    |with_reducible refine Mz ?_ ?_ ?_ ?_
    |((with_reducible refine Rr ?_ ?_);focus (intro h;first|(subst h;rfl)|(simp only[h];rfl)|(simp[Dy,Ac,h];done)))
    |with_reducible refine Rt λx=>?_
    |with_reducible refine AP (λ_=>?_) (λ_=>?_)
    |(refine Hc (λh=>by simp only[h,Rv,Em,Eb,ite_self]) (λx h=>?_);(try simp only[h,Em]))
    |(refine Jf (λh=>?_) (λh=>?_)<;>simp only[h,if_true,if_false,Bool.false_eq_true])
noncomputable def H:Hd:=⟨[Sb],[Ob 5], .d,⟨[],gl,false⟩,[],f173⟩
def F:=Fo
theorem rn x:H.u P_ x=F x:=Eq.trans (b:=Ps x) (by kernel_rfl) (by rw[PW];rfl)
def c:Con:=⟨H.p,H.r,F⟩
theorem ok:ConOk P_ gl 173 c:=co H func173 .nil rn
end F173
namespace F190
noncomputable def H:Hd:=⟨[.agg [Sb,Si]],[.agg [Ob 5,Si]], .d,⟨[(173,F173.c)],gl,false⟩,[],f190⟩
def F:=u2 dC
theorem rn x:H.u P_ x=F x:=by kernel_rfl
def c:Con:=⟨H.p,H.r,F⟩
theorem ok:ConOk P_ gl 190 c:=co H func190 (.cons F173.ok .nil) rn
end F190
namespace F164
abbrev R_:=(LB×Int×Int)
abbrev K_:=S->Option R_
noncomputable def H:Hd:=⟨[.agg [Sb,Si],Sq,Si],[.agg [Ob 5,Si],Si],(.seq .d (.seq .d (.seq .d (.cut [3,6] [] (.keep [1,2,3,6,40,41] true) .d)))),⟨[(161,F161.c),(190,F190.c)],gl,false⟩,[(191,(.blk (.loop [0,1,2] [] (.seq .d (.blk (.cut [0,1,2] [] .d (.seq .d (.cut [0,1,2,7] [] .d .d))))))))],f164⟩
def t15(b:UInt64)(a:Int)(m:UInt64)(h f:Int)(o:LB):S:=⟨[(0, .ptr 0 []),(1,vq m),(2,vi h)],[.box 188 (.agg [.own 2,vi f]), .box 188 (.agg [.nils,vi 0]),Ab 5 o],[[(1,vq b),(2,vi a),(3, .ptr 0 []),(6, .ptr 1 []),(40,vq b),(41,vi a)]]⟩
def z15:Nat->S->Option R_:=H.i P_ [r,r,r,l,(call 2 191),d]
def t22(b:UInt64)(a:Int)(n:UInt64)(k g:Int)(p:LB):S:=⟨[(0, .ptr 0 []),(1,vq n),(2,vi k)],[.box 188 (.agg [.own 2,vi g]), .box 188 (.agg [.nils,vi 0]),Ab 5 p],[[(1,vq b),(2,vi a),(3, .ptr 0 []),(6, .ptr 1 []),(40,vq b),(41,vi a)]]⟩
def z22:Nat->S->Option R_:=H.i P_ [r,r,r,l,(call 2 191),d]
def x21(f:Int)(o:LB):Option R_:=H.e P_ [r,r,r,r] ⟨[(3, .ptr 0 []),(6, .ptr 1 [])],[.box 188 (.agg [.own 2,vi f]), .box 188 (.agg [.nils,vi 0]),Ab 5 o],[]⟩
def x19(Afm:K_)(b:UInt64)(a:Int)(m:UInt64)(h f:Int)(w:LB):Option R_:=H.e P_ [r,r,r,l,(call 2 191),d,(lp Afm),r,d,r,r,r] ⟨[(0, .ptr 0 []),(1,vq m),(2,vi h),(7,vi (Fe h (Am (8:Int) (Ev f (7:Int)))))],[.box 188 (.agg [.own 2,vi f]), .box 188 (.agg [.nils,vi 0]),Ab 5 w],[[(1,vq b),(2,vi a),(3, .ptr 0 []),(6, .ptr 1 []),(40,vq b),(41,vi a)]]⟩
def x18(Afm:K_)(b:UInt64)(a:Int)(m:UInt64)(h f:Int)(u:LB):Option R_:=H.e P_ [r,r,r,l,(call 2 191),d,(lp Afm),r,d,r] ⟨[(0, .ptr 0 []),(1,vq m),(2,vi h)],[.box 188 (.agg [.own 2,vi f]), .box 188 (.agg [.nils,vi 0]),Ab 5 u],[[(1,vq b),(2,vi a),(3, .ptr 0 []),(6, .ptr 1 []),(40,vq b),(41,vi a)]]⟩
def x15(b:UInt64)(a:Int)(m:UInt64)(h f:Int)(o:LB):Option R_:=H.e P_ [r,r,r,l,(call 2 191),d] (t15 b a m h f o)
def x28(g:Int)(p:LB):Option R_:=H.e P_ [r,r,r,r] ⟨[(3, .ptr 0 []),(6, .ptr 1 [])],[.box 188 (.agg [.own 2,vi g]), .box 188 (.agg [.nils,vi 0]),Ab 5 p],[]⟩
def x26(Afn:K_)(b:UInt64)(a:Int)(n:UInt64)(k g:Int)(y:LB):Option R_:=H.e P_ [r,r,r,l,(call 2 191),d,(lp Afn),r,d,r,r,r] ⟨[(0, .ptr 0 []),(1,vq n),(2,vi k),(7,vi (Fe k (Am (8:Int) (Ev g (7:Int)))))],[.box 188 (.agg [.own 2,vi g]), .box 188 (.agg [.nils,vi 0]),Ab 5 y],[[(1,vq b),(2,vi a),(3, .ptr 0 []),(6, .ptr 1 []),(40,vq b),(41,vi a)]]⟩
def x25(Afn:K_)(b:UInt64)(a:Int)(n:UInt64)(k g:Int)(v:LB):Option R_:=H.e P_ [r,r,r,l,(call 2 191),d,(lp Afn),r,d,r] ⟨[(0, .ptr 0 []),(1,vq n),(2,vi k)],[.box 188 (.agg [.own 2,vi g]), .box 188 (.agg [.nils,vi 0]),Ab 5 v],[[(1,vq b),(2,vi a),(3, .ptr 0 []),(6, .ptr 1 []),(40,vq b),(41,vi a)]]⟩
def x22(b:UInt64)(a:Int)(n:UInt64)(k g:Int)(p:LB):Option R_:=H.e P_ [r,r,r,l,(call 2 191),d] (t22 b a n k g p)
theorem e21:x21=fZ:=by kernel_rfl
theorem e19(Afm:K_)(b:UInt64)(a:Int):x19 Afm b a=gL (λm h f o=>Afm (t15 b a m h f o)) b a:=by kernel_rfl
theorem e18(Afm:K_)(b:UInt64)(a:Int):x18 Afm b a=TP (λm h f o=>Afm (t15 b a m h f o)) b a:=Eq.trans (b:=gS (x19 Afm b a) b a) (by kernel_rfl) (by simp only[e19]<;>rfl)
theorem i15(b:UInt64)(a:Int):∀(q:Nat) (m:UInt64) (h f:Int) (o:LB),z15 q (t15 b a m h f o)=Ry b a q m h f o:=
 ind (λ_ _ _ _=>by kernel_rfl) λq ih m h f o=>Eq.trans (b:=TX (x18 (z15 q) b a) x21 b a m h f o) (by kernel_rfl) (by simp only[e18,e21,ih]<;>rfl)
theorem e15:x15=uJ:=by funext b a m h f o;exact Eq.trans (by kernel_rfl) ((i15 b a Ed m h f o).trans (by rw[Bg];rfl))
theorem e28:x28=tV:=by kernel_rfl
theorem e26(Afn:K_)(b:UInt64)(a:Int):x26 Afn b a=tR (λn k g p=>Afn (t22 b a n k g p)) b a:=by kernel_rfl
theorem e25(Afn:K_)(b:UInt64)(a:Int):x25 Afn b a=tK (λn k g p=>Afn (t22 b a n k g p)) b a:=Eq.trans (b:=vC (x26 Afn b a) b a) (by kernel_rfl) (by simp only[e26]<;>rfl)
theorem i22(b:UInt64)(a:Int):∀(q:Nat) (n:UInt64) (k g:Int) (p:LB),z22 q (t22 b a n k g p)=eS b a q n k g p:=
 ind (λ_ _ _ _=>by kernel_rfl) λq ih n k g p=>Eq.trans (b:=uM (x25 (z22 q) b a) x28 b a n k g p) (by kernel_rfl) (by simp only[e25,e28,ih]<;>rfl)
theorem e22:x22=uN:=by funext b a n k g p;exact Eq.trans (by kernel_rfl) ((i22 b a Ed n k g p).trans (by rw[Bg];rfl))
def F:=u4 XM
theorem rn x:H.u P_ x=F x:=Eq.trans (b:=u4 (lB x15 x22) x) (by kernel_rfl) (by simp only[e15,e22]<;>rfl)
def c:Con:=⟨H.p,H.r,F⟩
theorem ok:ConOk P_ gl 164 c:=cr H func164 (.cons F161.ok (.cons F190.ok .nil)) (Ft.cons ent191 Ft.nil) rn
end F164
namespace F192
noncomputable def H:Hd:=⟨[Su,Si],[Sz], .d,⟨[],gl,false⟩,[],f192⟩
def F:=u2 BE
theorem rn x:H.u P_ x=F x:=by kernel_rfl
def c:Con:=⟨H.p,H.r,F⟩
theorem ok:ConOk P_ gl 192 c:=co H func192 .nil rn
end F192
namespace F208
noncomputable def H:Hd:=⟨[Si],[Si,Si], .d,⟨[],gl,false⟩,[],f208⟩
def F:=fR
theorem rn x:H.u P_ x=F x:=by kernel_rfl
def c:Con:=⟨H.p,H.r,F⟩
theorem ok:ConOk P_ gl 208 c:=co H func208 .nil rn
end F208
namespace F193
noncomputable def H:Hd:=⟨[.agg [Sb,Si],Si],[.agg [Ob 5,Si],Si], .d,⟨[(161,F161.c),(164,F164.c),(208,F208.c)],gl,false⟩,[],f193⟩
def F:=u3 ZI
theorem rn x:H.u P_ x=F x:=by kernel_rfl
def c:Con:=⟨H.p,H.r,F⟩
theorem ok:ConOk P_ gl 193 c:=co H func193 (.cons F161.ok (.cons F164.ok (.cons F208.ok .nil))) rn
end F193
namespace F165
abbrev R_:=(LB×Int×Int)
noncomputable def H:Hd:=⟨[.agg [Sb,Si],Su,Si],[.agg [Ob 5,Si],Si],(.seq .d (.seq .d (.seq .d (.seq .d (.cut [3,6,9,10,11] [] .d .d))))),⟨[(161,F161.c),(164,F164.c),(192,F192.c),(193,F193.c)],gl,false⟩,[],f165⟩
def x2(b:LB)(f h:Int)(k:UInt32)(m:Int):Option R_:=H.e P_ [r,r,r,r,r] ⟨[(3, .ptr 0 []),(6, .ptr 1 []),(9,vi h),(10,vu k),(11,vi m)],[.box 188 (.agg [vb b,vi f]), .box 188 (.agg [.nils,vi 0])],[]⟩
theorem e2:x2=OM:=by kernel_rfl
def F:=u4 iA
theorem rn x:H.u P_ x=F x:=Eq.trans (b:=u4 (bA x2) x) (by kernel_rfl) (by simp only[e2]<;>rfl)
def c:Con:=⟨H.p,H.r,F⟩
theorem ok:ConOk P_ gl 165 c:=co H func165 (.cons F161.ok (.cons F164.ok (.cons F192.ok (.cons F193.ok .nil)))) rn
end F165
namespace F127
def SN(k u n:Int)(a:UInt64)(b:UInt32)(o:UInt64)(m:LB):Option (LB×Int×Int×Int×UInt64×UInt64×Int):=
(λaf:Option (LB×Int×Int×Int×UInt64×UInt64×Int)=>
both (
bo (
af)) [
af]) (
some (m,k,u,n,(Ad a (Am (Af b:UInt64) (Ck a (GI.toZ (4:UInt64)).toNat))),o,0))
theorem sF: @SN= @HE:=by
  unfold SN HE
  try simp only[WX,DX,DY]
  all_goals
    repeat (refine funext λ_=>?_)
    repeat' first
      |with_reducible rfl
      |with_reducible refine Nb ?_ ?_
      |with_reducible refine Nh ?_ ?_ ?_
      |with_reducible refine Mz ?_ ?_ ?_ ?_
      |((with_reducible refine Rr ?_ ?_);focus (intro h;first|(subst h;rfl)|(simp only[h];rfl)|(simp[Dy,Ac,h];done)))
      |with_reducible refine Rt λx=>?_
      |with_reducible refine AP (λ_=>?_) (λ_=>?_)
      |(refine Hc (λh=>by simp only[h,Rv,Em,Eb,ite_self]) (λx h=>?_);(try simp only[h,Em]))
      |(refine Jf (λh=>?_) (λh=>?_)<;>simp only[h,if_true,if_false,Bool.false_eq_true])
abbrev R_:=(LB×Int×Int×Int×UInt64×UInt64×Int)
noncomputable def H:Hd:=⟨[.agg [Sb,Si], .agg [Si,Si,Sq,Sq],Su],[.agg [Ob 5,Si], .agg [Si,Si,Sq,Sq],Si],(.seq .d (.cut [2,3,4,6,7] [] .d (.seq .d (.seq .d (.cut [2,3,4,6,7,11] [] .d (.seq .d (.cut [3,4,6,7] [] (.keep [2,3,4,6,7,65] true) (.seq (.mode false) .d)))))))),⟨[(161,F161.c),(162,F162.c),(163,F163.c),(164,F164.c),(165,F165.c)],gl,false⟩,[(166,(.seq .d (.seq .d (.seq .d (.blk (.cut [0,1,4] [] (.blk (.seq .d (.keep [0,1,4,6,18,19,20,21,22,23,24,25] true))) (.cut [] [] (.keep [0,1,4,27,28,29,30,31,32,33,34] true) .d))))))),(194, .d)],f127⟩
def x10(k u n:Int)(a:UInt64)(b:UInt32)(o:UInt64)(m:LB):Option R_:=H.e P_ [r,r,r,r,r,r,r] ⟨[(3, .ptr 0 []),(4, .ptr 1 []),(6, .ptr 2 []),(7, .ptr 3 [])],[.box 188 (.agg [.own 4,vi k]), .box 184 (.agg [vi u,vi n,vq (Ad a (Am (Af b:UInt64) (Ck a (GI.toZ (4:UInt64)).toNat))),vq o]), .box 188 (.agg [.nils,vi 0]), .box 184 (.agg [vi 0,vi 0,vq 0,vq 0]),Ab 5 m],[]⟩
def x9(b:UInt32)(k n:Int)(a o:UInt64)(m:LB)(u:Int):Option R_:=H.e P_ [r,r,r,r,r,r,l,(call 1 166),r,r,r,d,r,r] ⟨[],[.box 188 (.agg [.own 4,vi k]), .box 184 (.agg [vi u,vi n,vq (Ad a (Am (Af b:UInt64) (Ck a (GI.toZ (4:UInt64)).toNat))),vq o]), .box 188 (.agg [.nils,vi 0]), .box 184 (.agg [vi 0,vi 0,vq 0,vq 0]),Ab 5 m],[[(2,vu b),(3, .ptr 0 []),(4, .ptr 1 []),(6, .ptr 2 []),(7, .ptr 3 []),(65,vu b)]]⟩
def x8(b:UInt32)(f:Int)(a:UInt64)(k:Int)(m:LB)(n:Int)(o:UInt64):Option R_:=H.e P_ [r,r,r,r,r,r,l,(call 1 166),r,r,r,d,r] ⟨[(0, .ptr 0 []),(1,vu b),(4, .fn 194 [])],[.box 184 (.agg [vi f,vi n,vq a,vq o]), .box 188 (.agg [.own 4,vi k]), .box 188 (.agg [.nils,vi 0]), .box 184 (.agg [vi 0,vi 0,vq 0,vq 0]),Ab 5 m],[[(2,vu b),(3, .ptr 1 []),(4, .ptr 0 []),(6, .ptr 2 []),(7, .ptr 3 []),(65,vu b)]]⟩
def x7(b:UInt32)(f h:Int)(a g:UInt64)(y k:Int)(m:LB):Option R_:=H.e P_ [r,r,r,r,r] ⟨[(2,vu b),(3, .ptr 0 []),(4, .ptr 1 []),(6, .ptr 2 []),(7, .ptr 3 []),(11,vi y)],[.box 188 (.agg [.own 4,vi k]), .box 184 (.agg [vi f,vi h,vq a,vq g]), .box 188 (.agg [.nils,vi 0]), .box 184 (.agg [vi 0,vi 0,vq 0,vq 0]),Ab 5 m],[]⟩
def x6(b:UInt32)(v:LB)(w f h:Int)(a g:UInt64):Option R_:=H.e P_ [r,r] ⟨[(2,vu b),(3, .ptr 0 []),(4, .ptr 1 []),(6, .ptr 2 []),(7, .ptr 3 [])],[.box 188 (.agg [vb v,vi w]), .box 184 (.agg [vi f,vi h,vq a,vq g]), .box 188 (.agg [.nils,vi 0]), .box 184 (.agg [vi 0,vi 0,vq 0,vq 0])],[]⟩
theorem e10:x10=WS:=Eq.trans (b:=SN) (by kernel_rfl) (by rw[sF];rfl)
theorem e9:x9=aX:=Eq.trans (b:=bI x10) (by kernel_rfl) (by simp only[e10]<;>rfl)
theorem e8:x8=CQ:=Eq.trans (b:=bP x9) (by kernel_rfl) (by simp only[e9]<;>rfl)
theorem e7:x7=OH:=Eq.trans (b:=bJ x8) (by kernel_rfl) (by simp only[e8]<;>rfl)
theorem e6:x6=aS:=Eq.trans (b:=bY x7) (by kernel_rfl) (by simp only[e7]<;>rfl)
def F:=u7 iG
theorem rn x:H.u P_ x=F x:=Eq.trans (b:=u7 (bV x6) x) (by kernel_rfl) (by simp only[e6]<;>rfl)
def c:Con:=⟨H.p,H.r,F⟩
theorem ok:ConOk P_ gl 127 c:=cr H func127 (.cons F161.ok (.cons F162.ok (.cons F163.ok (.cons F164.ok (.cons F165.ok .nil))))) (Ft.cons ent166 (Ft.cons ent194 Ft.nil)) rn
end F127
namespace F131
abbrev R_:=(UInt32×Int)
abbrev K_:=S->Option R_
noncomputable def H:Hd:=⟨[Su,Sb],[Su,Si],(.seq .d (.seq .d (.cut [0,1,6] [] (.keep [0,1,6,12] true) (.cut [0] [] (.seq .d (.blk (.loop [0,6,13,14,15] [] .d))) .d)))),⟨[],gl,false⟩,[(168,(.seq .d (.seq .d (.cut [1] [] (.seq .d (.blk (.loop [1,5] [] (.seq .d (.seq .d (.cut [1,5] [] (.blk (.seq .d (.seq .d (.cut [1,2,3,5] [] (.seq .d (.blk (.loop [1,2,3,5,10] [] .d))) .d)))) .d)))))) .d))))],f131⟩
def t28(a:LB)(b:LU)(h:UInt32)(m:Int):S:=⟨[(0,vu h),(6, .ptr 0 []),(13,vb a),(14,vi (Ac a)),(15,vi m)],[.box 276 (.val (.vec 256 (.int .u32)) b)],[]⟩
def z28:Nat->S->Option R_:=H.i P_ [r,r,r,l,r,d]
def t21(f:UInt32)(a:LB)(g:Int)(b:LU)(k:UInt32)(n:Int):S:=⟨[(1, .ptr 0 []),(2,vi g),(3,vu k),(5,vi g),(10,vi n)],[.box 276 (.val (.vec 256 (.int .u32)) b)],[[(0,vu f),(1,vb a)]]⟩
def z21(Fa:K_):Nat->S->Option R_:=H.i P_ [r,r,l,(call 0 168),r,r,l,r,d,(lp Fa),r,r,l,d,r,r,l,r,d]
def t16(f:UInt32)(a:LB)(g:Int)(b:LU):S:=⟨[(1, .ptr 0 []),(5,vi g)],[.box 276 (.val (.vec 256 (.int .u32)) b)],[[(0,vu f),(1,vb a)]]⟩
def z16:Nat->S->Option R_:=H.i P_ [r,r,l,(call 0 168),r,r,l,r,d]
def x30(h:UInt32):Option R_:=H.e P_ [r,r,r,r] ⟨[(0,vu h)],[],[]⟩
def x28(a:LB)(b:LU)(h:UInt32)(m:Int):Option R_:=H.e P_ [r,r,r,l,r,d] (t28 a b h m)
def x27(f:UInt32)(a:LB)(b:LU):Option R_:=H.e P_ [r,r,r] ⟨[(0,vu f),(1,vb a),(6, .ptr 0 [])],[.box 276 (.val (.vec 256 (.int .u32)) b)],[]⟩
def x26(f:UInt32)(a:LB)(b:LU):Option R_:=H.e P_ [r,r,l,(call 0 168),r,r,r] ⟨[(1, .ptr 0 [])],[.box 276 (.val (.vec 256 (.int .u32)) b)],[[(0,vu f),(1,vb a)]]⟩
def x24(Fa:K_)(f:UInt32)(a:LB)(g:Int)(o:LU):Option R_:=H.e P_ [r,r,l,(call 0 168),r,r,l,r,d,(lp Fa),r,r,r] ⟨[(1, .ptr 0 []),(5,vi g)],[.box 276 (.val (.vec 256 (.int .u32)) o)],[[(0,vu f),(1,vb a)]]⟩
def x23(Fa:K_)(f:UInt32)(a:LB)(g:Int)(k:UInt32)(b:LU):Option R_:=H.e P_ [r,r,l,(call 0 168),r,r,l,r,d,(lp Fa),r,r,l,d,r,r,r] ⟨[(1, .ptr 0 []),(2,vi g),(3,vu k),(5,vi g)],[.box 276 (.val (.vec 256 (.int .u32)) b)],[[(0,vu f),(1,vb a)]]⟩
def x21(Fa:K_)(f:UInt32)(a:LB)(g:Int)(b:LU)(k:UInt32)(n:Int):Option R_:=H.e P_ [r,r,l,(call 0 168),r,r,l,r,d,(lp Fa),r,r,l,d,r,r,l,r,d] (t21 f a g b k n)
def x16(f:UInt32)(a:LB)(g:Int)(b:LU):Option R_:=H.e P_ [r,r,l,(call 0 168),r,r,l,r,d] (t16 f a g b)
theorem e30:x30=XH:=by kernel_rfl
theorem i28(a:LB)(b:LU):∀(q:Nat) (h:UInt32) (m:Int),z28 q (t28 a b h m)=Vf a b q h m:=
 ind (λ_ _=>by kernel_rfl) λq ih h m=>Eq.trans (b:=KH x30 (λh m=>(z28 q) (t28 a b h m)) a b h m) (by kernel_rfl) (by simp only[e30,ih]<;>rfl)
theorem e28:x28=WB:=by funext a b h m;exact Eq.trans (by kernel_rfl) ((i28 a b Ed h m).trans (by rw[Bg];rfl))
theorem e27:x27=WK:=Eq.trans (b:=UY x28) (by kernel_rfl) (by simp only[e28]<;>rfl)
theorem e26:x26=JI:=Eq.trans (b:=WQ x27) (by kernel_rfl) (by simp only[e27]<;>rfl)
theorem e24(Fa:K_)(f:UInt32)(a:LB):x24 Fa f a=XG (λg b=>Fa (t16 f a g b)) f a:=by kernel_rfl
theorem e23(Fa:K_)(f:UInt32)(a:LB):x23 Fa f a=II (λg b=>Fa (t16 f a g b)) f a:=Eq.trans (b:=YN (x24 Fa f a) f a) (by kernel_rfl) (by simp only[e24]<;>rfl)
theorem i21(Fa:K_)(f:UInt32)(a:LB)(g:Int)(b:LU):∀(q:Nat) (k:UInt32) (n:Int),z21 Fa q (t21 f a g b k n)=Va (λg b=>Fa (t16 f a g b)) f a g b q k n:=
 ind (λ_ _=>by kernel_rfl) λq ih k n=>Eq.trans (b:=HY (x23 Fa f a) (λk n=>(z21 Fa q) (t21 f a g b k n)) f a g b k n) (by kernel_rfl) (by simp only[e23,ih]<;>rfl)
theorem e21(Fa:K_)(f:UInt32)(a:LB):x21 Fa f a=VK (λg b=>Fa (t16 f a g b)) f a:=by funext g b k n;exact Eq.trans (by kernel_rfl) ((i21 Fa f a g b Ed k n).trans (by rw[Bg];rfl))
theorem i16(f:UInt32)(a:LB):∀(q:Nat) (g:Int) (b:LU),z16 q (t16 f a g b)=Qe f a q g b:=
 ind (λ_ _=>by kernel_rfl) λq ih g b=>Eq.trans (b:=JZ (x21 (z16 q) f a) x26 f a g b) (by kernel_rfl) (by simp only[e21,e26,ih]<;>rfl)
theorem e16:x16=WC:=by funext f a g b;exact Eq.trans (by kernel_rfl) ((i16 f a Ed g b).trans (by rw[Bg];rfl))
def F:=u2 iO
theorem rn x:H.u P_ x=F x:=Eq.trans (b:=u2 (bZ x16) x) (by kernel_rfl) (by simp only[e16]<;>rfl)
def c:Con:=⟨H.p,H.r,F⟩
theorem ok:ConOk P_ gl 131 c:=cr H func131 .nil (Ft.cons ent168 Ft.nil) rn
end F131
namespace F91
noncomputable def H:Hd:=⟨[Sb],[Su,Si], .d,⟨[(131,F131.c)],gl,false⟩,[],f91⟩
def F:=AR
theorem rn x:H.u P_ x=F x:=by kernel_rfl
def c:Con:=⟨H.p,H.r,F⟩
theorem ok:ConOk P_ gl 91 c:=co H func91 (.cons F131.ok .nil) rn
end F91
namespace F130
noncomputable def H:Hd:=⟨[Sq,Si],[Sz], .d,⟨[],gl,false⟩,[],f130⟩
def F:=u2 Aan
theorem rn x:H.u P_ x=F x:=by kernel_rfl
def c:Con:=⟨H.p,H.r,F⟩
theorem ok:ConOk P_ gl 130 c:=co H func130 .nil rn
end F130
namespace F90
abbrev R_:=(LB×Int)
noncomputable def H:Hd:=⟨[Sq,Si],[Ob 5,Si],(.seq .d (.seq .d (.seq .d (.seq .d (.cut [6] [] (.seq .d (.blk (.loop [0,6,21,22] [] .d))) .d))))),⟨[(130,F130.c)],gl,false⟩,[],f90⟩
def t4(f:UInt64)(g:LB)(b:Int)(a:LB):S:=⟨[(0,vq f),(6, .own 0),(21,vi (Ac g)),(22,vi b)],[Ab 5 a],[]⟩
def z4:Nat->S->Option R_:=H.i P_ [r,r,r,r,l,r,d]
def x6(a:LB):Option R_:=H.e P_ [r,r,r,r,r] ⟨[(6, .own 0)],[Ab 5 a],[]⟩
def x4(f:UInt64)(g:LB)(b:Int)(a:LB):Option R_:=H.e P_ [r,r,r,r,l,r,d] (t4 f g b a)
theorem e6:x6=nA:=by kernel_rfl
theorem i4(f:UInt64)(g:LB):∀(q:Nat) (b:Int) (a:LB),z4 q (t4 f g b a)=FK f g q b a:=
 ind (λ_ _=>by kernel_rfl) λq ih b a=>Eq.trans (b:=aJ x6 (λb a=>(z4 q) (t4 f g b a)) f g b a) (by kernel_rfl) (by simp only[e6,ih]<;>rfl)
theorem e4:x4=lR:=by funext f g b a;exact Eq.trans (by kernel_rfl) ((i4 f g Ed b a).trans (by rw[Bg];rfl))
def F:=u2 CU
theorem rn x:H.u P_ x=F x:=Eq.trans (b:=u2 (nH x4) x) (by kernel_rfl) (by simp only[e4]<;>rfl)
def c:Con:=⟨H.p,H.r,F⟩
theorem ok:ConOk P_ gl 90 c:=co H func90 (.cons F130.ok .nil) rn
end F90
namespace F129
abbrev R_:=LB
noncomputable def H:Hd:=⟨[.lf (.list (.list (.int .u8))) none],[Ob 5],(.seq .d (.seq .d (.cut [0,3] [] (.seq .d (.blk (.loop [0,3,9,10,11] [] .d))) (.cut [0,6] [⟨6,[], .own 5 (.int .u8)⟩] (.keep [0,3,6,23,24] true) (.cut [6] [] (.seq .d (.blk (.loop [6,25,26,27] [] .d))) .d))))),⟨[],gl,true⟩,[(167,(.seq .d (.cut [0,1] [] .d .d)))],f129⟩
def t14(a:List LB)(g:Int)(f:LB):S:=⟨[(6, .own 0),(25, .val (.list (.list (.int .u8))) a),(26,vi (Ac a)),(27,vi g)],[Ab 5 f],[]⟩
def z14:Nat->S->Option R_:=H.i P_ [r,r,r,r,l,r,d]
def t9(a:List LB)(b h:Int):S:=⟨[(0, .val (.list (.list (.int .u8))) a),(3,vi b),(9, .val (.list (.list (.int .u8))) a),(10,vi (Ac a)),(11,vi h)],[],[]⟩
def z9:Nat->S->Option R_:=H.i P_ [r,r,l,r,d]
def x16(f:LB):Option R_:=H.e P_ [r,r,r,r,r] ⟨[(6, .own 0)],[Ab 5 f],[]⟩
def x14(a:List LB)(g:Int)(f:LB):Option R_:=H.e P_ [r,r,r,r,l,r,d] (t14 a g f)
def x13(a:List LB)(k:LB):Option R_:=H.e P_ [r,r,r,r] ⟨[(0, .val (.list (.list (.int .u8))) a),(6, .own 0)],[Ab 5 k],[]⟩
def x12(b:Int)(a:List LB):Option R_:=H.e P_ [r,r,r,l,(call 1 167),r,r] ⟨[(0, .nils),(1,vi b)],[],[[(0, .val (.list (.list (.int .u8))) a),(3,vi b),(23,vi b)]]⟩
def x11(a:List LB)(b:Int):Option R_:=H.e P_ [r,r,r] ⟨[(0, .val (.list (.list (.int .u8))) a),(3,vi b)],[],[]⟩
def x9(a:List LB)(b h:Int):Option R_:=H.e P_ [r,r,l,r,d] (t9 a b h)
theorem e16:x16=Yj:=by kernel_rfl
theorem i14(a:List LB):∀(q:Nat) (g:Int) (f:LB),z14 q (t14 a g f)=En a q g f:=
 ind (λ_ _=>by kernel_rfl) λq ih g f=>Eq.trans (b:=Gj x16 (λg f=>(z14 q) (t14 a g f)) a g f) (by kernel_rfl) (by simp only[e16,ih]<;>rfl)
theorem e14:x14=Ox:=by funext a g f;exact Eq.trans (by kernel_rfl) ((i14 a Ed g f).trans (by rw[Bg];rfl))
theorem e13:x13=Jn:=Eq.trans (b:=Oq x14) (by kernel_rfl) (by simp only[e14]<;>rfl)
theorem e12:x12=Oo:=Eq.trans (b:=Pc x13) (by kernel_rfl) (by simp only[e13]<;>rfl)
theorem e11:x11=Oy:=Eq.trans (b:=Oz x12) (by kernel_rfl) (by simp only[e12]<;>rfl)
theorem i9(a:List LB):∀(q:Nat) (b h:Int),z9 q (t9 a b h)=Ew a q b h:=
 ind (λ_ _=>by kernel_rfl) λq ih b h=>Eq.trans (b:=Gy x11 (λb h=>(z9 q) (t9 a b h)) a b h) (by kernel_rfl) (by simp only[e11,ih]<;>rfl)
theorem e9:x9=Pr:=by funext a b h;exact Eq.trans (by kernel_rfl) ((i9 a Ed b h).trans (by rw[Bg];rfl))
def F:=Nn
theorem rn x:H.u P_ x=F x:=Eq.trans (b:=Qa x9 x) (by kernel_rfl) (by simp only[e9]<;>rfl)
def c:Con:=⟨H.p,H.r,F⟩
theorem ok:ConOk P_ gl 129 c:=cr H func129 .nil (Ft.cons ent167 Ft.nil) rn
end F129
namespace F87
abbrev R_:=(LB×Int)
abbrev K_:=S->Option R_
noncomputable def H:Hd:=⟨[.agg [Si,Si], .lf (.vec 16 (.int .i32)) none,Sw],[Ob 5,Si],(.seq .d (.seq .d (.seq .d (.seq .d (.seq .d (.cut [11] [] (.seq .d (.blk (.loop [3,10,11,30,31,32] [⟨11,[0], .own 5 (.int .u8)⟩] (.seq .d (.seq .d (.cut [3,10,11,30,31,32] [] (.blk (.seq .d (.seq .d (.seq .d (.seq .d (.keep [3,10,11,14,30,31,32,59] true)))))) .d)))))) .d)))))),⟨[(90,F90.c),(91,F91.c),(125,F125.c),(126,F126.c),(127,F127.c),(129,F129.c)],gl,false⟩,[(128,(.seq .d (.seq .d (.blk (.loop [0,3,7,8] [] (.seq .d (.seq .d (.seq (.blk (.seq .d (.cut [0,3,4,7,8] [] .d (.seq .d (.cut [0,3,7,8] [] .d .d))))) .d))))))))],f87⟩
def t44(a:LU)(b f h g:Int)(k:List (Int×Int×UInt64×UInt64×Unit))(m:LB)(o n:Int)(v:LB):S:=⟨[(0, .ptr 0 []),(3, .ptr 1 []),(7,vi h),(8,vi o)],[.box 188 (.agg [.own 7,vi n]), .box 188 (.agg [.own 6,vi h]), .box 74 (.agg [vi b,vi f]), .box 185 (.val (.vec 6 (.cons (.int .i64) (.cons (.int .i64) (.cons (.int .u64) (.cons (.int .u64) .nil))))) k), .box 188 (.agg [.own 6,vi h]),Av 60 a,Ab 5 m,Ab 5 v],[[(3, .ptr 2 []),(10, .ptr 3 []),(11, .ptr 0 []),(14, .ptr 4 []),(30, .own 5),(31,vi (Ac a)),(32,vi g),(59, .agg [.own 6,vi h])]]⟩
def z44(Mr:K_):Nat->S->Option R_:=H.i P_ [r,r,r,r,r,l,r,d,(lp Mr),r,r,l,d,r,r,r,r,(call 1 128),r,r,d]
def t27(a:LU)(b f g:Int)(w:List (Int×Int×UInt64×UInt64×Unit))(u:Int)(p:LB):S:=⟨[(3, .ptr 0 []),(10, .ptr 1 []),(11, .ptr 2 []),(30, .own 3),(31,vi (Ac a)),(32,vi g)],[.box 74 (.agg [vi b,vi f]), .box 185 (.val (.vec 6 (.cons (.int .i64) (.cons (.int .i64) (.cons (.int .u64) (.cons (.int .u64) .nil))))) w), .box 188 (.agg [.own 4,vi u]),Av 60 a,Ab 5 p],[]⟩
def z27:Nat->S->Option R_:=H.i P_ [r,r,r,r,r,l,r,d]
def x52(u:Int)(p:LB):Option R_:=H.e P_ [r,r,r,r,r,r] ⟨[(11, .ptr 0 [])],[.box 188 (.agg [.own 1,vi u]),Ab 5 p],[]⟩
def x50(Mr:K_)(a:LU)(b f g:Int)(k:List (Int×Int×UInt64×UInt64×Unit))(n:Int)(v:LB):Option R_:=H.e P_ [r,r,r,r,r,l,r,d,(lp Mr),r,r,r] ⟨[(3, .ptr 0 []),(10, .ptr 1 []),(11, .ptr 2 []),(30, .own 3),(31,vi (Ac a)),(32,vi g)],[.box 74 (.agg [vi b,vi f]), .box 185 (.val (.vec 6 (.cons (.int .i64) (.cons (.int .i64) (.cons (.int .u64) (.cons (.int .u64) .nil))))) k), .box 188 (.agg [.own 4,vi n]),Av 60 a,Ab 5 v],[]⟩
def x48(Mr cE:K_)(h:Int)(a:LU)(g b f:Int)(k:List (Int×Int×UInt64×UInt64×Unit))(m:LB)(o n:Int)(aa:LB):Option R_:=H.e P_ [r,r,r,r,r,l,r,d,(lp Mr),r,r,l,d,r,r,r,r,(call 1 128),r,r,d,(lp cE),r,r,l,d,r,r,r,r] ⟨[(0, .ptr 0 []),(3, .ptr 1 []),(7,vi h),(8,vi o)],[.box 188 (.agg [.own 7,vi n]), .box 188 (.agg [.own 6,vi h]), .box 74 (.agg [vi b,vi f]), .box 185 (.val (.vec 6 (.cons (.int .i64) (.cons (.int .i64) (.cons (.int .u64) (.cons (.int .u64) .nil))))) k), .box 188 (.agg [.own 6,vi h]),Av 60 a,Ab 5 m,Ab 5 aa],[[(3, .ptr 2 []),(10, .ptr 3 []),(11, .ptr 0 []),(14, .ptr 4 []),(30, .own 5),(31,vi (Ac a)),(32,vi g),(59, .agg [.own 6,vi h])]]⟩
def x47(Mr cE:K_)(h:Int)(a:LU)(g b f:Int)(k:List (Int×Int×UInt64×UInt64×Unit))(m:LB)(o n:Int)(y:LB):Option R_:=H.e P_ [r,r,r,r,r,l,r,d,(lp Mr),r,r,l,d,r,r,r,r,(call 1 128),r,r,d,(lp cE),r,r,l,d,r,r] ⟨[(0, .ptr 0 []),(3, .ptr 1 []),(4,vi o),(7,vi h),(8,vi o)],[.box 188 (.agg [.own 7,vi n]), .box 188 (.agg [.own 6,vi h]), .box 74 (.agg [vi b,vi f]), .box 185 (.val (.vec 6 (.cons (.int .i64) (.cons (.int .i64) (.cons (.int .u64) (.cons (.int .u64) .nil))))) k), .box 188 (.agg [.own 6,vi h]),Av 60 a,Ab 5 m,Ab 5 y],[[(3, .ptr 2 []),(10, .ptr 3 []),(11, .ptr 0 []),(14, .ptr 4 []),(30, .own 5),(31,vi (Ac a)),(32,vi g),(59, .agg [.own 6,vi h])]]⟩
def x44(Mr:K_)(a:LU)(b f h g:Int)(k:List (Int×Int×UInt64×UInt64×Unit))(m:LB)(o n:Int)(v:LB):Option R_:=H.e P_ [r,r,r,r,r,l,r,d,(lp Mr),r,r,l,d,r,r,r,r,(call 1 128),r,r,d] (t44 a b f h g k m o n v)
def x27(a:LU)(b f g:Int)(w:List (Int×Int×UInt64×UInt64×Unit))(u:Int)(p:LB):Option R_:=H.e P_ [r,r,r,r,r,l,r,d] (t27 a b f g w u p)
theorem e52:x52=EM:=by kernel_rfl
theorem e50(Mr:K_)(a:LU)(b f:Int):x50 Mr a b f=ED (λg w u p=>Mr (t27 a b f g w u p)) a b f:=by kernel_rfl
theorem e48(Mr cE:K_)(a:LU)(b f h g:Int)(k:List (Int×Int×UInt64×UInt64×Unit))(m:LB):x48 Mr cE h a g b f k m=DQ (λo n v=>cE (t44 a b f h g k m o n v)) h a g b f k m:=by kernel_rfl
theorem e47(Mr cE:K_)(a:LU)(b f h g:Int)(k:List (Int×Int×UInt64×UInt64×Unit))(m:LB):x47 Mr cE h a g b f k m=Vu (λo n v=>cE (t44 a b f h g k m o n v)) h a g b f k m:=Eq.trans (b:=EE (x48 Mr cE h a g b f k m) h a g b f k m) (by kernel_rfl) (by simp only[e48]<;>rfl)
theorem i44(Mr:K_)(a:LU)(b f h g:Int)(k:List (Int×Int×UInt64×UInt64×Unit))(m:LB):∀(q:Nat) (o n:Int) (v:LB),z44 Mr q (t44 a b f h g k m o n v)=Gv (λg w u p=>Mr (t27 a b f g w u p)) a b f h g k m q o n v:=
 ind (λ_ _ _=>by kernel_rfl) λq ih o n v=>Eq.trans (b:=Wb (x47 Mr (z44 Mr q) h a g b f k m) (x50 Mr a b f) a b f h g k m o n v) (by kernel_rfl) (by simp only[e47,e50,ih]<;>rfl)
theorem e44(Mr:K_)(a:LU)(b f:Int):x44 Mr a b f=YP (λg w u p=>Mr (t27 a b f g w u p)) a b f:=by funext h g k m o n v;exact Eq.trans (by kernel_rfl) ((i44 Mr a b f h g k m Ed o n v).trans (by rw[Bg];rfl))
theorem i27(a:LU)(b f:Int):∀(q:Nat) (g:Int) (w:List (Int×Int×UInt64×UInt64×Unit)) (u:Int) (p:LB),z27 q (t27 a b f g w u p)=Jc a b f q g w u p:=
 ind (λ_ _ _ _=>by kernel_rfl) λq ih g w u p=>Eq.trans (b:=Vz (x44 (z27 q) a b f) x52 a b f g w u p) (by kernel_rfl) (by simp only[e44,e52,ih]<;>rfl)
theorem e27:x27=EB:=by funext a b f g w u p;exact Eq.trans (by kernel_rfl) ((i27 a b f Ed g w u p).trans (by rw[Bg];rfl))
def F:=u4 Ui
theorem rn x:H.u P_ x=F x:=Eq.trans (b:=u4 (HK x27) x) (by kernel_rfl) (by simp only[e27]<;>rfl)
def c:Con:=⟨H.p,H.r,F⟩
theorem ok:ConOk P_ gl 87 c:=cr H func87 (.cons F90.ok (.cons F91.ok (.cons F125.ok (.cons F126.ok (.cons F127.ok (.cons F129.ok .nil)))))) (Ft.cons ent128 Ft.nil) rn
end F87
theorem Aed:ConOk Tryz.prog gl 39 aT:=Abg F84.ok F85.ok F101.ok F87.ok F88.ok
namespace F98
abbrev R_:=Bool
noncomputable def H:Hd:=⟨[.agg [Si,Si,Si,Si,Si]],[Sz],(.seq .d (.cut [1] [] .d .d)),⟨[],gl,false⟩,[],f98⟩
def x2(b f a g h:Int):Option R_:=H.e P_ [r,r] ⟨[(1, .ptr 0 [])],[.box 32 (.agg [vi b,vi f,vi a,vi g,vi h])],[]⟩
theorem e2:x2=Pm:=by kernel_rfl
def F:=u5 Sd
theorem rn x:H.u P_ x=F x:=Eq.trans (b:=u5 (AV x2) x) (by kernel_rfl) (by simp only[e2]<;>rfl)
def c:Con:=⟨H.p,H.r,F⟩
theorem ok:ConOk P_ gl 98 c:=co H func98 .nil rn
end F98
namespace F99
noncomputable def H:Hd:=⟨[.agg [Si,Si,Si,Si,Si]],[Sz], .d,⟨[(117,F117.c)],gl,false⟩,[],f99⟩
def F:=u5 QF
theorem rn x:H.u P_ x=F x:=by kernel_rfl
def c:Con:=⟨H.p,H.r,F⟩
theorem ok:ConOk P_ gl 99 c:=co H func99 (.cons F117.ok .nil) rn
end F99
namespace F89
noncomputable def H:Hd:=⟨[.agg [Si,Si,Si,Si,Si]],[Si], .d,⟨[(98,F98.c),(99,F99.c)],gl,false⟩,[],f89⟩
def F:=u5 On
theorem rn x:H.u P_ x=F x:=by kernel_rfl
def c:Con:=⟨H.p,H.r,F⟩
theorem ok:ConOk P_ gl 89 c:=co H func89 (.cons F98.ok (.cons F99.ok .nil)) rn
end F89
namespace F40
abbrev R_:=(LB×Int)
noncomputable def H:Hd:=⟨[.agg [Si,Si,Si,Si,Si]],[Ob 5,Si],(.seq .d (.seq .d (.seq .d (.cut [5] [] (.seq .d (.blk (.loop [5,31,32] [] .d))) .d)))),⟨[(89,F89.c),(90,F90.c),(91,F91.c)],gl,false⟩,[],f40⟩
def t4(b f g h k m:Int)(a:LB):S:=⟨[(5, .own 0),(31, .val (.vec 5 (.int .i64)) ([b,f,g,h,k]:LI)),(32,vi m)],[Ab 5 a],[]⟩
def z4:Nat->S->Option R_:=H.i P_ [r,r,r,l,r,d]
def x6(a:LB):Option R_:=H.e P_ [r,r,r,r] ⟨[(5, .own 0)],[Ab 5 a],[]⟩
def x4(b f g h k m:Int)(a:LB):Option R_:=H.e P_ [r,r,r,l,r,d] (t4 b f g h k m a)
theorem e6:x6=DK:=by kernel_rfl
theorem i4(b f g h k:Int):∀(q:Nat) (m:Int) (a:LB),z4 q (t4 b f g h k m a)=Nt b f g h k q m a:=
 ind (λ_ _=>by kernel_rfl) λq ih m a=>Eq.trans (b:=DM x6 (λm a=>(z4 q) (t4 b f g h k m a)) b f g h k m a) (by kernel_rfl) (by simp only[e6,ih]<;>rfl)
theorem e4:x4=SB:=by funext b f g h k m a;exact Eq.trans (by kernel_rfl) ((i4 b f g h k Ed m a).trans (by rw[Bg];rfl))
def F:=u5 TO
theorem rn x:H.u P_ x=F x:=Eq.trans (b:=u5 (SD x4) x) (by kernel_rfl) (by simp only[e4]<;>rfl)
def c:Con:=⟨H.p,H.r,F⟩
theorem ok:ConOk P_ gl 40 c:=co H func40 (.cons F89.ok (.cons F90.ok (.cons F91.ok .nil))) rn
end F40
namespace F92
noncomputable def H:Hd:=⟨[Ss],[Sq,Si], .d,⟨[(122,F122.c)],gl,false⟩,[],f92⟩
def F:=vR
theorem rn x:H.u P_ x=F x:=by kernel_rfl
def c:Con:=⟨H.p,H.r,F⟩
theorem ok:ConOk P_ gl 92 c:=co H func92 (.cons F122.ok .nil) rn
end F92
namespace F41
noncomputable def H:Hd:=⟨[Ss],[Ob 5,Si], .d,⟨[(90,F90.c),(92,F92.c)],gl,false⟩,[],f41⟩
def F:=IK
theorem rn x:H.u P_ x=F x:=by kernel_rfl
def c:Con:=⟨H.p,H.r,F⟩
theorem ok:ConOk P_ gl 41 c:=co H func41 (.cons F90.ok (.cons F92.ok .nil)) rn
end F41
namespace F93
abbrev R_:=Int
noncomputable def H:Hd:=⟨[Sl],[Si],(.seq .d (.seq .d (.seq .d (.cut [] [] (.seq .d (.blk (.loop [3,14,15,16] [] .d))) .d)))),⟨[],gl,false⟩,[],f93⟩
def t4(a:LI)(f b:Int):S:=⟨[(3,vi f),(14,vl a),(15,vi (Ac a)),(16,vi b)],[],[]⟩
def z4:Nat->S->Option R_:=H.i P_ [r,r,r,l,r,d]
def x6:Option R_:=H.e P_ [r,r,r,r] ⟨[],[],[]⟩
def x4(a:LI)(f b:Int):Option R_:=H.e P_ [r,r,r,l,r,d] (t4 a f b)
theorem e6:x6=lS:=by kernel_rfl
theorem i4(a:LI):∀(q:Nat) (f b:Int),z4 q (t4 a f b)=Uw a q f b:=
 ind (λ_ _=>by kernel_rfl) λq ih f b=>Eq.trans (b:=IV x6 (λf b=>(z4 q) (t4 a f b)) a f b) (by kernel_rfl) (by simp only[e6,ih]<;>rfl)
theorem e4:x4=VW:=by funext a f b;exact Eq.trans (by kernel_rfl) ((i4 a Ed f b).trans (by rw[Bg];rfl))
def F:=Rn
theorem rn x:H.u P_ x=F x:=Eq.trans (b:=GK x4 x) (by kernel_rfl) (by simp only[e4]<;>rfl)
def c:Con:=⟨H.p,H.r,F⟩
theorem ok:ConOk P_ gl 93 c:=co H func93 .nil rn
end F93
namespace F42
abbrev R_:=(LB×Int)
abbrev K_:=S->Option R_
noncomputable def H:Hd:=⟨[Sl],[Ob 5,Si],(.seq .d (.seq .d (.seq .d (.seq .d (.cut [5,6] [] (.seq .d (.blk (.loop [5,6,17,18,19] [⟨5,[], .own 5 (.int .u8)⟩,⟨6,[0], .own 5 (.int .u8)⟩] (.seq .d (.seq .d (.cut [5,6,17,18,19] [] (.blk (.seq .d (.keep [5,6,8,17,18,19,23,24,25] true))) .d)))))) (.seq .d (.cut [5] [] (.keep [5,6,9,33,34,35] true) .d))))))),⟨[(90,F90.c),(91,F91.c),(93,F93.c)],gl,false⟩,[(94, .d)],f42⟩
def t8(a:LI)(f:Int)(b:LB):S:=⟨[(5, .ptr 0 []),(6, .fn 94 [.ptr 0 []]),(17,vl a),(18,vi (Ac a)),(19,vi f)],[.box 27 (.own 1),Ab 5 b],[]⟩
def z8:Nat->S->Option R_:=H.i P_ [r,r,r,r,l,r,d]
def x14(g:LB):Option R_:=H.e P_ [r,r,r,r,r,r,r] ⟨[(5, .ptr 0 [])],[.box 27 (.own 1),Ab 5 g],[]⟩
def x13(b:LB):Option R_:=H.e P_ [r,r,r,r,r] ⟨[(5, .ptr 0 []),(6, .fn 94 [.ptr 0 []])],[.box 27 (.own 1),Ab 5 b],[]⟩
def x11(kn8:K_)(a:LI)(f:Int)(h:LB):Option R_:=H.e P_ [r,r,r,r,l,r,d,(lp kn8),r,r,r] ⟨[(5, .ptr 0 []),(6, .fn 94 [.ptr 0 []]),(17,vl a),(18,vi (Ac a)),(19,vi f)],[.box 27 (.own 1),Ab 5 h],[]⟩
def x8(a:LI)(f:Int)(b:LB):Option R_:=H.e P_ [r,r,r,r,l,r,d] (t8 a f b)
theorem e14:x14=jE:=by kernel_rfl
theorem e13:x13=RS:=Eq.trans (b:=SC x14) (by kernel_rfl) (by simp only[e14]<;>rfl)
theorem e11(kn8:K_)(a:LI):x11 kn8 a=RH (λf b=>kn8 (t8 a f b)) a:=by kernel_rfl
theorem i8(a:LI):∀(q:Nat) (f:Int) (b:LB),z8 q (t8 a f b)=Ul a q f b:=
 ind (λ_ _=>by kernel_rfl) λq ih f b=>Eq.trans (b:=GQ (x11 (z8 q) a) x13 a f b) (by kernel_rfl) (by simp only[e11,e13,ih]<;>rfl)
theorem e8:x8=lV:=by funext a f b;exact Eq.trans (by kernel_rfl) ((i8 a Ed f b).trans (by rw[Bg];rfl))
def F:=ZP
theorem rn x:H.u P_ x=F x:=Eq.trans (b:=WR x8 x) (by kernel_rfl) (by simp only[e8]<;>rfl)
def c:Con:=⟨H.p,H.r,F⟩
theorem ok:ConOk P_ gl 42 c:=cr H func42 (.cons F90.ok (.cons F91.ok (.cons F93.ok .nil))) (Ft.cons ent94 Ft.nil) rn
end F42
namespace F44
noncomputable def H:Hd:=⟨[Sb],[Si], .d,⟨[],gl,false⟩,[],f44⟩
def F:=cC
theorem rn x:H.u P_ x=F x:=by kernel_rfl
def c:Con:=⟨H.p,H.r,F⟩
theorem ok:ConOk P_ gl 44 c:=co H func44 .nil rn
end F44
namespace F45
abbrev R_:=LB
noncomputable def H:Hd:=⟨[.lf (.list (.list (.int .u8))) none],[Ob 5],(.seq .d (.seq .d (.cut [3] [] (.seq .d (.blk (.loop [3,6,7,8] [⟨3,[], .own 5 (.int .u8)⟩] .d))) .d))),⟨[],gl,false⟩,[],f45⟩
def t4(b:List LB)(f:Int)(a:LB):S:=⟨[(3, .own 0),(6, .val (.list (.list (.int .u8))) b),(7,vi (Ac b)),(8,vi f)],[Ab 5 a],[]⟩
def z4:Nat->S->Option R_:=H.i P_ [r,r,l,r,d]
def x6(a:LB):Option R_:=H.e P_ [r,r,r] ⟨[(3, .own 0)],[Ab 5 a],[]⟩
def x4(b:List LB)(f:Int)(a:LB):Option R_:=H.e P_ [r,r,l,r,d] (t4 b f a)
theorem e6:x6=nQ:=by kernel_rfl
theorem i4(b:List LB):∀(q:Nat) (f:Int) (a:LB),z4 q (t4 b f a)=Uv b q f a:=
 ind (λ_ _=>by kernel_rfl) λq ih f a=>Eq.trans (b:=JK x6 (λf a=>(z4 q) (t4 b f a)) b f a) (by kernel_rfl) (by simp only[e6,ih]<;>rfl)
theorem e4:x4=mN:=by funext b f a;exact Eq.trans (by kernel_rfl) ((i4 b Ed f a).trans (by rw[Bg];rfl))
def F:=mJ
theorem rn x:H.u P_ x=F x:=Eq.trans (b:=lH x4 x) (by kernel_rfl) (by simp only[e4]<;>rfl)
def c:Con:=⟨H.p,H.r,F⟩
theorem ok:ConOk P_ gl 45 c:=co H func45 .nil rn
end F45
namespace F10
abbrev R_:=(LB×Int)
abbrev K_:=S->Option R_
noncomputable def H:Hd:=⟨[.agg [Si,Si,Si,Sw],Ss],[Ob 5,Si],(.seq .d (.seq .d (.seq .d (.seq .d (.seq .d (.seq .d (.seq .d (.seq .d (.cut [8,9,10] [⟨10,[], .own 5 (.int .u8)⟩] .d (.cut [7,8,9,10,11] [] (.keep [7,8,9,10,11,46,48,49,50,51] true) .d)))))))))),⟨[(38,F38.c),(39,aT),(40,F40.c),(41,F41.c),(42,F42.c),(44,F44.c),(45,F45.c)],gl,false⟩,[(43,(.seq .d (.seq .d (.cut [5] [] (.seq .d (.blk (.loop [1,5,11,12,13] [] (.seq .d (.seq .d (.cut [1,5,11,12,13] [] .d .d)))))) .d))))],f10⟩
def t9(a:List LB)(b f:LB)(g:Int)(h:LI):S:=⟨[(1, .fn 44 []),(5, .own 0),(11, .own 1),(12,vi (Ac a)),(13,vi g)],[Ai 3 h, .arr 27 (.list (.int .u8)) a,Ab 5 b,Ab 5 f],[[(8, .own 1),(9, .own 2),(10, .own 3)]]⟩
def z9:Nat->S->Option R_:=H.i P_ [r,r,r,r,r,r,r,r,r,l,(call 1 43),r,r,l,r,d]
def x14(k:Int)(a:List LB)(b f n:LB):Option R_:=H.e P_ [r,r,r,r,r,r,r,r,r,r] ⟨[(7,vi k),(8, .own 0),(9, .own 1),(10, .own 2),(11, .own 3)],[.arr 27 (.list (.int .u8)) a,Ab 5 b,Ab 5 f,Ab 5 n],[]⟩
def x13(h:LI)(a:List LB)(b f:LB):Option R_:=H.e P_ [r,r,r,r,r,r,r,r,r,l,(call 1 43),r,r,r] ⟨[(5, .own 0)],[Ai 3 h, .arr 27 (.list (.int .u8)) a,Ab 5 b,Ab 5 f],[[(8, .own 1),(9, .own 2),(10, .own 3)]]⟩
def x11(kn9:K_)(a:List LB)(b f:LB)(g:Int)(m:LI):Option R_:=H.e P_ [r,r,r,r,r,r,r,r,r,l,(call 1 43),r,r,l,r,d,(lp kn9),r,r,r] ⟨[(1, .fn 44 []),(5, .own 0),(11, .own 1),(12,vi (Ac a)),(13,vi g)],[Ai 3 m, .arr 27 (.list (.int .u8)) a,Ab 5 b,Ab 5 f],[[(8, .own 1),(9, .own 2),(10, .own 3)]]⟩
def x9(a:List LB)(b f:LB)(g:Int)(h:LI):Option R_:=H.e P_ [r,r,r,r,r,r,r,r,r,l,(call 1 43),r,r,l,r,d] (t9 a b f g h)
def x8(a:List LB)(b f:LB):Option R_:=H.e P_ [r,r,r,r,r,r,r,r,r] ⟨[(8, .own 0),(9, .own 1),(10, .own 2)],[.arr 27 (.list (.int .u8)) a,Ab 5 b,Ab 5 f],[]⟩
theorem e14:x14=RM:=by kernel_rfl
theorem e13:x13=Ws:=Eq.trans (b:=RF x14) (by kernel_rfl) (by simp only[e14]<;>rfl)
theorem e11(kn9:K_)(a:List LB)(b f:LB):x11 kn9 a b f=SK (λg h=>kn9 (t9 a b f g h)) a b f:=by kernel_rfl
theorem i9(a:List LB)(b f:LB):∀(q:Nat) (g:Int) (h:LI),z9 q (t9 a b f g h)=Uy a b f q g h:=
 ind (λ_ _=>by kernel_rfl) λq ih g h=>Eq.trans (b:=GU (x11 (z9 q) a b f) x13 a b f g h) (by kernel_rfl) (by simp only[e11,e13,ih]<;>rfl)
theorem e9:x9=nG:=by funext a b f g h;exact Eq.trans (by kernel_rfl) ((i9 a b f Ed g h).trans (by rw[Bg];rfl))
theorem e8:x8=HI:=Eq.trans (b:=UT x9) (by kernel_rfl) (by simp only[e9]<;>rfl)
def F:=u5 PX
theorem rn x:H.u P_ x=F x:=Eq.trans (b:=u5 (YE x8) x) (by kernel_rfl) (by simp only[e8]<;>rfl)
def c:Con:=⟨H.p,H.r,F⟩
theorem ok:ConOk P_ gl 10 c:=cr H func10 (.cons F38.ok (.cons Aed (.cons F40.ok (.cons F41.ok (.cons F42.ok (.cons F44.ok (.cons F45.ok .nil))))))) (Ft.cons ent43 Ft.nil) rn
end F10
namespace F53
noncomputable def H:Hd:=⟨[],[Ob 5,Sz], .d,⟨[(10,F10.c)],gl,false⟩,[],f53⟩
noncomputable def F(x:Unit):=VR
theorem rn x:H.u P_ x=F x:=by kernel_rfl
def c:Con:=⟨H.p,H.r,F⟩
theorem ok:ConOk P_ gl 53 c:=co H func53 (.cons F10.ok .nil) rn
end F53
namespace F17
noncomputable def H:Hd:=⟨[Ss],[.agg [Ss,Ob 5, .agg [Si,Si,Si,Si,Si],Ol 3,Si,Ob 5,Sz,Si],Si], .d,⟨[],gl,false⟩,[],f17⟩
def F:=QC
theorem rn x:H.u P_ x=F x:=by kernel_rfl
def c:Con:=⟨H.p,H.r,F⟩
theorem ok:ConOk P_ gl 17 c:=co H func17 .nil rn
end F17
namespace F75
def RU(a:LB):Option (LB):=
Acg a (
some ([]:LB)) (
(Dy ([]:LB) a).bind λb=>
some b)
theorem sM: @RU= @Mx:=by
  unfold RU Mx
  repeat (refine funext λ_=>?_)
  repeat' first
    |with_reducible rfl
    |with_reducible refine Nb ?_ ?_
    |with_reducible refine Nh ?_ ?_ ?_
    |with_reducible refine Mz ?_ ?_ ?_ ?_
    |((with_reducible refine Rr ?_ ?_);focus (intro h;first|(subst h;rfl)|(simp only[h];rfl)|(simp[Dy,Ac,h];done)))
    |with_reducible refine Rt λx=>?_
    |with_reducible refine AP (λ_=>?_) (λ_=>?_)
    |(refine Hc (λh=>by simp only[h,Rv,Em,Eb,ite_self]) (λx h=>?_);(try simp only[h,Em]))
    |(refine Jf (λh=>?_) (λh=>?_)<;>simp only[h,if_true,if_false,Bool.false_eq_true])
noncomputable def H:Hd:=⟨[Sb],[Ob 5], .d,⟨[],gl,false⟩,[],f75⟩
def F:=Mx
theorem rn x:H.u P_ x=F x:=Eq.trans (b:=RU x) (by kernel_rfl) (by rw[sM];rfl)
def c:Con:=⟨H.p,H.r,F⟩
theorem ok:ConOk P_ gl 75 c:=co H func75 .nil rn
end F75
namespace F112
def Sn(a:LI):Option (LI):=
Acg a (
some ([]:LI)) (
(Dy ([]:LI) a).bind λb=>
some b)
theorem TR: @Sn= @Gw:=by
  unfold Sn Gw
  repeat (refine funext λ_=>?_)
  repeat' first
    |with_reducible rfl
    |with_reducible refine Nb ?_ ?_
    |with_reducible refine Nh ?_ ?_ ?_
    |with_reducible refine Mz ?_ ?_ ?_ ?_
    |((with_reducible refine Rr ?_ ?_);focus (intro h;first|(subst h;rfl)|(simp only[h];rfl)|(simp[Dy,Ac,h];done)))
    |with_reducible refine Rt λx=>?_
    |with_reducible refine AP (λ_=>?_) (λ_=>?_)
    |(refine Hc (λh=>by simp only[h,Rv,Em,Eb,ite_self]) (λx h=>?_);(try simp only[h,Em]))
    |(refine Jf (λh=>?_) (λh=>?_)<;>simp only[h,if_true,if_false,Bool.false_eq_true])
noncomputable def H:Hd:=⟨[Sl],[Ol 3], .d,⟨[],gl,false⟩,[],f112⟩
def F:=Gw
theorem rn x:H.u P_ x=F x:=Eq.trans (b:=Sn x) (by kernel_rfl) (by rw[TR];rfl)
def c:Con:=⟨H.p,H.r,F⟩
theorem ok:ConOk P_ gl 112 c:=co H func112 .nil rn
end F112
namespace F61
noncomputable def H:Hd:=⟨[.agg [Ss,Sb, .agg [Si,Si,Si,Si,Si],Sl,Si,Sb,Sz,Si]],[.agg [Ss,Ob 5, .agg [Si,Si,Si,Si,Si],Ol 3,Si,Ob 5,Sz,Si]], .d,⟨[(75,F75.c),(112,F112.c)],gl,false⟩,[],f61⟩
def F:=u12 Ee
theorem rn x:H.u P_ x=F x:=by kernel_rfl
def c:Con:=⟨H.p,H.r,F⟩
theorem ok:ConOk P_ gl 61 c:=co H func61 (.cons F75.ok (.cons F112.ok .nil)) rn
end F61
namespace F49
noncomputable def H:Hd:=⟨[.agg [Si,Si,Si,Si,Si]],[Ol 3,Si], .d,⟨[(89,F89.c),(101,F101.c)],gl,false⟩,[],f49⟩
def F:=u5 Dm
theorem rn x:H.u P_ x=F x:=by kernel_rfl
def c:Con:=⟨H.p,H.r,F⟩
theorem ok:ConOk P_ gl 49 c:=co H func49 (.cons F89.ok (.cons F101.ok .nil)) rn
end F49
namespace F151
noncomputable def H:Hd:=⟨[.agg [Si,Si,Si,Si,Si],Ss],[Si], .d,⟨[],gl,false⟩,[],f151⟩
def F:=u6 Pz
theorem rn x:H.u P_ x=F x:=by kernel_rfl
def c:Con:=⟨H.p,H.r,F⟩
theorem ok:ConOk P_ gl 151 c:=co H func151 .nil rn
end F151
namespace F148
abbrev R_:=Bool
noncomputable def H:Hd:=⟨[.agg [Ss,Sb, .agg [Si,Si,Si,Si,Si],Sl,Si,Sb,Sz,Si]],[Sz],(.seq .d (.seq .d (.seq .d (.cut [1,3] [] .d (.seq .d (.seq .d (.seq .d (.cut [1,5] [] (.seq .d (.blk (.loop [1,5,83,84,85] [] .d))) .d)))))))),⟨[(49,F49.c),(93,F93.c),(151,F151.c)],gl,false⟩,[],f148⟩
def t6(y:LI)(o p:LB)(h b f k m:Int)(g:LI)(a:Int)(n:LB)(u:Bool)(v w aa:Int):S:=⟨[(1, .ptr 0 []),(5,vi w),(83,vl y),(84,vi (Ac y)),(85,vi aa)],[.box 46 (.agg [vs o,vb p, .agg [vi h,vi b,vi f,vi k,vi m],vl g,vi a,vb n,vt u,vi v])],[]⟩
def z6:Nat->S->Option R_:=H.i P_ [r,r,r,r,r,r,r,l,r,d]
def x8(w:Int)(o p:LB)(h b f k m:Int)(g:LI)(a:Int)(n:LB)(u:Bool)(v:Int):Option R_:=H.e P_ [r,r,r,r,r,r,r,r] ⟨[(1, .ptr 0 []),(5,vi w)],[.box 46 (.agg [vs o,vb p, .agg [vi h,vi b,vi f,vi k,vi m],vl g,vi a,vb n,vt u,vi v])],[]⟩
def x6(y:LI)(o p:LB)(h b f k m:Int)(g:LI)(a:Int)(n:LB)(u:Bool)(v w aa:Int):Option R_:=H.e P_ [r,r,r,r,r,r,r,l,r,d] (t6 y o p h b f k m g a n u v w aa)
def x5(o p:LB)(h b f k m:Int)(g:LI)(a:Int)(n:LB)(u:Bool)(v:Int)(ab:LI):Option R_:=H.e P_ [r,r,r,r] ⟨[(1, .ptr 0 []),(3, .own 1)],[.box 46 (.agg [vs o,vb p, .agg [vi h,vi b,vi f,vi k,vi m],vl g,vi a,vb n,vt u,vi v]),Ai 3 ab],[]⟩
theorem e8:x8=SH:=by kernel_rfl
theorem i6(y:LI)(o p:LB)(h b f k m:Int)(g:LI)(a:Int)(n:LB)(u:Bool)(v:Int):∀(q:Nat) (w aa:Int),z6 q (t6 y o p h b f k m g a n u v w aa)=Re y o p h b f k m g a n u v q w aa:=
 ind (λ_ _=>by kernel_rfl) λq ih w aa=>Eq.trans (b:=DJ x8 (λw aa=>(z6 q) (t6 y o p h b f k m g a n u v w aa)) y o p h b f k m g a n u v w aa) (by kernel_rfl) (by simp only[e8,ih]<;>rfl)
theorem e6:x6=RG:=by funext y o p h b f k m g a n u v w aa;exact Eq.trans (by kernel_rfl) ((i6 y o p h b f k m g a n u v Ed w aa).trans (by rw[Bg];rfl))
theorem e5:x5=RN:=Eq.trans (b:=SI x6) (by kernel_rfl) (by simp only[e6]<;>rfl)
def F:=u12 BI
theorem rn x:H.u P_ x=F x:=Eq.trans (b:=u12 (RP x5) x) (by kernel_rfl) (by simp only[e5]<;>rfl)
def c:Con:=⟨H.p,H.r,F⟩
theorem ok:ConOk P_ gl 148 c:=co H func148 (.cons F49.ok (.cons F93.ok (.cons F151.ok .nil))) rn
end F148
namespace F100
noncomputable def H:Hd:=⟨[Sb,Sb],[Sz], .d,⟨[],gl,false⟩,[],f100⟩
def F:=u2 Ii
theorem rn x:H.u P_ x=F x:=by kernel_rfl
def c:Con:=⟨H.p,H.r,F⟩
theorem ok:ConOk P_ gl 100 c:=co H func100 .nil rn
end F100
namespace F145
noncomputable def H:Hd:=⟨[Sb,Sb],[Sz], .d,⟨[(100,F100.c)],gl,false⟩,[],f145⟩
def F:=u2 Nv
theorem rn x:H.u P_ x=F x:=by kernel_rfl
def c:Con:=⟨H.p,H.r,F⟩
theorem ok:ConOk P_ gl 145 c:=co H func145 (.cons F100.ok .nil) rn
end F145
namespace F195
abbrev R_:=(Int×Int)
noncomputable def H:Hd:=⟨[Sb],[Si,Si],(.seq .d (.seq .d (.seq .d (.cut [4] [] (.seq .d (.blk (.loop [4,10,11,12] [] .d))) .d)))),⟨[],gl,false⟩,[],f195⟩
def t4(a:LB)(b f:Int):S:=⟨[(4,vi b),(10,vb a),(11,vi (Ac a)),(12,vi f)],[],[]⟩
def z4:Nat->S->Option R_:=H.i P_ [r,r,r,l,r,d]
def x6(b:Int):Option R_:=H.e P_ [r,r,r,r] ⟨[(4,vi b)],[],[]⟩
def x4(a:LB)(b f:Int):Option R_:=H.e P_ [r,r,r,l,r,d] (t4 a b f)
theorem e6:x6=eK:=by kernel_rfl
theorem i4(a:LB):∀(q:Nat) (b f:Int),z4 q (t4 a b f)=Pj a q b f:=
 ind (λ_ _=>by kernel_rfl) λq ih b f=>Eq.trans (b:=AT x6 (λb f=>(z4 q) (t4 a b f)) a b f) (by kernel_rfl) (by simp only[e6,ih]<;>rfl)
theorem e4:x4=NB:=by funext a b f;exact Eq.trans (by kernel_rfl) ((i4 a Ed b f).trans (by rw[Bg];rfl))
def F:=OC
theorem rn x:H.u P_ x=F x:=Eq.trans (b:=NI x4 x) (by kernel_rfl) (by simp only[e4]<;>rfl)
def c:Con:=⟨H.p,H.r,F⟩
theorem ok:ConOk P_ gl 195 c:=co H func195 .nil rn
end F195
namespace F169
def ML(j5:LB->UInt8->UInt8->Option (Int×Int))(a:LB):Option (Int×Int):=
(Nv a ([(73:UInt8),(68:UInt8),(51:UInt8)]:LB)).bind λn=>
if(!n)then
some (0,6)
else
if(Cr (Ac a) 10)then
some (0,24)
else
(Ap a 3).bind λf=>
(Ap a 5).bind λb=>
(λo:Option (Int×Int)=>
(λp:Option (Int×Int)=>
both (
both (
bo (
j5 a f b)) [
o,
o]) [
bo2 (
bo (
j5 a f b)),
p,
p]) (
both (
o) [
bo (
j5 a f b),
both (
bo (
j5 a f b)) [
j5 a f b]])) (
both (
j5 a f b) [
bo (
j5 a f b)])
theorem pO: @ML= @DN:=by
  unfold ML DN
  try simp only[WX,DX,DY]
  all_goals
    repeat (refine funext λ_=>?_)
    repeat' first
      |with_reducible rfl
      |with_reducible refine Nb ?_ ?_
      |with_reducible refine Nh ?_ ?_ ?_
      |with_reducible refine Mz ?_ ?_ ?_ ?_
      |((with_reducible refine Rr ?_ ?_);focus (intro h;first|(subst h;rfl)|(simp only[h];rfl)|(simp[Dy,Ac,h];done)))
      |with_reducible refine Rt λx=>?_
      |with_reducible refine AP (λ_=>?_) (λ_=>?_)
      |(refine Hc (λh=>by simp only[h,Rv,Em,Eb,ite_self]) (λx h=>?_);(try simp only[h,Em]))
      |(refine Jf (λh=>?_) (λh=>?_)<;>simp only[h,if_true,if_false,Bool.false_eq_true])
abbrev R_:=(Int×Int)
noncomputable def H:Hd:=⟨[Sb],[Si,Si],(.seq .d (.seq .d (.seq .d (.cut [0,4,5] [] (.mode false) (.seq .d (.seq .d (.cut [0,5,6] [] (.cut [0,5,6,43] [] (.keep [0,5,6,7,8,31,32,33,34,35,36,37,38,39,40,41,42,43] true) .d) (.seq .d (.cut [0,5,6] [] .d .d))))))))),⟨[(100,F100.c),(145,F145.c),(195,F195.c)],gl,false⟩,[(196, .d)],f169⟩
def x8(a:LB)(b:UInt8)(h:Int):Option R_:=H.e P_ [r,r,r,r,r,r,r,r,r] ⟨[(0,vb a),(5, .ptr 0 []),(6,vi h)],[.box 5 (vc b)],[]⟩
def x7(a:LB)(g:Int)(b:UInt8):Option R_:=H.e P_ [r,r,r,r,r,r,r] ⟨[(0,vb a),(5, .ptr 0 []),(6,vi g)],[.box 5 (vc b)],[]⟩
def x6(a:LB)(g:Int)(b:UInt8)(m:Bool):Option R_:=H.e P_ [r,r,r,r,r,r,l,r] ⟨[(0,vb a),(5, .ptr 0 []),(6,vi g),(43,vt m)],[.box 5 (vc b)],[]⟩
def x5(a:LB)(f b:UInt8):Option R_:=H.e P_ [r,r,r,r] ⟨[(0,vb a),(4, .ptr 0 []),(5, .ptr 1 [])],[.box 5 (vc f), .box 5 (vc b)],[]⟩
theorem e8:x8=DD:=by kernel_rfl
theorem e7:x7=DA:=Eq.trans (b:=RT x8) (by kernel_rfl) (by simp only[e8]<;>rfl)
theorem e6:x6=RZ:=Eq.trans (b:=RL x7) (by kernel_rfl) (by simp only[e7]<;>rfl)
theorem e5:x5=SM:=Eq.trans (b:=RQ x6) (by kernel_rfl) (by simp only[e6]<;>rfl)
def F:=UC
theorem rn x:H.u P_ x=F x:=Eq.trans (b:=ML x5 x) (by kernel_rfl) (by unfold F;rw[pO];simp only[e5]<;>rfl)
def c:Con:=⟨H.p,H.r,F⟩
theorem ok:ConOk P_ gl 169 c:=cr H func169 (.cons F100.ok (.cons F145.ok (.cons F195.ok .nil))) (Ft.cons ent196 Ft.nil) rn
end F169
namespace F135
abbrev R_:=(UInt64×Int)
noncomputable def H:Hd:=⟨[Sb],[Sq,Si],(.seq .d (.seq .d (.seq .d (.cut [4] [] (.seq .d (.blk (.loop [4,15,16,17] [] .d))) .d)))),⟨[],gl,false⟩,[],f135⟩
def t4(a:LB)(b:UInt64)(f:Int):S:=⟨[(4,vq b),(15,vb a),(16,vi (Ac a)),(17,vi f)],[],[]⟩
def z4:Nat->S->Option R_:=H.i P_ [r,r,r,l,r,d]
def x6(b:UInt64):Option R_:=H.e P_ [r,r,r,r] ⟨[(4,vq b)],[],[]⟩
def x4(a:LB)(b:UInt64)(f:Int):Option R_:=H.e P_ [r,r,r,l,r,d] (t4 a b f)
theorem e6:x6=zD:=by kernel_rfl
theorem i4(a:LB):∀(q:Nat) (b:UInt64) (f:Int),z4 q (t4 a b f)=EZ a q b f:=
 ind (λ_ _=>by kernel_rfl) λq ih b f=>Eq.trans (b:=ZU x6 (λb f=>(z4 q) (t4 a b f)) a b f) (by kernel_rfl) (by simp only[e6,ih]<;>rfl)
theorem e4:x4=kR:=by funext a b f;exact Eq.trans (by kernel_rfl) ((i4 a Ed b f).trans (by rw[Bg];rfl))
def F:=mL
theorem rn x:H.u P_ x=F x:=Eq.trans (b:=nN x4 x) (by kernel_rfl) (by simp only[e4]<;>rfl)
def c:Con:=⟨H.p,H.r,F⟩
theorem ok:ConOk P_ gl 135 c:=co H func135 .nil rn
end F135
namespace F97
noncomputable def H:Hd:=⟨[Sb,Si,Si],[Sq,Si], .d,⟨[(135,F135.c)],gl,false⟩,[],f97⟩
def F:=u3 eE
theorem rn x:H.u P_ x=F x:=by kernel_rfl
def c:Con:=⟨H.p,H.r,F⟩
theorem ok:ConOk P_ gl 97 c:=co H func97 (.cons F135.ok .nil) rn
end F97
namespace F147
abbrev R_:=LB
noncomputable def H:Hd:=⟨[Si,Si,Sq],[Ob 5],(.seq .d (.seq .d (.cut [7] [] (.seq .d (.blk (.loop [7,20,21,22] [] .d))) .d))),⟨[(90,F90.c)],gl,false⟩,[],f147⟩
def t4(a b:Int)(f:UInt64)(h:Int)(g:LB):S:=⟨[(7, .own 0),(20, .own 1),(21,vi (Ac ([(2000:UInt64),(Af (Ad a (32:Int)):UInt64),(Af b:UInt64),f,(0:UInt64),(0:UInt64)]:LQ))),(22,vi h)],[Ab 5 g, .arr 146 (.int .u64) ([(2000:UInt64),(Af (Ad a (32:Int)):UInt64),(Af b:UInt64),f,(0:UInt64),(0:UInt64)]:LQ)],[]⟩
def z4:Nat->S->Option R_:=H.i P_ [r,r,l,r,d]
def x6(g:LB):Option R_:=H.e P_ [r,r,r] ⟨[(7, .own 0)],[Ab 5 g],[]⟩
def x4(a b:Int)(f:UInt64)(h:Int)(g:LB):Option R_:=H.e P_ [r,r,l,r,d] (t4 a b f h g)
theorem e6:x6=rQ:=by kernel_rfl
theorem i4(a b:Int)(f:UInt64):∀(q:Nat) (h:Int) (g:LB),z4 q (t4 a b f h g)=EV a b f q h g:=
 ind (λ_ _=>by kernel_rfl) λq ih h g=>Eq.trans (b:=eV x6 (λh g=>(z4 q) (t4 a b f h g)) a b f h g) (by kernel_rfl) (by simp only[e6,ih]<;>rfl)
theorem e4:x4=rV:=by funext a b f h g;exact Eq.trans (by kernel_rfl) ((i4 a b f Ed h g).trans (by rw[Bg];rfl))
def F:=u3 oS
theorem rn x:H.u P_ x=F x:=Eq.trans (b:=u3 (rS x4) x) (by kernel_rfl) (by simp only[e4]<;>rfl)
def c:Con:=⟨H.p,H.r,F⟩
theorem ok:ConOk P_ gl 147 c:=co H func147 (.cons F90.ok .nil) rn
end F147
namespace F146
noncomputable def H:Hd:=⟨[Sb,Sq],[.agg [Si,Si],Sz], .d,⟨[(97,F97.c),(100,F100.c),(147,F147.c)],gl,false⟩,[],f146⟩
def F:=u2 UI
theorem rn x:H.u P_ x=F x:=by kernel_rfl
def c:Con:=⟨H.p,H.r,F⟩
theorem ok:ConOk P_ gl 146 c:=co H func146 (.cons F97.ok (.cons F100.ok (.cons F147.ok .nil))) rn
end F146
namespace F170
noncomputable def H:Hd:=⟨[Sb],[Si,Si], .d,⟨[(100,F100.c),(145,F145.c),(146,F146.c),(147,F147.c)],gl,false⟩,[],f170⟩
def F:=oW
theorem rn x:H.u P_ x=F x:=by kernel_rfl
def c:Con:=⟨H.p,H.r,F⟩
theorem ok:ConOk P_ gl 170 c:=co H func170 (.cons F100.ok (.cons F145.ok (.cons F146.ok (.cons F147.ok .nil)))) rn
end F170
namespace F133
noncomputable def H:Hd:=⟨[Sb],[Si,Si], .d,⟨[(169,F169.c),(170,F170.c)],gl,false⟩,[],f133⟩
def F:=AG
theorem rn x:H.u P_ x=F x:=by kernel_rfl
def c:Con:=⟨H.p,H.r,F⟩
theorem ok:ConOk P_ gl 133 c:=co H func133 (.cons F169.ok (.cons F170.ok .nil)) rn
end F133
theorem KC:ConOk Tryz.prog gl 46 Xi:=Aez ent46 F133.ok
namespace F111
noncomputable def H:Hd:=⟨[Si],[.agg [Sz,Si]], .d,⟨[],gl,false⟩,[],f111⟩
def F:=Al
theorem rn x:H.u P_ x=F x:=by kernel_rfl
def c:Con:=⟨H.p,H.r,F⟩
theorem ok:ConOk P_ gl 111 c:=co H func111 .nil rn
end F111
namespace F134
noncomputable def H:Hd:=⟨[Ss,Ss],[Sz], .d,⟨[],gl,false⟩,[],f134⟩
def F:=u2 Hs
theorem rn x:H.u P_ x=F x:=by kernel_rfl
def c:Con:=⟨H.p,H.r,F⟩
theorem ok:ConOk P_ gl 134 c:=co H func134 .nil rn
end F134
namespace F96
noncomputable def H:Hd:=⟨[Ss,Ss],[Sz], .d,⟨[(134,F134.c)],gl,false⟩,[],f96⟩
def F:=u2 Jt
theorem rn x:H.u P_ x=F x:=by kernel_rfl
def c:Con:=⟨H.p,H.r,F⟩
theorem ok:ConOk P_ gl 96 c:=co H func96 (.cons F134.ok .nil) rn
end F96
namespace F150
abbrev R_:=Bool
noncomputable def H:Hd:=⟨[Sb],[Sz],(.seq .d (.cut [] [] (.seq .d (.blk (.loop [0,5,6] [] .d))) .d)),⟨[(96,F96.c)],gl,false⟩,[],f150⟩
def t4(a:LB)(b:Int):S:=⟨[(0,vb a),(5, .val (.vec 2 .str) ([([73,68,51]:LB),([65,80,69,84,65,71,69,88]:LB)]:List LB)),(6,vi b)],[],[]⟩
def z4:Nat->S->Option R_:=H.i P_ [r,l,r,d]
def x6:Option R_:=H.e P_ [r,r] ⟨[],[],[]⟩
def x4(a:LB)(b:Int):Option R_:=H.e P_ [r,l,r,d] (t4 a b)
theorem e6:x6=jC:=by kernel_rfl
theorem i4(a:LB):∀(q:Nat) (b:Int),z4 q (t4 a b)=Kq a q b:=
 ind (λ_=>by kernel_rfl) λq ih b=>Eq.trans (b:=Wu x6 (λb=>(z4 q) (t4 a b)) a b) (by kernel_rfl) (by simp only[e6,ih]<;>rfl)
theorem e4:x4=RJ:=by funext a b;exact Eq.trans (by kernel_rfl) ((i4 a Ed b).trans (by rw[Bg];rfl))
def F:=Rh
theorem rn x:H.u P_ x=F x:=Eq.trans (b:=RO x4 x) (by kernel_rfl) (by simp only[e4]<;>rfl)
def c:Con:=⟨H.p,H.r,F⟩
theorem ok:ConOk P_ gl 150 c:=co H func150 (.cons F96.ok .nil) rn
end F150
namespace F47
abbrev R_:=(Int×Int×Int×Int×Int×Int)
noncomputable def H:Hd:=⟨[Sb],[.agg [Si,Si,Si,Si,Si],Si],(.seq .d (.seq .d (.seq .d (.seq .d (.seq .d (.seq .d (.seq .d (.cut [2,8] [] (.seq .d (.blk (.loop [0,2,8,9,44,45] [] .d))) .d)))))))),⟨[(91,F91.c),(96,F96.c),(97,F97.c),(98,F98.c),(99,F99.c)],gl,false⟩,[],f47⟩
def t4(b:LB)(g f:Int)(a:LI):S:=⟨[(0,vb b),(2, .ptr 0 []),(8, .ptr 1 []),(9,vi g),(44, .val (.vec 5 (.int .i64)) ([(2:Int),(2:Int),(2:Int),(4:Int),(4:Int)]:LI)),(45,vi f)],[.box 32 (.agg [vi 0,vi 0,vi 0,vi 0,vi 0]), .box 144 (.val (.vec 5 (.int .i64)) a)],[]⟩
def z4:Nat->S->Option R_:=H.i P_ [r,r,r,r,r,r,r,l,r,d]
def x6(a:LI):Option R_:=H.e P_ [r,r,r,r,r,r,r,r] ⟨[(2, .ptr 0 []),(8, .ptr 1 [])],[.box 32 (.agg [vi 0,vi 0,vi 0,vi 0,vi 0]), .box 144 (.val (.vec 5 (.int .i64)) a)],[]⟩
def x4(b:LB)(g f:Int)(a:LI):Option R_:=H.e P_ [r,r,r,r,r,r,r,l,r,d] (t4 b g f a)
theorem e6:x6=HS:=by kernel_rfl
theorem i4(b:LB):∀(q:Nat) (g f:Int) (a:LI),z4 q (t4 b g f a)=Pq b q g f a:=
 ind (λ_ _ _=>by kernel_rfl) λq ih g f a=>Eq.trans (b:=JL x6 (λg f a=>(z4 q) (t4 b g f a)) b g f a) (by kernel_rfl) (by simp only[e6,ih]<;>rfl)
theorem e4:x4=HT:=by funext b g f a;exact Eq.trans (by kernel_rfl) ((i4 b Ed g f a).trans (by rw[Bg];rfl))
def F:=Nc
theorem rn x:H.u P_ x=F x:=Eq.trans (b:=UP x4 x) (by kernel_rfl) (by simp only[e4]<;>rfl)
def c:Con:=⟨H.p,H.r,F⟩
theorem ok:ConOk P_ gl 47 c:=co H func47 (.cons F91.ok (.cons F96.ok (.cons F97.ok (.cons F98.ok (.cons F99.ok .nil))))) rn
end F47
namespace F48
noncomputable def H:Hd:=⟨[Sb,Ss],[Sz,Si], .d,⟨[(41,F41.c),(100,F100.c)],gl,false⟩,[],f48⟩
def F:=u2 Rq
theorem rn x:H.u P_ x=F x:=by kernel_rfl
def c:Con:=⟨H.p,H.r,F⟩
theorem ok:ConOk P_ gl 48 c:=co H func48 (.cons F41.ok (.cons F100.ok .nil)) rn
end F48
namespace F50
abbrev R_:=(LI×Int)
noncomputable def H:Hd:=⟨[Sb,Si],[Ol 3,Si],(.seq .d (.seq .d (.seq .d (.seq .d (.seq .d (.seq .d (.cut [10] [] (.seq .d (.blk (.loop [0,10,48,49] [] .d))) .d))))))),⟨[(91,F91.c),(93,F93.c),(97,F97.c)],gl,false⟩,[],f50⟩
def t4(b:LB)(f:LI)(g:Int)(a:LI):S:=⟨[(0,vb b),(10, .own 0),(48,vi (Ac f)),(49,vi g)],[Ai 3 a],[]⟩
def z4:Nat->S->Option R_:=H.i P_ [r,r,r,r,r,r,l,r,d]
def x6(a:LI):Option R_:=H.e P_ [r,r,r,r,r,r,r] ⟨[(10, .own 0)],[Ai 3 a],[]⟩
def x4(b:LB)(f:LI)(g:Int)(a:LI):Option R_:=H.e P_ [r,r,r,r,r,r,l,r,d] (t4 b f g a)
theorem e6:x6=ON:=by kernel_rfl
theorem i4(b:LB)(f:LI):∀(q:Nat) (g:Int) (a:LI),z4 q (t4 b f g a)=Xg b f q g a:=
 ind (λ_ _=>by kernel_rfl) λq ih g a=>Eq.trans (b:=OG x6 (λg a=>(z4 q) (t4 b f g a)) b f g a) (by kernel_rfl) (by simp only[e6,ih]<;>rfl)
theorem e4:x4=bG:=by funext b f g a;exact Eq.trans (by kernel_rfl) ((i4 b f Ed g a).trans (by rw[Bg];rfl))
def F:=u2 EA
theorem rn x:H.u P_ x=F x:=Eq.trans (b:=u2 (bO x4) x) (by kernel_rfl) (by simp only[e4]<;>rfl)
def c:Con:=⟨H.p,H.r,F⟩
theorem ok:ConOk P_ gl 50 c:=co H func50 (.cons F91.ok (.cons F93.ok (.cons F97.ok .nil))) rn
end F50
namespace F152
noncomputable def H:Hd:=⟨[.agg [Si,Si,Si,Si,Si]],[.agg [Si,Si]], .d,⟨[],gl,false⟩,[],f152⟩
def F:=u5 CX
theorem rn x:H.u P_ x=F x:=by kernel_rfl
def c:Con:=⟨H.p,H.r,F⟩
theorem ok:ConOk P_ gl 152 c:=co H func152 .nil rn
end F152
namespace F140
noncomputable def H:Hd:=⟨[Sb],[Sb,Si], .d,⟨[(91,F91.c),(135,F135.c)],gl,false⟩,[],f140⟩
def F:=JY
theorem rn x:H.u P_ x=F x:=by kernel_rfl
def c:Con:=⟨H.p,H.r,F⟩
theorem ok:ConOk P_ gl 140 c:=co H func140 (.cons F91.ok (.cons F135.ok .nil)) rn
end F140
namespace F141
noncomputable def H:Hd:=⟨[Sb],[.agg [Ob 5,Si],Si], .d,⟨[(173,F173.c)],gl,false⟩,[],f141⟩
def F:=Aij
theorem rn x:H.u P_ x=F x:=by kernel_rfl
def c:Con:=⟨H.p,H.r,F⟩
theorem ok:ConOk P_ gl 141 c:=co H func141 (.cons F173.ok .nil) rn
end F141
namespace F176
abbrev R_:=UInt64
noncomputable def H:Hd:=⟨[.agg [Sb,Si],Si,Si],[Sq],(.seq .d (.seq .d (.cut [7] [] (.blk (.loop [1,2,3,7,8] [] .d)) .d))),⟨[],gl,false⟩,[],f176⟩
def t4(b f:Int)(h:LB)(k:Int)(g:UInt64)(a:Int):S:=⟨[(1,vi b),(2,vi f),(3, .ptr 0 []),(7,vq g),(8,vi a)],[.box 188 (.agg [vb h,vi k])],[]⟩
def z4:Nat->S->Option R_:=H.i P_ [r,r,l,d]
def x6(g:UInt64):Option R_:=H.e P_ [r,r,r] ⟨[(7,vq g)],[],[]⟩
def x4(b f:Int)(h:LB)(k:Int)(g:UInt64)(a:Int):Option R_:=H.e P_ [r,r,l,d] (t4 b f h k g a)
theorem e6:x6=yB:=by kernel_rfl
theorem i4(b f:Int)(h:LB)(k:Int):∀(q:Nat) (g:UInt64) (a:Int),z4 q (t4 b f h k g a)=QO b f h k q g a:=
 ind (λ_ _=>by kernel_rfl) λq ih g a=>Eq.trans (b:=mO x6 (λg a=>(z4 q) (t4 b f h k g a)) b f h k g a) (by kernel_rfl) (by simp only[e6,ih]<;>rfl)
theorem e4:x4=zB:=by funext b f h k g a;exact Eq.trans (by kernel_rfl) ((i4 b f h k Ed g a).trans (by rw[Bg];rfl))
def F:=u4 tN
theorem rn x:H.u P_ x=F x:=Eq.trans (b:=u4 (yM x4) x) (by kernel_rfl) (by simp only[e4]<;>rfl)
def c:Con:=⟨H.p,H.r,F⟩
theorem ok:ConOk P_ gl 176 c:=co H func176 .nil rn
end F176
namespace F174
abbrev R_:=(LB×Int×Int)
abbrev K_:=S->Option R_
noncomputable def H:Hd:=⟨[.agg [Sb,Si],Si,Si],[.agg [Ob 5,Si],Si],(.seq .d (.seq .d (.seq .d (.seq .d (.cut [6,8] [] (.seq .d (.blk (.loop [2,3,6,8,9] [⟨8,[0], .own 5 (.int .u8)⟩] (.seq .d (.cut [2,3,6,8,9] [] (.blk (.seq .d (.keep [2,3,6,8,9,10,39,40,41,42,43] true))) .d))))) .d))))),⟨[(161,F161.c),(176,F176.c)],gl,false⟩,[(191,(.blk (.loop [0,1,2] [] (.seq .d (.blk (.cut [0,1,2] [] .d (.seq .d (.cut [0,1,2,7] [] .d .d))))))))],f174⟩
def t44(a:Int)(g:LB)(f b:Int)(k n:UInt64)(m h:Int)(u:LB):S:=⟨[(0, .ptr 0 []),(1,vq n),(2,vi m)],[.box 188 (.agg [.own 3,vi h]), .box 188 (.agg [vb g,vi f]), .box 188 (.agg [.nils,vi 0]),Ab 5 u],[[(2,vi a),(3, .ptr 1 []),(6, .ptr 2 []),(8, .ptr 0 []),(9,vi b),(10,vi (Fe (64:Int) (Am a b))),(39, .agg [vb g,vi f]),(40,vi b),(41,vi (Fe (64:Int) (Am a b))),(42,vq k),(43,vi (Fe (64:Int) (Am a b)))]]⟩
def z44(Mr:K_):Nat->S->Option R_:=H.i P_ [r,r,r,r,l,r,d,(lp Mr),r,l,d,r,(call 5 191),d]
def t27(a:Int)(g:LB)(f b o:Int)(p:LB):S:=⟨[(2,vi a),(3, .ptr 0 []),(6, .ptr 1 []),(8, .ptr 2 []),(9,vi b)],[.box 188 (.agg [vb g,vi f]), .box 188 (.agg [.nils,vi 0]), .box 188 (.agg [.own 3,vi o]),Ab 5 p],[]⟩
def z27:Nat->S->Option R_:=H.i P_ [r,r,r,r,l,r,d]
def x52(o:Int)(p:LB):Option R_:=H.e P_ [r,r,r,r,r] ⟨[(6, .ptr 0 []),(8, .ptr 1 [])],[.box 188 (.agg [.nils,vi 0]), .box 188 (.agg [.own 2,vi o]),Ab 5 p],[]⟩
def x50(Mr:K_)(a:Int)(g:LB)(f b h:Int)(u:LB):Option R_:=H.e P_ [r,r,r,r,l,r,d,(lp Mr),r,r] ⟨[(2,vi a),(3, .ptr 0 []),(6, .ptr 1 []),(8, .ptr 2 []),(9,vi b)],[.box 188 (.agg [vb g,vi f]), .box 188 (.agg [.nils,vi 0]), .box 188 (.agg [.own 3,vi h]),Ab 5 u],[]⟩
def x48(Mr cE:K_)(a b:Int)(g:LB)(f:Int)(k n:UInt64)(m h:Int)(w:LB):Option R_:=H.e P_ [r,r,r,r,l,r,d,(lp Mr),r,l,d,r,(call 5 191),d,(lp cE),r,d,r,r,r] ⟨[(0, .ptr 0 []),(1,vq n),(2,vi m),(7,vi (Fe m (Am (8:Int) (Ev h (7:Int)))))],[.box 188 (.agg [.own 3,vi h]), .box 188 (.agg [vb g,vi f]), .box 188 (.agg [.nils,vi 0]),Ab 5 w],[[(2,vi a),(3, .ptr 1 []),(6, .ptr 2 []),(8, .ptr 0 []),(9,vi b),(10,vi (Fe (64:Int) (Am a b))),(39, .agg [vb g,vi f]),(40,vi b),(41,vi (Fe (64:Int) (Am a b))),(42,vq k),(43,vi (Fe (64:Int) (Am a b)))]]⟩
def x47(Mr cE:K_)(a b:Int)(g:LB)(f:Int)(k n:UInt64)(m h:Int)(v:LB):Option R_:=H.e P_ [r,r,r,r,l,r,d,(lp Mr),r,l,d,r,(call 5 191),d,(lp cE),r,d,r] ⟨[(0, .ptr 0 []),(1,vq n),(2,vi m)],[.box 188 (.agg [.own 3,vi h]), .box 188 (.agg [vb g,vi f]), .box 188 (.agg [.nils,vi 0]),Ab 5 v],[[(2,vi a),(3, .ptr 1 []),(6, .ptr 2 []),(8, .ptr 0 []),(9,vi b),(10,vi (Fe (64:Int) (Am a b))),(39, .agg [vb g,vi f]),(40,vi b),(41,vi (Fe (64:Int) (Am a b))),(42,vq k),(43,vi (Fe (64:Int) (Am a b)))]]⟩
def x44(Mr:K_)(a:Int)(g:LB)(f b:Int)(k n:UInt64)(m h:Int)(u:LB):Option R_:=H.e P_ [r,r,r,r,l,r,d,(lp Mr),r,l,d,r,(call 5 191),d] (t44 a g f b k n m h u)
def x27(a:Int)(g:LB)(f b o:Int)(p:LB):Option R_:=H.e P_ [r,r,r,r,l,r,d] (t27 a g f b o p)
theorem e52:x52=fG:=by kernel_rfl
theorem e50(Mr:K_)(a:Int)(g:LB)(f:Int):x50 Mr a g f=TW (λb o p=>Mr (t27 a g f b o p)) a g f:=by kernel_rfl
theorem e48(Mr cE:K_)(a:Int)(g:LB)(f b:Int)(k:UInt64):x48 Mr cE a b g f k=gI (λn m h u=>cE (t44 a g f b k n m h u)) a b g f k:=by kernel_rfl
theorem e47(Mr cE:K_)(a:Int)(g:LB)(f b:Int)(k:UInt64):x47 Mr cE a b g f k=TM (λn m h u=>cE (t44 a g f b k n m h u)) a b g f k:=Eq.trans (b:=hH (x48 Mr cE a b g f k) a b g f k) (by kernel_rfl) (by simp only[e48]<;>rfl)
theorem i44(Mr:K_)(a:Int)(g:LB)(f b:Int)(k:UInt64):∀(q:Nat) (n:UInt64) (m h:Int) (u:LB),z44 Mr q (t44 a g f b k n m h u)=Rp (λb o p=>Mr (t27 a g f b o p)) a g f b k q n m h u:=
 ind (λ_ _ _ _=>by kernel_rfl) λq ih n m h u=>Eq.trans (b:=TU (x47 Mr (z44 Mr q) a b g f k) (x50 Mr a g f) a g f b k n m h u) (by kernel_rfl) (by simp only[e47,e50,ih]<;>rfl)
theorem e44(Mr:K_)(a:Int)(g:LB)(f:Int):x44 Mr a g f=gT (λb o p=>Mr (t27 a g f b o p)) a g f:=by funext b k n m h u;exact Eq.trans (by kernel_rfl) ((i44 Mr a g f b k Ed n m h u).trans (by rw[Bg];rfl))
theorem i27(a:Int)(g:LB)(f:Int):∀(q:Nat) (b o:Int) (p:LB),z27 q (t27 a g f b o p)=AZ a g f q b o p:=
 ind (λ_ _ _=>by kernel_rfl) λq ih b o p=>Eq.trans (b:=fY (x44 (z27 q) a g f) x52 a g f b o p) (by kernel_rfl) (by simp only[e44,e52,ih]<;>rfl)
theorem e27:x27=eZ:=by funext a g f b o p;exact Eq.trans (by kernel_rfl) ((i27 a g f Ed b o p).trans (by rw[Bg];rfl))
def F:=u4 lO
theorem rn x:H.u P_ x=F x:=Eq.trans (b:=u4 (lD x27) x) (by kernel_rfl) (by simp only[e27]<;>rfl)
def c:Con:=⟨H.p,H.r,F⟩
theorem ok:ConOk P_ gl 174 c:=cr H func174 (.cons F161.ok (.cons F176.ok .nil)) (Ft.cons ent191 Ft.nil) rn
end F174
namespace F143
noncomputable def H:Hd:=⟨[.agg [Sb,Si],Si,Si],[Sq,Si], .d,⟨[(161,F161.c),(176,F176.c)],gl,false⟩,[],f143⟩
def F:=u4 HN
theorem rn x:H.u P_ x=F x:=by kernel_rfl
def c:Con:=⟨H.p,H.r,F⟩
theorem ok:ConOk P_ gl 143 c:=co H func143 (.cons F161.ok (.cons F176.ok .nil)) rn
end F143
namespace F214
noncomputable def H:Hd:=⟨[Sq],[Si], .d,⟨[],gl,false⟩,[],f214⟩
def F:=Ia
theorem rn x:H.u P_ x=F x:=by kernel_rfl
def c:Con:=⟨H.p,H.r,F⟩
theorem ok:ConOk P_ gl 214 c:=co H func214 .nil rn
end F214
namespace F209
def YI(j6:Int->UInt64->Int->LB->Int->Option (Int×Int×Int))(g:LB)(b a:Int):Option (Int×Int×Int):=
(Kg g b).bind λm=>
if(Bi m 0)then
some (0,0,m)
else
if(Cr a 0)then
some (0,0,2)
else
if(Om a b)then
some (0,0,24)
else
(λn:Option (Int×Int×Int)=>
(λo:Option (Int×Int×Int)=>
bo2 (
o)) (
bo (
n))) (
(HN g b a (Fe 48 (Am b a))).bind λ(k,h)=>
j6 h k a g b)
theorem vK: @YI= @CZ:=by
  unfold YI CZ;simp only[WX,DX,DY]
abbrev R_:=(Int×Int×Int)
noncomputable def H:Hd:=⟨[.agg [Sb,Si],Si],[Si,Si,Si],(.seq .d (.seq .d (.seq .d (.seq .d (.seq .d (.cut [3,5,6,8,9] [] (.keep [2,3,5,6,8,9,22,23,24,25,26,27,28,29] false) (.seq .d (.seq .d (.cut [] [] (.blk (.seq (.blk (.seq (.blk (.cut [] [] (.cut [3,4,5] [] (.cut [3,4,5,36] [] (.keep [3,4,5,8,36,37,38,39,40] true) .d) .d) .d)) .d)) .d)) .d))))))))),⟨[(143,F143.c),(161,F161.c),(214,F214.c)],gl,false⟩,[(213, .d)],f209⟩
def x10:Option R_:=H.e P_ [r,r,r,r,r,r,r,r,r] ⟨[],[],[]⟩
def x9:Option R_:=H.e P_ [r,r,r,r,r,r,r,r,l,d,l,d,l,d,r] ⟨[],[],[]⟩
def x8(f a:Int):Option R_:=H.e P_ [r,r,r,r,r,r,r,r,l,d,l,d,l,d,l,r] ⟨[(3, .ptr 0 []),(4,vi f),(5,vi 0)],[.box 3 (vi a)],[]⟩
def x7(f b a:Int):Option R_:=H.e P_ [r,r,r,r,r,r,r,r,l,d,l,d,l,d,l,l,r] ⟨[(3, .ptr 0 []),(4,vi f),(5,vi 0),(36,vt (Cr f (Fe (48:Int) (Am b a))))],[.box 3 (vi a)],[]⟩
def x6(h:Int)(k:UInt64)(a:Int)(g:LB)(b:Int):Option R_:=H.e P_ [r,r,r,r,r,r] ⟨[(3, .ptr 0 []),(5,vi 0),(6,vi h),(8, .fn 213 [.ptr 1 [], .ptr 0 []]),(9,vq k)],[.box 3 (vi a), .box 188 (.agg [vb g,vi b])],[]⟩
theorem e10:x10=mB:=by kernel_rfl
theorem e9:x9=qF:=Eq.trans (b:=qC x10) (by kernel_rfl) (by simp only[e10]<;>rfl)
theorem e8:x8=bN:=Eq.trans (b:=bU x9) (by kernel_rfl) (by simp only[e9]<;>rfl)
theorem e7:x7=aM:=Eq.trans (b:=bF x8) (by kernel_rfl) (by simp only[e8]<;>rfl)
theorem e6:x6=bX:=Eq.trans (b:=aL x7) (by kernel_rfl) (by simp only[e7]<;>rfl)
def F:=u3 NH
theorem rn x:H.u P_ x=F x:=Eq.trans (b:=u3 (YI x6) x) (by kernel_rfl) (by unfold F;rw[vK];simp only[e6]<;>rfl)
def c:Con:=⟨H.p,H.r,F⟩
theorem ok:ConOk P_ gl 209 c:=cr H func209 (.cons F143.ok (.cons F161.ok (.cons F214.ok .nil))) (Ft.cons ent213 Ft.nil) rn
end F209
namespace F200
abbrev R_:=(UInt32×Int×Int)
noncomputable def H:Hd:=⟨[.agg [Sb,Si],Si,Si],[Su,Si,Si],(.seq .d (.seq .d (.seq .d (.seq .d (.seq .d (.seq .d (.cut [2,3,7,10,11] [] .d .d))))))),⟨[(143,F143.c),(161,F161.c),(192,F192.c),(209,F209.c)],gl,false⟩,[],f200⟩
def x2(a b f:Int)(g:LB)(h k:Int):Option R_:=H.e P_ [r,r,r,r,r,r,r] ⟨[(2,vi a),(3, .ptr 0 []),(7,vi b),(10,vi f),(11,vi k)],[.box 188 (.agg [vb g,vi h])],[]⟩
theorem e2:x2=UB:=by kernel_rfl
def F:=u4 oZ
theorem rn x:H.u P_ x=F x:=Eq.trans (b:=u4 (iE x2) x) (by kernel_rfl) (by simp only[e2]<;>rfl)
def c:Con:=⟨H.p,H.r,F⟩
theorem ok:ConOk P_ gl 200 c:=co H func200 (.cons F143.ok (.cons F161.ok (.cons F192.ok (.cons F209.ok .nil)))) rn
end F200
namespace F175
abbrev R_:=(UInt32×Int×Int×Int×UInt64×UInt64×Int)
noncomputable def H:Hd:=⟨[.agg [Sb,Si],Si, .agg [Si,Si,Sq,Sq]],[Su,Si, .agg [Si,Si,Sq,Sq],Si],(.seq .d (.cut [1,3,5,8] [] .d (.seq .d (.seq .d (.cut [5,6,7,8] [] .d (.cut [5,6,7,8] [] (.keep [5,6,7,8,81] true) .d)))))),⟨[(143,F143.c),(161,F161.c),(162,F162.c),(163,F163.c),(200,F200.c)],gl,false⟩,[(166,(.seq .d (.seq .d (.seq .d (.blk (.cut [0,1,4] [] (.blk (.seq .d (.keep [0,1,4,6,18,19,20,21,22,23,24,25] true))) (.cut [] [] (.keep [0,1,4,27,28,29,30,31,32,33,34] true) .d))))))),(194, .d)],f175⟩
def x10(f:UInt32)(k w m:Int)(a n:UInt64):Option R_:=H.e P_ [r,r,r,r,r,r] ⟨[(5, .ptr 0 []),(6,vu f),(7,vi k),(8, .ptr 1 [])],[.box 184 (.agg [vi w,vi m,vq (Ad a (Am (Af f:UInt64) (Ck a (GI.toZ (4:UInt64)).toNat))),vq n]), .box 184 (.agg [vi 0,vi 0,vq 0,vq 0])],[]⟩
def x9(f:UInt32)(k m:Int)(a n:UInt64)(w:Int):Option R_:=H.e P_ [r,r,r,r,r,l,(call 1 166),r,r,r,d,r,r] ⟨[],[.box 184 (.agg [vi w,vi m,vq (Ad a (Am (Af f:UInt64) (Ck a (GI.toZ (4:UInt64)).toNat))),vq n]), .box 184 (.agg [vi 0,vi 0,vq 0,vq 0])],[[(5, .ptr 0 []),(6,vu f),(7,vi k),(8, .ptr 1 []),(81,vu f)]]⟩
def x8(f:UInt32)(k b:Int)(a:UInt64)(m:Int)(n:UInt64):Option R_:=H.e P_ [r,r,r,r,r,l,(call 1 166),r,r,r,d,r] ⟨[(0, .ptr 0 []),(1,vu f),(4, .fn 194 [])],[.box 184 (.agg [vi b,vi m,vq a,vq n]), .box 184 (.agg [vi 0,vi 0,vq 0,vq 0])],[[(5, .ptr 0 []),(6,vu f),(7,vi k),(8, .ptr 1 []),(81,vu f)]]⟩
def x7(b h:Int)(a g:UInt64)(f:UInt32)(k:Int):Option R_:=H.e P_ [r,r,r,r,r] ⟨[(5, .ptr 0 []),(6,vu f),(7,vi k),(8, .ptr 1 [])],[.box 184 (.agg [vi b,vi h,vq a,vq g]), .box 184 (.agg [vi 0,vi 0,vq 0,vq 0])],[]⟩
def x6(p:Int)(u:LB)(v b h:Int)(a g:UInt64):Option R_:=H.e P_ [r,r] ⟨[(1,vi p),(3, .ptr 0 []),(5, .ptr 1 []),(8, .ptr 2 [])],[.box 188 (.agg [vb u,vi v]), .box 184 (.agg [vi b,vi h,vq a,vq g]), .box 184 (.agg [vi 0,vi 0,vq 0,vq 0])],[]⟩
theorem e10:x10=aU:=by kernel_rfl
theorem e9:x9=gQ:=Eq.trans (b:=fF x10) (by kernel_rfl) (by simp only[e10]<;>rfl)
theorem e8:x8=JB:=Eq.trans (b:=eU x9) (by kernel_rfl) (by simp only[e9]<;>rfl)
theorem e7:x7=TQ:=Eq.trans (b:=fJ x8) (by kernel_rfl) (by simp only[e8]<;>rfl)
theorem e6:x6=gB:=Eq.trans (b:=iI x7) (by kernel_rfl) (by simp only[e7]<;>rfl)
def F:=u7 NS
theorem rn x:H.u P_ x=F x:=Eq.trans (b:=u7 (gW x6) x) (by kernel_rfl) (by simp only[e6]<;>rfl)
def c:Con:=⟨H.p,H.r,F⟩
theorem ok:ConOk P_ gl 175 c:=cr H func175 (.cons F143.ok (.cons F161.ok (.cons F162.ok (.cons F163.ok (.cons F200.ok .nil))))) (Ft.cons ent166 (Ft.cons ent194 Ft.nil)) rn
end F175
namespace F142
def CD(j21:Int->Int->Int->UInt32->Int-> (List (Int×Int×UInt64×UInt64×Unit))->LU->Int->Int->UInt64->UInt64->Option (LU×Int×Int))(j24:Int->LU->Option (LU×Int×Int))(a f:Int)(g:LB)(b k h:Int)(n:List (Int×Int×UInt64×UInt64×Unit))(m:LU):Option (LU×Int×Int):=
if(Cr h (Bn f a))then
(lO g b k (Fe (Ad k 81) b)).bind λ(ah,ae,af)=>
if(Bi af 0)then
some (([]:LU),0,af)
else
(Le (Bi a 0)).bind λ_=>
(Ap n (Ic h a)).bind λ_=>
(λai:Option (LU×Int×Int)=>
both (
both (
(Ap n (Ic h a)).bind λp=>
(λao:Option (LU×Int×Int)=>
bo (
ao)) (
(NS ah ae 0 p.1 p.2.1 p.2.2.1 p.2.2.2.1).bind λ(w,v,aa,ab,ac,ad,y)=>
j21 k h y w v n m aa ab ac ad)) [
ai]) [
(Ap n (Ic h a)).bind λp=>
(λaj:Option (LU×Int×Int)=>
both (
bo (
aj)) [
aj]) (
(NS ah ae 0 p.1 p.2.1 p.2.2.1 p.2.2.2.1).bind λ(w,v,aa,ab,ac,ad,y)=>
j21 k h y w v n m aa ab ac ad),
bo (
ai)]) (
(Ap n (Ic h a)).bind λp=>
(NS ah ae 0 p.1 p.2.1 p.2.2.1 p.2.2.2.1).bind λ(w,v,aa,ab,ac,ad,y)=>
j21 k h y w v n m aa ab ac ad)
else
j24 k m
theorem eY: @CD= @Vm:=by
  unfold CD Vm
  try simp only[WX,DX,DY]
  all_goals
    repeat (refine funext λ_=>?_)
    repeat' first
      |with_reducible rfl
      |with_reducible refine Nb ?_ ?_
      |with_reducible refine Nh ?_ ?_ ?_
      |with_reducible refine Mz ?_ ?_ ?_ ?_
      |((with_reducible refine Rr ?_ ?_);focus (intro h;first|(subst h;rfl)|(simp only[h];rfl)|(simp[Dy,Ac,h];done)))
      |with_reducible refine Rt λx=>?_
      |with_reducible refine AP (λ_=>?_) (λ_=>?_)
      |(refine Hc (λh=>by simp only[h,Rv,Em,Eb,ite_self]) (λx h=>?_);(try simp only[h,Em]))
      |(refine Jf (λh=>?_) (λh=>?_)<;>simp only[h,if_true,if_false,Bool.false_eq_true])
abbrev R_:=(LU×Int×Int)
abbrev K_:=S->Option R_
noncomputable def H:Hd:=⟨[Si,Si, .agg [Sb,Si]],[Ov 60,Si,Si],(.seq .d (.seq .d (.cut [0,1,5,9] [] (.seq .d (.blk (.loop [0,1,5,9,19] [] .d))) (.seq .d (.seq .d (.cut [11,12] [] (.seq .d (.blk (.loop [0,5,9,11,12,28,29] [⟨11,[], .own 60 (.int .u32)⟩] (.seq .d (.seq .d (.seq (.blk (.seq .d (.seq .d (.seq .d (.cut [0,5,9,11,12,13,15,16,17,18,28,29] [] (.mode false) (.seq .d (.cut [0,5,9,11,12,16,28,29] [] .d .d))))))) .d)))))) .d)))))),⟨[(160,F160.c),(174,F174.c),(175,F175.c)],gl,false⟩,[],f142⟩
def t16(a f:Int)(g:LB)(b k h:Int)(n:List (Int×Int×UInt64×UInt64×Unit))(m:LU):S:=⟨[(0,vi a),(5, .ptr 0 []),(9, .ptr 1 []),(11, .own 2),(12,vi k),(28,vi (Bn f a)),(29,vi h)],[.box 188 (.agg [vb g,vi b]), .box 185 (.val (.vec 6 (.cons (.int .i64) (.cons (.int .i64) (.cons (.int .u64) (.cons (.int .u64) .nil))))) n),Av 60 m],[]⟩
def z16:Nat->S->Option R_:=H.i P_ [r,r,r,r,r,l,r,d]
def t13(a f:Int)(g:LB)(b u:Int)(o:List (Int×Int×UInt64×UInt64×Unit)):S:=⟨[(0,vi a),(1,vi f),(5, .ptr 0 []),(9, .ptr 1 []),(19,vi u)],[.box 188 (.agg [vb g,vi b]), .box 185 (.val (.vec 6 (.cons (.int .i64) (.cons (.int .i64) (.cons (.int .u64) (.cons (.int .u64) .nil))))) o)],[]⟩
def z13:Nat->S->Option R_:=H.i P_ [r,r,l,r,d]
def x24(k:Int)(m:LU):Option R_:=H.e P_ [r,r,r,r,r,r] ⟨[(11, .own 0),(12,vi k)],[Av 60 m],[]⟩
def x22(Fa:K_)(a f:Int)(g:LB)(b k v:Int)(w:UInt32)(h:Int)(ag:List (Int×Int×UInt64×UInt64×Unit))(m:LU):Option R_:=H.e P_ [r,r,r,r,r,l,r,d,(lp Fa),r,r,l,d,r,r,r,r,r,r] ⟨[(0,vi a),(5, .ptr 0 []),(9, .ptr 1 []),(11, .own 2),(12,vi (Ad k v)),(16,vu w),(28,vi (Bn f a)),(29,vi h)],[.box 188 (.agg [vb g,vi b]), .box 185 (.val (.vec 6 (.cons (.int .i64) (.cons (.int .i64) (.cons (.int .u64) (.cons (.int .u64) .nil))))) ag),Av 60 m],[]⟩
def x21(Fa:K_)(a f:Int)(g:LB)(b k h y:Int)(w:UInt32)(v:Int)(n:List (Int×Int×UInt64×UInt64×Unit))(m:LU)(aa ab:Int)(ac ad:UInt64):Option R_:=H.e P_ [r,r,r,r,r,l,r,d,(lp Fa),r,r,l,d,r,r,r,r] ⟨[(0,vi a),(5, .ptr 0 []),(9, .ptr 1 []),(11, .own 2),(12,vi k),(13,vi h),(15,vi y),(16,vu w),(17,vi v),(18, .ptr 3 []),(28,vi (Bn f a)),(29,vi h)],[.box 188 (.agg [vb g,vi b]), .box 185 (.val (.vec 6 (.cons (.int .i64) (.cons (.int .i64) (.cons (.int .u64) (.cons (.int .u64) .nil))))) n),Av 60 m, .box 184 (.agg [vi aa,vi ab,vq ac,vq ad])],[]⟩
def x16(a f:Int)(g:LB)(b k h:Int)(n:List (Int×Int×UInt64×UInt64×Unit))(m:LU):Option R_:=H.e P_ [r,r,r,r,r,l,r,d] (t16 a f g b k h n m)
def x15(a f:Int)(g:LB)(b:Int)(o:List (Int×Int×UInt64×UInt64×Unit)):Option R_:=H.e P_ [r,r,r] ⟨[(0,vi a),(1,vi f),(5, .ptr 0 []),(9, .ptr 1 [])],[.box 188 (.agg [vb g,vi b]), .box 185 (.val (.vec 6 (.cons (.int .i64) (.cons (.int .i64) (.cons (.int .u64) (.cons (.int .u64) .nil))))) o)],[]⟩
def x13(a f:Int)(g:LB)(b u:Int)(o:List (Int×Int×UInt64×UInt64×Unit)):Option R_:=H.e P_ [r,r,l,r,d] (t13 a f g b u o)
theorem e24:x24=US:=by kernel_rfl
theorem e22(Fa:K_)(a f:Int)(g:LB)(b:Int):x22 Fa a f g b=DT (λk h n m=>Fa (t16 a f g b k h n m)) a f g b:=by kernel_rfl
theorem e21(Fa:K_)(a f:Int)(g:LB)(b:Int):x21 Fa a f g b=Wg (λk h n m=>Fa (t16 a f g b k h n m)) a f g b:=Eq.trans (b:=Wk (x22 Fa a f g b) a f g b) (by kernel_rfl) (by simp only[e22]<;>rfl)
theorem i16(a f:Int)(g:LB)(b:Int):∀(q:Nat) (k h:Int) (n:List (Int×Int×UInt64×UInt64×Unit)) (m:LU),z16 q (t16 a f g b k h n m)=Py a f g b q k h n m:=
 ind (λ_ _ _ _=>by kernel_rfl) λq ih k h n m=>Eq.trans (b:=CD (x21 (z16 q) a f g b) x24 a f g b k h n m) (by kernel_rfl) (by rw[eY];simp only[e21,e24,ih]<;>rfl)
theorem e16:x16=UW:=by funext a f g b k h n m;exact Eq.trans (by kernel_rfl) ((i16 a f g b Ed k h n m).trans (by rw[Bg];rfl))
theorem e15:x15=DZ:=Eq.trans (b:=VV x16) (by kernel_rfl) (by simp only[e16]<;>rfl)
theorem i13(a f:Int)(g:LB)(b:Int):∀(q:Nat) (u:Int) (o:List (Int×Int×UInt64×UInt64×Unit)),z13 q (t13 a f g b u o)=EK a f g b q u o:=
 ind (λ_ _=>by kernel_rfl) λq ih u o=>Eq.trans (b:=WE x15 (λu o=>(z13 q) (t13 a f g b u o)) a f g b u o) (by kernel_rfl) (by simp only[e15,ih]<;>rfl)
theorem e13:x13=Wh:=by funext a f g b u o;exact Eq.trans (by kernel_rfl) ((i13 a f g b Ed u o).trans (by rw[Bg];rfl))
def F:=u4 JV
theorem rn x:H.u P_ x=F x:=Eq.trans (b:=u4 (JO x13) x) (by kernel_rfl) (by simp only[e13]<;>rfl)
def c:Con:=⟨H.p,H.r,F⟩
theorem ok:ConOk P_ gl 142 c:=co H func142 (.cons F160.ok (.cons F174.ok (.cons F175.ok .nil))) rn
end F142
namespace F178
noncomputable def H:Hd:=⟨[Su],[Sx], .d,⟨[],gl,false⟩,[],f178⟩
def F:=BC
theorem rn x:H.u P_ x=F x:=by kernel_rfl
def c:Con:=⟨H.p,H.r,F⟩
theorem ok:ConOk P_ gl 178 c:=co H func178 .nil rn
end F178
namespace F201
noncomputable def H:Hd:=⟨[.agg [Si, .lf (.vec 16 (.int .i32)) none, .lf (.vec 16 (.int .i32)) none],Sx],[Sx, .agg [Si, .lf (.vec 16 (.int .i32)) none, .lf (.vec 16 (.int .i32)) none],Si], .d,⟨[(206,F206.c),(207,F207.c)],gl,false⟩,[],f201⟩
def F:=u4 lC
theorem rn x:H.u P_ x=F x:=by kernel_rfl
def c:Con:=⟨H.p,H.r,F⟩
theorem ok:ConOk P_ gl 201 c:=co H func201 (.cons F206.ok (.cons F207.ok .nil)) rn
end F201
namespace F177
def UM(a:Int)(b:Int32)(f:Int)(g h:LX)(o:Int32):Option (Int32×Int×Int32×Int×LX×LX×Int):=
(Zw a b f g h).bind λk=>
if(Bi k 0)then
some (0,0,0,0,(List.replicate 16 (0:Int32)),(List.replicate 16 (0:Int32)),k)
else
(Zv a b).bind λ(m,y)=>
(lC f g h o).bind λ(n,p,u,v,w)=>
(λaa:Option (Int32×Int×Int32×Int×LX×LX×Int)=>
bo (
aa)) (
some ((Ad n m),a,(Ad n m),p,u,v,w))
theorem uF: @UM= @Nu:=by
  unfold UM Nu;simp only[WX,DX,DY]
noncomputable def H:Hd:=⟨[.agg [Si,Sx, .agg [Si, .lf (.vec 16 (.int .i32)) none, .lf (.vec 16 (.int .i32)) none]],Sx],[Sx, .agg [Si,Sx, .agg [Si, .lf (.vec 16 (.int .i32)) none, .lf (.vec 16 (.int .i32)) none]],Si],(.seq .d (.seq .d (.seq .d (.seq .d (.seq (.mode false) .d))))),⟨[(187,F187.c),(188,F188.c),(201,F201.c)],gl,false⟩,[],f177⟩
def F:=u6 Nu
theorem rn x:H.u P_ x=F x:=Eq.trans (b:=u6 UM x) (by kernel_rfl) (by rw[uF];rfl)
def c:Con:=⟨H.p,H.r,F⟩
theorem ok:ConOk P_ gl 177 c:=co H func177 (.cons F187.ok (.cons F188.ok (.cons F201.ok .nil))) rn
end F177
namespace F179
abbrev R_:=(LX×Int)
abbrev K_:=S->Option R_
noncomputable def H:Hd:=⟨[Si,Sw],[Ow 21,Si],(.seq .d (.seq .d (.seq .d (.cut [7] [] (.seq .d (.blk (.loop [0,7,8] [] (.seq .d (.cut [0,7,8] [] (.blk (.keep [0,7,8,24,25,26,27,28,29] true)) .d))))) .d)))),⟨[(183,F183.c),(184,F184.c)],gl,true⟩,[(202,(.seq .d (.cut [0,2] [] .d (.seq .d (.blk (.loop [0,3] [] .d))))))],f179⟩
def t18(b a g:Int)(h:LX):S:=⟨[(0, .view true 0 [] (.int .i32) a ((Ad a b)-a)),(3,vi g)],[Aw 21 h],[[(0,vi b),(7, .own 0),(8,vi a),(24, .own 0),(25,vi a),(26,vi a),(27,vi b),(28,vi (Ad a b)),(29, .view true 0 [] (.int .i32) a ((Ad a b)-a))]]⟩
def z18(Qh:K_):Nat->S->Option R_:=H.i P_ [r,r,r,l,r,d,(lp Qh),r,l,d,(call 6 202),r,r,r,d]
def t12(b a:Int)(f:LX):S:=⟨[(0,vi b),(7, .own 0),(8,vi a)],[Aw 21 f],[]⟩
def z12:Nat->S->Option R_:=H.i P_ [r,r,r,l,r,d]
def x22(f:LX):Option R_:=H.e P_ [r,r,r,r] ⟨[(7, .own 0)],[Aw 21 f],[]⟩
def x20(Qh:K_)(b a:Int)(h:LX):Option R_:=H.e P_ [r,r,r,l,r,d,(lp Qh),r,r] ⟨[(0,vi b),(7, .own 0),(8,vi a)],[Aw 21 h],[]⟩
def x18(Qh:K_)(b a g:Int)(h:LX):Option R_:=H.e P_ [r,r,r,l,r,d,(lp Qh),r,l,d,(call 6 202),r,r,r,d] (t18 b a g h)
def x17(Qh:K_)(b a:Int)(k:LX):Option R_:=H.e P_ [r,r,r,l,r,d,(lp Qh),r,l,d,(call 6 202),r,r] ⟨[(0, .view true 0 [] (.int .i32) a ((Ad a b)-a)),(2,vi (Am ((Ad a b)-a) (1:Int)))],[Aw 21 k],[[(0,vi b),(7, .own 0),(8,vi a),(24, .own 0),(25,vi a),(26,vi a),(27,vi b),(28,vi (Ad a b)),(29, .view true 0 [] (.int .i32) a ((Ad a b)-a))]]⟩
def x12(b a:Int)(f:LX):Option R_:=H.e P_ [r,r,r,l,r,d] (t12 b a f)
theorem e22:x22=tP:=by kernel_rfl
theorem e20(Qh:K_)(b:Int):x20 Qh b=fS (λa f=>Qh (t12 b a f)) b:=by kernel_rfl
theorem i18(Qh:K_)(b a:Int):∀(q:Nat) (g:Int) (h:LX),z18 Qh q (t18 b a g h)=AS (λa f=>Qh (t12 b a f)) b a q g h:=
 ind (λ_ _=>by kernel_rfl) λq ih g h=>Eq.trans (b:=TT (x20 Qh b) (λg h=>(z18 Qh q) (t18 b a g h)) b a g h) (by kernel_rfl) (by simp only[e20,ih]<;>rfl)
theorem e18(Qh:K_)(b:Int):x18 Qh b=gC (λa f=>Qh (t12 b a f)) b:=by funext a g h;exact Eq.trans (by kernel_rfl) ((i18 Qh b a Ed g h).trans (by rw[Bg];rfl))
theorem e17(Qh:K_)(b:Int):x17 Qh b=TS (λa f=>Qh (t12 b a f)) b:=Eq.trans (b:=iJ (x18 Qh b) b) (by kernel_rfl) (by simp only[e18]<;>rfl)
theorem i12(b:Int):∀(q:Nat) (a:Int) (f:LX),z12 q (t12 b a f)=Wa b q a f:=
 ind (λ_ _=>by kernel_rfl) λq ih a f=>Eq.trans (b:=fT (x17 (z12 q) b) x22 b a f) (by kernel_rfl) (by simp only[e17,e22,ih]<;>rfl)
theorem e12:x12=fV:=by funext b a f;exact Eq.trans (by kernel_rfl) ((i12 b Ed a f).trans (by rw[Bg];rfl))
def F:=u2 uB
theorem rn x:H.u P_ x=F x:=Eq.trans (b:=u2 (oD x12) x) (by kernel_rfl) (by simp only[e12]<;>rfl)
def c:Con:=⟨H.p,H.r,F⟩
theorem ok:ConOk P_ gl 179 c:=cr H func179 (.cons F183.ok (.cons F184.ok .nil)) (Ft.cons ent202 Ft.nil) rn
end F179
namespace F144
def Zq(j16:Int->Int32->Int-> (List (Int×Int32×(Int×LX×LX×Unit)×Unit))->LX->Int->Int32->Int->LX->LX->Option (LX×Int))(j18:Int->Int->LX->Option (LX×Int))(f:LU)(a b g:Int)(h:List (Int×Int32×(Int×LX×LX×Unit)×Unit))(k:LX):Option (LX×Int):=
if(Cr g (Ac f))then
(Ap f g).bind λag=>
(Le (Bi a 0)).bind λ_=>
(Ap h (Ic g a)).bind λ_=>
both (
(Ap h (Ic g a)).bind λm=>
both (
(BC ag).bind λae=>
(λao:Option (LX×Int)=>
bo (
ao)) (
(Nu m.1 m.2.1 m.2.2.1.1 m.2.2.1.2.1 m.2.2.1.2.2.1 ae).bind λ(w,y,v,aa,ab,ac,u)=>
j16 g w u h k y v aa ab ac)) [
(BC ag).bind λae=>
(Nu m.1 m.2.1 m.2.2.1.1 m.2.2.1.2.1 m.2.2.1.2.2.1 ae).bind λ(w,y,v,aa,ab,ac,u)=>
j16 g w u h k y v aa ab ac]) [
(BC ag).bind λaf=>
both (
(Ap h (Ic g a)).bind λad=>
(λap:Option (LX×Int)=>
bo (
ap)) (
(Nu ad.1 ad.2.1 ad.2.2.1.1 ad.2.2.1.2.1 ad.2.2.1.2.2.1 af).bind λ(w,y,v,aa,ab,ac,u)=>
j16 g w u h k y v aa ab ac)) [
(Ap h (Ic g a)).bind λad=>
(Nu ad.1 ad.2.1 ad.2.2.1.1 ad.2.2.1.2.1 ad.2.2.1.2.2.1 af).bind λ(w,y,v,aa,ab,ac,u)=>
j16 g w u h k y v aa ab ac],
both (
(Ap h (Ic g a)).bind λm=>
(BC ag).bind λae=>
(Nu m.1 m.2.1 m.2.2.1.1 m.2.2.1.2.1 m.2.2.1.2.2.1 ae).bind λ(w,y,v,aa,ab,ac,u)=>
j16 g w u h k y v aa ab ac) [
(BC ag).bind λaf=>
(Ap h (Ic g a)).bind λad=>
(Nu ad.1 ad.2.1 ad.2.2.1.1 ad.2.2.1.2.1 ad.2.2.1.2.2.1 af).bind λ(w,y,v,aa,ab,ac,u)=>
j16 g w u h k y v aa ab ac]]
else
j18 a b k
theorem eN: @Zq= @Oe:=by
  unfold Zq Oe
  try simp only[WX,DX,DY]
  all_goals
    repeat (refine funext λ_=>?_)
    repeat' first
      |with_reducible rfl
      |with_reducible refine Nb ?_ ?_
      |with_reducible refine Nh ?_ ?_ ?_
      |with_reducible refine Mz ?_ ?_ ?_ ?_
      |((with_reducible refine Rr ?_ ?_);focus (intro h;first|(subst h;rfl)|(simp only[h];rfl)|(simp[Dy,Ac,h];done)))
      |with_reducible refine Rt λx=>?_
      |with_reducible refine AP (λ_=>?_) (λ_=>?_)
      |(refine Hc (λh=>by simp only[h,Rv,Em,Eb,ite_self]) (λx h=>?_);(try simp only[h,Em]))
      |(refine Jf (λh=>?_) (λh=>?_)<;>simp only[h,if_true,if_false,Bool.false_eq_true])
abbrev R_:=(LX×Int)
abbrev K_:=S->Option R_
noncomputable def H:Hd:=⟨[.agg [Si,Si], .lf (.vec 16 (.int .i32)) none,Sv],[Ow 21,Si],(.seq .d (.seq .d (.cut [2,3,8] [] (.seq .d (.blk (.loop [2,3,4,8,20] [] .d))) (.seq .d (.cut [3,10] [] (.seq .d (.blk (.loop [3,8,10,33,34,35] [⟨10,[], .own 21 (.int .i32)⟩] (.seq .d (.seq .d (.seq (.blk (.seq .d (.seq .d (.cut [3,8,10,13,14,15,16,33,34,35] [] (.mode false) .d)))) .d)))))) .d))))),⟨[(63,F63.c),(157,F157.c),(177,F177.c),(178,F178.c),(179,F179.c)],gl,false⟩,[],f144⟩
def t13(f:LU)(a b g:Int)(h:List (Int×Int32×(Int×LX×LX×Unit)×Unit))(k:LX):S:=⟨[(3, .ptr 0 []),(8, .ptr 1 []),(10, .own 2),(33,vv f),(34,vi (Ac f)),(35,vi g)],[.box 74 (.agg [vi a,vi b]), .box 225 (.val (.vec 6 (.cons (.int .i64) (.cons (.int .i32) (.cons (.cons (.int .i64) (.cons (.vec 16 (.int .i32)) (.cons (.vec 16 (.int .i32)) .nil))) .nil)))) h),Aw 21 k],[]⟩
def z13:Nat->S->Option R_:=H.i P_ [r,r,r,r,l,r,d]
def t10(f:LU)(a b:Int)(o:LX)(p:Int)(n:List (Int×Int32×(Int×LX×LX×Unit)×Unit)):S:=⟨[(2,vv f),(3, .ptr 0 []),(4, .ptr 1 []),(8, .ptr 2 []),(20,vi p)],[.box 74 (.agg [vi a,vi b]), .box 136 (.val (.vec 16 (.int .i32)) o), .box 225 (.val (.vec 6 (.cons (.int .i64) (.cons (.int .i32) (.cons (.cons (.int .i64) (.cons (.vec 16 (.int .i32)) (.cons (.vec 16 (.int .i32)) .nil))) .nil)))) n)],[]⟩
def z10:Nat->S->Option R_:=H.i P_ [r,r,l,r,d]
def x18(a b:Int)(k:LX):Option R_:=H.e P_ [r,r,r,r,r] ⟨[(3, .ptr 0 []),(10, .own 1)],[.box 74 (.agg [vi a,vi b]),Aw 21 k],[]⟩
def x16(Bd7:K_)(a:Int)(f:LU)(b g:Int)(w:Int32)(u:Int)(h:List (Int×Int32×(Int×LX×LX×Unit)×Unit))(k:LX)(y:Int)(v:Int32)(aa:Int)(ab ac:LX):Option R_:=H.e P_ [r,r,r,r,l,r,d,(lp Bd7),r,r,l,d,r,r,r] ⟨[(3, .ptr 0 []),(8, .ptr 1 []),(10, .own 2),(13, .ptr 1 [.idx (Ic g a) 35]),(14,vx w),(15, .ptr 3 []),(16,vi u),(33,vv f),(34,vi (Ac f)),(35,vi g)],[.box 74 (.agg [vi a,vi b]), .box 225 (.val (.vec 6 (.cons (.int .i64) (.cons (.int .i32) (.cons (.cons (.int .i64) (.cons (.vec 16 (.int .i32)) (.cons (.vec 16 (.int .i32)) .nil))) .nil)))) h),Aw 21 k, .box 224 (.agg [vi y,vx v, .agg [vi aa, .val (.vec 16 (.int .i32)) ab, .val (.vec 16 (.int .i32)) ac]])],[]⟩
def x13(f:LU)(a b g:Int)(h:List (Int×Int32×(Int×LX×LX×Unit)×Unit))(k:LX):Option R_:=H.e P_ [r,r,r,r,l,r,d] (t13 f a b g h k)
def x12(f:LU)(a b:Int)(n:List (Int×Int32×(Int×LX×LX×Unit)×Unit)):Option R_:=H.e P_ [r,r,r] ⟨[(2,vv f),(3, .ptr 0 []),(8, .ptr 1 [])],[.box 74 (.agg [vi a,vi b]), .box 225 (.val (.vec 6 (.cons (.int .i64) (.cons (.int .i32) (.cons (.cons (.int .i64) (.cons (.vec 16 (.int .i32)) (.cons (.vec 16 (.int .i32)) .nil))) .nil)))) n)],[]⟩
def x10(f:LU)(a b:Int)(o:LX)(p:Int)(n:List (Int×Int32×(Int×LX×LX×Unit)×Unit)):Option R_:=H.e P_ [r,r,l,r,d] (t10 f a b o p n)
theorem e18:x18=Oj:=by kernel_rfl
theorem e16(Bd7:K_)(f:LU)(a b:Int):x16 Bd7 a f b=BY (λg h k=>Bd7 (t13 f a b g h k)) a f b:=by kernel_rfl
theorem i13(f:LU)(a b:Int):∀(q:Nat) (g:Int) (h:List (Int×Int32×(Int×LX×LX×Unit)×Unit)) (k:LX),z13 q (t13 f a b g h k)=Kl f a b q g h k:=
 ind (λ_ _ _=>by kernel_rfl) λq ih g h k=>Eq.trans (b:=Zq (x16 (z13 q) a f b) x18 f a b g h k) (by kernel_rfl) (by rw[eN];simp only[e16,e18,ih]<;>rfl)
theorem e13:x13=TA:=by funext f a b g h k;exact Eq.trans (by kernel_rfl) ((i13 f a b Ed g h k).trans (by rw[Bg];rfl))
theorem e12:x12=CB:=Eq.trans (b:=SS x13) (by kernel_rfl) (by simp only[e13]<;>rfl)
theorem i10(f:LU)(a b:Int)(o:LX):∀(q:Nat) (p:Int) (n:List (Int×Int32×(Int×LX×LX×Unit)×Unit)),z10 q (t10 f a b o p n)=BT f a b o q p n:=
 ind (λ_ _=>by kernel_rfl) λq ih p n=>Eq.trans (b:=TC x12 (λp n=>(z10 q) (t10 f a b o p n)) f a b o p n) (by kernel_rfl) (by simp only[e12,ih]<;>rfl)
theorem e10:x10=Ts:=by funext f a b o p n;exact Eq.trans (by kernel_rfl) ((i10 f a b o Ed p n).trans (by rw[Bg];rfl))
def F:=u4 Wq
theorem rn x:H.u P_ x=F x:=Eq.trans (b:=u4 (EL x10) x) (by kernel_rfl) (by simp only[e10]<;>rfl)
def c:Con:=⟨H.p,H.r,F⟩
theorem ok:ConOk P_ gl 144 c:=co H func144 (.cons F63.ok (.cons F157.ok (.cons F177.ok (.cons F178.ok (.cons F179.ok .nil))))) rn
end F144
namespace F104
noncomputable def H:Hd:=⟨[.agg [Si,Si], .lf (.vec 16 (.int .i32)) none,Si,Sb],[Ow 21,Si], .d,⟨[(139,F139.c),(140,F140.c),(141,F141.c),(142,F142.c),(143,F143.c),(144,F144.c)],gl,false⟩,[],f104⟩
def F:=u5 Jv
theorem rn x:H.u P_ x=F x:=by kernel_rfl
def c:Con:=⟨H.p,H.r,F⟩
theorem ok:ConOk P_ gl 104 c:=co H func104 (.cons F139.ok (.cons F140.ok (.cons F141.ok (.cons F142.ok (.cons F143.ok (.cons F144.ok .nil)))))) rn
end F104
namespace F19
abbrev R_:=(LB×Int)
abbrev K_:=S->Option R_
noncomputable def H:Hd:=⟨[Si,Sw],[Ob 5,Si],(.seq .d (.seq .d (.seq .d (.cut [7] [] (.seq .d (.blk (.loop [0,7,17,18,19] [⟨7,[], .own 5 (.int .u8)⟩] (.seq .d (.seq .d (.cut [0,7,17,18,19] [] (.blk (.seq .d (.cut [0,7,9,17,18,19] [] .d (.seq .d (.blk (.loop [0,7,9,17,18,19,28,29] [] .d)))))) .d)))))) .d)))),⟨[(63,F63.c)],gl,false⟩,[],f19⟩
def t26(b:Int)(a:LX)(k:Int32)(f m:Int)(h:LB):S:=⟨[(0,vi b),(7, .own 0),(9,vx k),(17,vw a),(18,vi (Ac a)),(19,vi f),(28,vi (Cv b (8:Int))),(29,vi m)],[Ab 5 h],[]⟩
def z26(Fa:K_):Nat->S->Option R_:=H.i P_ [r,r,r,l,r,d,(lp Fa),r,r,l,d,r,r,r,d]
def t16(b:Int)(a:LX)(f:Int)(g:LB):S:=⟨[(0,vi b),(7, .own 0),(17,vw a),(18,vi (Ac a)),(19,vi f)],[Ab 5 g],[]⟩
def z16:Nat->S->Option R_:=H.i P_ [r,r,r,l,r,d]
def x30(g:LB):Option R_:=H.e P_ [r,r,r,r] ⟨[(7, .own 0)],[Ab 5 g],[]⟩
def x28(Fa:K_)(b:Int)(a:LX)(f:Int)(h:LB):Option R_:=H.e P_ [r,r,r,l,r,d,(lp Fa),r,r,r] ⟨[(0,vi b),(7, .own 0),(17,vw a),(18,vi (Ac a)),(19,vi f)],[Ab 5 h],[]⟩
def x26(Fa:K_)(b:Int)(a:LX)(k:Int32)(f m:Int)(h:LB):Option R_:=H.e P_ [r,r,r,l,r,d,(lp Fa),r,r,l,d,r,r,r,d] (t26 b a k f m h)
def x25(Fa:K_)(b:Int)(a:LX)(f:Int)(g:LB)(k:Int32):Option R_:=H.e P_ [r,r,r,l,r,d,(lp Fa),r,r,l,d,r,r] ⟨[(0,vi b),(7, .own 0),(9,vx k),(17,vw a),(18,vi (Ac a)),(19,vi f)],[Ab 5 g],[]⟩
def x16(b:Int)(a:LX)(f:Int)(g:LB):Option R_:=H.e P_ [r,r,r,l,r,d] (t16 b a f g)
theorem e30:x30=jI:=by kernel_rfl
theorem e28(Fa:K_)(b:Int)(a:LX):x28 Fa b a=RV (λf g=>Fa (t16 b a f g)) b a:=by kernel_rfl
theorem i26(Fa:K_)(b:Int)(a:LX)(k:Int32)(f:Int):∀(q:Nat) (m:Int) (h:LB),z26 Fa q (t26 b a k f m h)=Ko (λf g=>Fa (t16 b a f g)) b a k f q m h:=
 ind (λ_ _=>by kernel_rfl) λq ih m h=>Eq.trans (b:=DB (x28 Fa b a) (λm h=>(z26 Fa q) (t26 b a k f m h)) b a k f m h) (by kernel_rfl) (by simp only[e28,ih]<;>rfl)
theorem e26(Fa:K_)(b:Int)(a:LX):x26 Fa b a=RW (λf g=>Fa (t16 b a f g)) b a:=by funext k f m h;exact Eq.trans (by kernel_rfl) ((i26 Fa b a k f Ed m h).trans (by rw[Bg];rfl))
theorem e25(Fa:K_)(b:Int)(a:LX):x25 Fa b a=Nr (λf g=>Fa (t16 b a f g)) b a:=Eq.trans (b:=RY (x26 Fa b a) b a) (by kernel_rfl) (by simp only[e26]<;>rfl)
theorem i16(b:Int)(a:LX):∀(q:Nat) (f:Int) (g:LB),z16 q (t16 b a f g)=Hm b a q f g:=
 ind (λ_ _=>by kernel_rfl) λq ih f g=>Eq.trans (b:=DF (x25 (z16 q) b a) x30 b a f g) (by kernel_rfl) (by simp only[e25,e30,ih]<;>rfl)
theorem e16:x16=iU:=by funext b a f g;exact Eq.trans (by kernel_rfl) ((i16 b a Ed f g).trans (by rw[Bg];rfl))
def F:=u2 Jg
theorem rn x:H.u P_ x=F x:=Eq.trans (b:=u2 (WH x16) x) (by kernel_rfl) (by simp only[e16]<;>rfl)
def c:Con:=⟨H.p,H.r,F⟩
theorem ok:ConOk P_ gl 19 c:=co H func19 (.cons F63.ok .nil) rn
end F19
namespace F203
abbrev R_:=Int
noncomputable def H:Hd:=⟨[Sl,Si],[Si],(.seq .d (.cut [] [] (.seq .d (.blk (.loop [0,1,7,8] [] .d))) .d)),⟨[],gl,false⟩,[],f203⟩
def t4(a:LI)(b f:Int):S:=⟨[(0,vl a),(1,vi b),(7,vi (Ac a)),(8,vi f)],[],[]⟩
def z4:Nat->S->Option R_:=H.i P_ [r,l,r,d]
def x6:Option R_:=H.e P_ [r,r] ⟨[],[],[]⟩
def x4(a:LI)(b f:Int):Option R_:=H.e P_ [r,l,r,d] (t4 a b f)
theorem e6:x6=Ph:=by kernel_rfl
theorem i4(a:LI)(b:Int):∀(q:Nat) (f:Int),z4 q (t4 a b f)=Ce a b q f:=
 ind (λ_=>by kernel_rfl) λq ih f=>Eq.trans (b:=Fb x6 (λf=>(z4 q) (t4 a b f)) a b f) (by kernel_rfl) (by simp only[e6,ih]<;>rfl)
theorem e4:x4=Iq:=by funext a b f;exact Eq.trans (by kernel_rfl) ((i4 a b Ed f).trans (by rw[Bg];rfl))
def F:=u2 Kb
theorem rn x:H.u P_ x=F x:=Eq.trans (b:=u2 (Io x4) x) (by kernel_rfl) (by simp only[e4]<;>rfl)
def c:Con:=⟨H.p,H.r,F⟩
theorem ok:ConOk P_ gl 203 c:=co H func203 .nil rn
end F203
namespace F180
noncomputable def H:Hd:=⟨[Sl,Si],[Sz], .d,⟨[(203,F203.c)],gl,false⟩,[],f180⟩
def F:=u2 Il
theorem rn x:H.u P_ x=F x:=by kernel_rfl
def c:Con:=⟨H.p,H.r,F⟩
theorem ok:ConOk P_ gl 180 c:=co H func180 (.cons F203.ok .nil) rn
end F180
namespace F149
noncomputable def H:Hd:=⟨[Si],[Sz], .d,⟨[(180,F180.c)],gl,false⟩,[],f149⟩
def F:=Tc
theorem rn x:H.u P_ x=F x:=by kernel_rfl
def c:Con:=⟨H.p,H.r,F⟩
theorem ok:ConOk P_ gl 149 c:=co H func149 (.cons F180.ok .nil) rn
end F149
namespace F107
def DS(j28:Bool->Int->Option Int)(w ah:Int)(g a:LB)(k p o u v b:Int)(m:Bool)(n:Int)(ao:LX)(f:LI)(h:LB):Option Int:=
if(Bi ah 0)then
(Al ah).bind λ(br,bs)=>
j28 br bs
else
(Jg o ao).bind λ(bt,be)=>
if(Bi be 0)then
(Al be).bind λ(bu,bv)=>
j28 bu bv
else
(Dy h bt).bind λdv=>
(λfa:Option Int=>
bo (
fa)) (
(Bk a w (Ac a)).bind λdw=>
j28 false 0)
theorem jS: @DS= @Yr:=by
  unfold DS Yr;simp only[WX,DX,DY]
def KF(j13:Bool->Int->Option Int)(j12:LB->LB->Int->Int->Int->Int->Int->Int->Bool->Int->LI->LB->Option Int)(j25:Bool->Int->Option Int)(j23:LB->LB->Int->Int->Int->Int->Int->Int->Bool->Int->LI->LB->Option Int)(j24:LB->LB->Int->Int->Int->Int->Int->Int->Bool->Int->LI->LB->Int->Option Int)(j28:Bool->Int->Option Int)(j26:Int->LB->LB->Int->Int->Int->Int->Int->Int->Bool->Int->LX->LI->LI->LB->Option Int)(j22:Bool->Option Int)(j21:Option Int)(aq ar:LB)(au av aw ax ay:Int)(az:LI)(ai:Int)(aj:LB)(ac:Bool)(y:Int):Option Int:=
if(Ez (Ac aq) 64)then
some 8
else
if((geq y 0)&&(!ac))then
(Ee aq ar au av aw ax ay az ai aj ac y).bind λ(g,a,k,p,o,u,v,f,b,h,m,n)=>
(BI aq ar au av aw ax ay az ai aj ac y).bind λbw=>
if bw then
if(geq k 0)then
(Jm a).bind λ(al,ba)=>
if(geq ba 24)then
j13 true 0
else
if(Bi ba 0)then
(Al ba).bind λ(bx,bz)=>
j13 bx bz
else
(Bk a al (Ac a)).bind λda=>
(Rh da).bind λan=>
if an then
j13 true 0
else
(Bk a al (Ac a)).bind λdb=>
(Nc db).bind λ(ae,af,aa,ag,ab,bb)=>
if(geq bb 24)then
j13 true 0
else
if(Bi bb 0)then
(Al bb).bind λ(dc,dd)=>
j13 dc dd
else
both (
(Bk a (Ad al 22) (Ac a)).bind λak=>
(λfb:Option Int=>
bo (
fb)) (
j12 g ak ae af aa ag ab b m n f h)) [
(Bk a (Ad al 22) (Ac a)).bind λak=>
j12 g ak ae af aa ag ab b m n f h]
else
if(geq (Ac f) 0)then
if(geq k 2)then
if(Cr (Ac a) 8)then
j25 true 0
else
j23 g a k p o u v b m n f h
else
j24 g a k p o u v b m n f h 0
else
if(Cr b (Ac f))then
(Ap f b).bind λ_=>
(Ap f b).bind λw=>
if(Cr (Ac a) w)then
j28 true 0
else
(Uf g).bind λ(ap,am)=>
if(Bi am 0)then
(Al am).bind λ(de,df)=>
j28 de df
else
(Dm k p o u v).bind λ(ad,dg)=>
if((Bi dg 0)||(Om b (Ac ad)))then
(Al 8).bind λ(dh,di)=>
j28 dh di
else
j26 w g a k p o u v b m n ap ad f h
else
if(Ez (Ac a) 4000)then
(Al 38).bind λ(dj,bf)=>
j22 ((dj==true)&&((geq bf 0)&&true))
else
j21
else
j22 false
else
if((geq (Ac ar) 0)&&(geq (Ac az) 0))then
if((((geq au 0)&&((geq av 0)&&((geq aw 0)&&((geq ax 0)&&((geq ay 0)&&true)))))&&(geq ai 0))&&(gle (Ac aj) 12000))then
if(geq y 0)then
j22 true
else
if(!ac)then
(Tc y).bind λdk=>
j22 dk
else
j22 false
else
j22 false
else
if((false&&(geq ai 0))&&(gle (Ac aj) 12000))then
if(geq y 0)then
j22 true
else
if(!ac)then
(Tc y).bind λdl=>
j22 dl
else
j22 false
else
j22 false
theorem nT: @KF= @AY:=by
  unfold KF AY
  try simp only[WX,DX,DY]
  all_goals
    repeat (refine funext λ_=>?_)
    repeat' first
      |with_reducible rfl
      |with_reducible refine Nb ?_ ?_
      |with_reducible refine Nh ?_ ?_ ?_
      |with_reducible refine Mz ?_ ?_ ?_ ?_
      |((with_reducible refine Rr ?_ ?_);focus (intro h;first|(subst h;rfl)|(simp only[h];rfl)|(simp[Dy,Ac,h];done)))
      |with_reducible refine Rt λx=>?_
      |with_reducible refine AP (λ_=>?_) (λ_=>?_)
      |(refine Hc (λh=>by simp only[h,Rv,Em,Eb,ite_self]) (λx h=>?_);(try simp only[h,Em]))
      |(refine Jf (λh=>?_) (λh=>?_)<;>simp only[h,if_true,if_false,Bool.false_eq_true])
abbrev R_:=Int
noncomputable def H:Hd:=⟨[.agg [Ss,Sb, .agg [Si,Si,Si,Si,Si],Sl,Si,Sb,Sz,Si]],[Si],(.seq .d (.seq .d (.seq .d (.cut [3] [] (.seq .d (.cond (.seq .d (.keep [3,21,22,23,24,25] false)) .d)) .d)))),⟨[(19,F19.c),(46,Xi),(47,F47.c),(48,F48.c),(49,F49.c),(50,F50.c),(61,F61.c),(85,F85.c),(104,F104.c),(111,F111.c),(148,F148.c),(149,F149.c),(150,F150.c),(151,F151.c),(152,F152.c)],gl,false⟩,[(60,(.seq .d (.cut [2] [] (.blk (.seq .d (.cond (.cut [2] [] (.keep [2,11] true) .d) (.seq .d (.cond (.cut [2] [] (.keep [2,20] true) .d) (.seq .d (.cond (.cut [2] [] (.keep [2,33] true) .d) .d))))))) .d))),(108,(.seq .d (.seq .d (.seq .d (.seq .d (.seq .d (.cut [0,2,5] [] (.mode false) .d))))))),(109,(.seq .d (.seq .d (.cut [0,2,3] [⟨0,[1], .ro (.int .u8)⟩] (.seq .d (.cond (.seq .d (.cut [0,2,3] [⟨0,[1], .ro (.int .u8)⟩,⟨9,[1], .ro (.int .u8)⟩,⟨10,[1], .ro (.int .u8)⟩,⟨15,[1], .ro (.int .u8)⟩,⟨16,[1], .ro (.int .u8)⟩,⟨18,[], .ro (.int .u8)⟩] .d (.cut [0,2,3,4,5] [] .d .d))) .d)) .d)))),(110,(.seq .d (.seq .d (.seq .d (.seq .d (.seq .d (.seq .d (.cut [0,2,3,4,6] [⟨0,[1], .ro (.int .u8)⟩,⟨9,[1], .ro (.int .u8)⟩,⟨10,[1], .ro (.int .u8)⟩,⟨13,[1], .ro (.int .u8)⟩,⟨14,[1], .ro (.int .u8)⟩,⟨19,[1], .ro (.int .u8)⟩,⟨20,[1], .ro (.int .u8)⟩,⟨22,[], .ro (.int .u8)⟩,⟨28,[1], .ro (.int .u8)⟩,⟨29,[1], .ro (.int .u8)⟩,⟨40,[1], .ro (.int .u8)⟩,⟨41,[1], .ro (.int .u8)⟩] .d (.cut [0,2,3,5,7] [] .d (.seq .d (.seq .d (.seq .d (.seq .d (.seq (.mode false) .d))))))))))))))],f107⟩
def x22(bi:Bool):Option R_:=H.e P_ [r,r,r,r] ⟨[(3,vt bi)],[],[]⟩
def x21:Option R_:=H.e P_ [r,r,r,l,r,l,r,(dcall 3 60 3 #[true,true,true,true,true,true,true,true] #[true,true,true,true,true,false,false,false]),r,r] ⟨[(2, .ptr 0 [])],[.box 108 (.agg [vt false,vi 0])],[[(3,vt false),(21, .cst (.bool true)),(23, .agg [vt true,vi 0])]]⟩
def x13(bj:Bool)(bk:Int):Option R_:=H.e P_ [r,r,r,l,r,l,r,(dcall 3 60 3 #[true,true,true,true,true,true,true,true] #[true,true,true,true,true,false,false,false]),r,l,d,r,l,r] ⟨[(2, .ptr 0 [])],[.box 108 (.agg [vt bj,vi bk])],[[(3,vt false),(21, .cst (.bool true)),(23, .agg [vt true,vi 0])]]⟩
def x12(g ak:LB)(ae af aa ag ab b:Int)(m:Bool)(n:Int)(f:LI)(h:LB):Option R_:=H.e P_ [r,r,r,l,r,l,r,(dcall 3 60 3 #[true,true,true,true,true,true,true,true] #[true,true,true,true,true,false,false,false]),r,l,d,r,l,l,(call 1 108),r,r,r,r,r,r] ⟨[(0, .ptr 0 []),(2, .ptr 1 []),(5, .ptr 2 [])],[.box 46 (.agg [vs g,vb ak, .agg [vi ae,vi af,vi aa,vi ag,vi ab], .own 4,vi b, .own 5,vt m,vi n]), .box 108 (.agg [vt false,vi 0]), .box 32 (.agg [vi ae,vi af,vi aa,vi ag,vi ab]), .box 108 (.agg [vt false,vi 0]),Ai 3 f,Ab 5 h],[[(2, .ptr 3 [])],[(3,vt false),(21, .cst (.bool true)),(23, .agg [vt true,vi 0])]]⟩
def x25(bl:Bool)(bm:Int):Option R_:=H.e P_ [r,r,r,l,r,l,r,(dcall 3 60 3 #[true,true,true,true,true,true,true,true] #[true,true,true,true,true,false,false,false]),r,l,d,r,r,r,l,r] ⟨[(2, .ptr 0 [])],[.box 108 (.agg [vt bl,vi bm])],[[(3,vt false),(21, .cst (.bool true)),(23, .agg [vt true,vi 0])]]⟩
def x24(g a:LB)(k p o u v b:Int)(m:Bool)(n:Int)(f:LI)(h:LB)(bg:Int):Option R_:=H.e P_ [r,r,r,l,r,l,r,(dcall 3 60 3 #[true,true,true,true,true,true,true,true] #[true,true,true,true,true,false,false,false]),r,l,d,r,r,r,l,l,(call 1 109),r,r,r] ⟨[(0, .ptr 0 []),(2, .ptr 1 []),(3,vi bg)],[.box 46 (.agg [vs g,vb a, .agg [vi k,vi p,vi o,vi u,vi v], .own 3,vi b, .own 4,vt m,vi n]), .box 108 (.agg [vt false,vi 0]), .box 108 (.agg [vt false,vi 0]),Ai 3 f,Ab 5 h],[[(2, .ptr 2 [])],[(3,vt false),(21, .cst (.bool true)),(23, .agg [vt true,vi 0])]]⟩
def x15(bd:Bool)(bc:Int)(g a:LB)(k p o u v b:Int)(m:Bool)(n:Int)(f:LI)(h:LB):Option R_:=H.e P_ [r,r,r,l,r,l,r,(dcall 3 60 3 #[true,true,true,true,true,true,true,true] #[true,true,true,true,true,false,false,false]),r,l,d,r,r,r,l,l,(call 1 109),r,r,l,r,l,r,r,r] ⟨[(0, .ptr 0 []),(2, .ptr 1 []),(3,vi 8),(4,vt bd),(5,vi bc)],[.box 46 (.agg [vs g,vb a, .agg [vi k,vi p,vi o,vi u,vi v], .own 3,vi b, .own 4,vt m,vi n]), .box 108 (.agg [vt false,vi 0]), .box 108 (.agg [vt false,vi 0]),Ai 3 f,Ab 5 h],[[(2, .ptr 2 [])],[(3,vt false),(21, .cst (.bool true)),(23, .agg [vt true,vi 0])]]⟩
def x23(g a:LB)(k p o u v b:Int)(m:Bool)(n:Int)(f:LI)(h:LB):Option R_:=H.e P_ [r,r,r,l,r,l,r,(dcall 3 60 3 #[true,true,true,true,true,true,true,true] #[true,true,true,true,true,false,false,false]),r,l,d,r,r,r,l,l,(call 1 109),r,r,l,r,l,r,r] ⟨[(0, .ptr 0 []),(2, .ptr 1 []),(3,vi 8)],[.box 46 (.agg [vs g,vb a, .agg [vi k,vi p,vi o,vi u,vi v], .own 3,vi b, .own 4,vt m,vi n]), .box 108 (.agg [vt false,vi 0]), .box 108 (.agg [vt false,vi 0]),Ai 3 f,Ab 5 h],[[(2, .ptr 2 [])],[(3,vt false),(21, .cst (.bool true)),(23, .agg [vt true,vi 0])]]⟩
def x28(bp:Bool)(bq:Int):Option R_:=H.e P_ [r,r,r,l,r,l,r,(dcall 3 60 3 #[true,true,true,true,true,true,true,true] #[true,true,true,true,true,false,false,false]),r,l,d,r,r,r,r,r,l,r] ⟨[(2, .ptr 0 [])],[.box 108 (.agg [vt bp,vi bq])],[[(3,vt false),(21, .cst (.bool true)),(23, .agg [vt true,vi 0])]]⟩
def x27(w ah:Int)(g a:LB)(k p o u v b:Int)(m:Bool)(n:Int)(ao:LX)(f:LI)(h:LB):Option R_:=H.e P_ [r,r,r,l,r,l,r,(dcall 3 60 3 #[true,true,true,true,true,true,true,true] #[true,true,true,true,true,false,false,false]),r,l,d,r,r,r,r,r,l,l,(call 1 110),r,r,r,r,r,r,r,r] ⟨[(0, .ptr 0 []),(2, .ptr 1 []),(3,vi w),(5,vi ah),(7, .own 2)],[.box 46 (.agg [vs g,vb a, .agg [vi k,vi p,vi o,vi u,vi v], .own 4,vi b, .own 5,vt m,vi n]), .box 108 (.agg [vt false,vi 0]),Aw 21 ao, .box 108 (.agg [vt false,vi 0]),Ai 3 f,Ab 5 h],[[(2, .ptr 3 [])],[(3,vt false),(21, .cst (.bool true)),(23, .agg [vt true,vi 0])]]⟩
def x26(w:Int)(g a:LB)(k p o u v b:Int)(m:Bool)(n:Int)(ap:LX)(ad f:LI)(h:LB):Option R_:=H.e P_ [r,r,r,l,r,l,r,(dcall 3 60 3 #[true,true,true,true,true,true,true,true] #[true,true,true,true,true,false,false,false]),r,l,d,r,r,r,r,r,l,l,(call 1 110),r,r,r,r,r,r,r] ⟨[(0, .ptr 0 []),(2, .ptr 1 []),(3,vi w),(4, .ptr 2 []),(6, .own 3)],[.box 46 (.agg [vs g,vb a, .agg [vi k,vi p,vi o,vi u,vi v], .own 5,vi b, .own 6,vt m,vi n]), .box 108 (.agg [vt false,vi 0]), .box 136 (.val (.vec 16 (.int .i32)) ap),Ai 3 ad, .box 108 (.agg [vt false,vi 0]),Ai 3 f,Ab 5 h],[[(2, .ptr 4 [])],[(3,vt false),(21, .cst (.bool true)),(23, .agg [vt true,vi 0])]]⟩
theorem e22:x22=Bs:=by kernel_rfl
theorem e21:x21=Yv:=Eq.trans (b:=HB x22) (by kernel_rfl) (by simp only[e22]<;>rfl)
theorem e13:x13=Fc:=Eq.trans (b:=KM x22) (by kernel_rfl) (by simp only[e22]<;>rfl)
theorem e12:x12=Yx:=Eq.trans (b:=KL x13) (by kernel_rfl) (by simp only[e13]<;>rfl)
theorem e25:x25=Kf:=Eq.trans (b:=HH x22) (by kernel_rfl) (by simp only[e22]<;>rfl)
theorem e24:x24=Ki:=Eq.trans (b:=IP x25) (by kernel_rfl) (by simp only[e25]<;>rfl)
theorem e15:x15=HC:=Eq.trans (b:=KI x25 x24) (by kernel_rfl) (by simp only[e25,e24]<;>rfl)
theorem e23:x23=Yu:=Eq.trans (b:=JP x15) (by kernel_rfl) (by simp only[e15]<;>rfl)
theorem e28:x28=Ij:=Eq.trans (b:=JS x22) (by kernel_rfl) (by simp only[e22]<;>rfl)
theorem e27:x27=IZ:=Eq.trans (b:=DS x28) (by kernel_rfl) (by rw[jS];simp only[e28]<;>rfl)
theorem e26:x26=Yw:=Eq.trans (b:=IB x27) (by kernel_rfl) (by simp only[e27]<;>rfl)
def F:=u12 Ta
theorem rn x:H.u P_ x=F x:=Eq.trans (b:=u12 (KF x13 x12 x25 x23 x24 x28 x26 x22 x21) x) (by kernel_rfl) (by unfold F;rw[nT];simp only[e13,e12,e25,e23,e24,e28,e26,e22,e21]<;>rfl)
def c:Con:=⟨H.p,H.r,F⟩
theorem ok:ConOk P_ gl 107 c:=cr H func107 (.cons F19.ok (.cons KC (.cons F47.ok (.cons F48.ok (.cons F49.ok (.cons F50.ok (.cons F61.ok (.cons F85.ok (.cons F104.ok (.cons F111.ok (.cons F148.ok (.cons F149.ok (.cons F150.ok (.cons F151.ok (.cons F152.ok .nil))))))))))))))) (Ft.cons ent60 (Ft.cons ent108 (Ft.cons ent109 (Ft.cons ent110 Ft.nil)))) rn
end F107
namespace F59
def JF(f g:LB)(h k m n o:Int)(p:LI)(u:Int)(v:LB)(b:Bool)(a:Int):Option (LB×LB×Int×Int×Int×Int×Int×LI×Int×LB×Bool×Int×Int):=
(Ta f g h k m n o p u v b a).bind λw=>
if(Bi w 0)then
some (([]:LB),([]:LB),0,0,0,0,0,([]:LI),0,([]:LB),false,0,w)
else
if(Bi a 0)then
(λbl:Option (LB×LB×Int×Int×Int×Int×Int×LI×Int×LB×Bool×Int×Int)=>
both (
both (
(Ee f g h k m n o p u v b a).bind λ(y,aa,ab,ac,ad,ae,af,ag,ah,ai,aj,ak)=>
(λbm:Option (LB×LB×Int×Int×Int×Int×Int×LI×Int×LB×Bool×Int×Int)=>
bo (
bm)) (
some (y,aa,ab,ac,ad,ae,af,ag,ah,ai,aj,ak,a))) [
bl]) [
bl]) (
(Ee f g h k m n o p u v b a).bind λ(y,aa,ab,ac,ad,ae,af,ag,ah,ai,aj,ak)=>
some (y,aa,ab,ac,ad,ae,af,ag,ah,ai,aj,ak,a))
else
if b then
(Ee f g h k m n o p u v b a).bind λ(al,am,an,ao,ap,aq,ar,au,av,aw,ax,ay)=>
some (al,am,an,ao,ap,aq,ar,au,av,aw,ax,ay,36)
else
(Ee f g h k m n o p u v b a).bind λ(az,ba,bb,bc,bd,be,bf,bg,bh,bi,bj,bk)=>
some (az,ba,bb,bc,bd,be,bf,bg,bh,bi,bj,bk,0)
theorem mE: @JF= @Sk:=by
  unfold JF Sk
  try simp only[WX,DX,DY]
  all_goals
    repeat (refine funext λ_=>?_)
    repeat' first
      |with_reducible rfl
      |with_reducible refine Nb ?_ ?_
      |with_reducible refine Nh ?_ ?_ ?_
      |with_reducible refine Mz ?_ ?_ ?_ ?_
      |((with_reducible refine Rr ?_ ?_);focus (intro h;first|(subst h;rfl)|(simp only[h];rfl)|(simp[Dy,Ac,h];done)))
      |with_reducible refine Rt λx=>?_
      |with_reducible refine AP (λ_=>?_) (λ_=>?_)
      |(refine Hc (λh=>by simp only[h,Rv,Em,Eb,ite_self]) (λx h=>?_);(try simp only[h,Em]))
      |(refine Jf (λh=>?_) (λh=>?_)<;>simp only[h,if_true,if_false,Bool.false_eq_true])
noncomputable def H:Hd:=⟨[.agg [Ss,Sb, .agg [Si,Si,Si,Si,Si],Sl,Si,Sb,Sz,Si]],[.agg [Ss,Ob 5, .agg [Si,Si,Si,Si,Si],Ol 3,Si,Ob 5,Sz,Si],Si],(.seq .d (.seq .d (.seq (.blk (.seq .d (.cond (.seq (.mode false) .d) .d))) .d))),⟨[(61,F61.c),(107,F107.c)],gl,false⟩,[],f59⟩
def F:=u12 Sk
theorem rn x:H.u P_ x=F x:=Eq.trans (b:=u12 JF x) (by kernel_rfl) (by rw[mE];rfl)
def c:Con:=⟨H.p,H.r,F⟩
theorem ok:ConOk P_ gl 59 c:=co H func59 (.cons F61.ok (.cons F107.ok .nil)) rn
end F59
namespace F62
noncomputable def H:Hd:=⟨[.agg [Ss,Sb, .agg [Si,Si,Si,Si,Si],Sl,Si,Sb,Sz,Si],Si],[.agg [Ss,Ob 5, .agg [Si,Si,Si,Si,Si],Ol 3,Si,Sb,Sz,Si],Si], .d,⟨[],gl,false⟩,[],f62⟩
def F:=u13 iQ
theorem rn x:H.u P_ x=F x:=by kernel_rfl
def c:Con:=⟨H.p,H.r,F⟩
theorem ok:ConOk P_ gl 62 c:=co H func62 .nil rn
end F62
namespace F18
def GN(j78:Int->Int->Int->Int->Int->LI->Bool->Int->LB->Int->LB->Option (LB×LB×Int×Int×Int×Int×Int×LI×Int×LB×Bool×Int×Int))(a:LB)(b:Bool)(f w ag:Int)(g:LB)(m p o u v h:Int)(am:LX)(k:LI)(n:LB):Option (LB×LB×Int×Int×Int×Int×Int×LI×Int×LB×Bool×Int×Int):=
if(Bi ag 0)then
(Al ag).bind λ(dd,de)=>
j78 m p o u v k dd de g h n
else
(Jg o am).bind λ(df,aj)=>
if(Bi aj 0)then
(Al aj).bind λ(dg,dh)=>
j78 m p o u v k dg dh g h n
else
(Dy n df).bind λdi=>
(λhb:Option (LB×LB×Int×Int×Int×Int×Int×LI×Int×LB×Bool×Int×Int)=>
bo (
hb)) (
(Bk g w (Ac g)).bind λdj=>
j78 m p o u v k false 0 dj (Ad h 1) di)
theorem lP: @GN= @AU:=by
  unfold GN AU;simp only[WX,DX,DY]
def HO(j62:Int->LI->LB->Bool->Int->LB->Int->Int->Int->Int->Int->Option (LB×LB×Int×Int×Int×Int×Int×LI×Int×LB×Bool×Int×Int))(j61:LB->Int->Int->Int->Int->Int->Int->LI->LB->Option (LB×LB×Int×Int×Int×Int×Int×LI×Int×LB×Bool×Int×Int))(j75:Int->Int->Int->Int->Int->Int->LB->Bool->Int->LB->LI->Option (LB×LB×Int×Int×Int×Int×Int×LI×Int×LB×Bool×Int×Int))(j73:LB->Int->Int->Int->Int->Int->Int->LI->LB->Option (LB×LB×Int×Int×Int×Int×Int×LI×Int×LB×Bool×Int×Int))(j74:LB->Int->Int->Int->Int->Int->Int->LI->LB->Int->Option (LB×LB×Int×Int×Int×Int×Int×LI×Int×LB×Bool×Int×Int))(j78:Int->Int->Int->Int->Int->LI->Bool->Int->LB->Int->LB->Option (LB×LB×Int×Int×Int×Int×Int×LI×Int×LB×Bool×Int×Int))(j76:Int->LB->Int->Int->Int->Int->Int->Int->LX->LI->LI->LB->Option (LB×LB×Int×Int×Int×Int×Int×LI×Int×LB×Bool×Int×Int))(j71:LB->Int->Int->Int->Int->Int->Int->Bool->Int->LI->LB->Option (LB×LB×Int×Int×Int×Int×Int×LI×Int×LB×Bool×Int×Int))(j70:LB->Int->Int->Int->Int->Int->Int->LI->LB->Option (LB×LB×Int×Int×Int×Int×Int×LI×Int×LB×Bool×Int×Int))(a:LB)(b:Bool)(f:Int)(g:LB)(m p o u v h:Int)(k:LI)(n:LB):Option (LB×LB×Int×Int×Int×Int×Int×LI×Int×LB×Bool×Int×Int):=
if(geq m 0)then
(Jm g).bind λ(ah,ao)=>
if(geq ao 24)then
j62 h k n true 0 g m p o u v
else
if(Bi ao 0)then
(Al ao).bind λ(dk,dl)=>
j62 h k n dk dl g m p o u v
else
(Bk g ah (Ac g)).bind λdm=>
(Rh dm).bind λal=>
if al then
j62 h k n true 0 g m p o u v
else
(Bk g ah (Ac g)).bind λdn=>
(Nc dn).bind λ(ab,ac,y,ad,aa,ap)=>
if(geq ap 24)then
j62 h k n true 0 g m p o u v
else
if(Bi ap 0)then
(Al ap).bind λ(dp,dq)=>
j62 h k n dp dq g m p o u v
else
both (
(Bk g (Ad ah 22) (Ac g)).bind λaf=>
bo (
j61 af ab ac y ad aa h k n)) [
(Bk g (Ad ah 22) (Ac g)).bind λaf=>
j61 af ab ac y ad aa h k n]
else
if(geq (Ac k) 0)then
if(geq m 2)then
if(Cr (Ac g) 8)then
j75 m p o u v h n true 0 g k
else
j73 g m p o u v h k n
else
j74 g m p o u v h k n 0
else
if(Cr h (Ac k))then
(Ap k h).bind λ_=>
(Ap k h).bind λw=>
if(Cr (Ac g) w)then
j78 m p o u v k true 0 g h n
else
(Uf a).bind λ(an,ak)=>
if(Bi ak 0)then
(Al ak).bind λ(dr,ds)=>
j78 m p o u v k dr ds g h n
else
(Dm m p o u v).bind λ(ae,dt)=>
if((Bi dt 0)||(Om h (Ac ae)))then
(Al 8).bind λ(du,bc)=>
j78 m p o u v k du bc g h n
else
j76 w g m p o u v h an ae k n
else
if(Ez (Ac g) 4000)then
(Al 38).bind λ(dv,ai)=>
j71 g m p o u v h dv ai k n
else
j70 g m p o u v h k n
theorem oA: @HO= @Jk:=by
  unfold HO Jk
  repeat (refine funext λ_=>?_)
  repeat' first
    |with_reducible rfl
    |with_reducible refine Nb ?_ ?_
    |with_reducible refine Nh ?_ ?_ ?_
    |with_reducible refine Mz ?_ ?_ ?_ ?_
    |((with_reducible refine Rr ?_ ?_);focus (intro h;first|(subst h;rfl)|(simp only[h];rfl)|(simp[Dy,Ac,h];done)))
    |with_reducible refine Rt λx=>?_
    |with_reducible refine AP (λ_=>?_) (λ_=>?_)
    |(refine Hc (λh=>by simp only[h,Rv,Em,Eb,ite_self]) (λx h=>?_);(try simp only[h,Em]))
    |(refine Jf (λh=>?_) (λh=>?_)<;>simp only[h,if_true,if_false,Bool.false_eq_true])
abbrev R_:=(LB×LB×Int×Int×Int×Int×Int×LI×Int×LB×Bool×Int×Int)
abbrev K_:=S->Option R_
noncomputable def H:Hd:=⟨[.agg [Ss,Sb, .agg [Si,Si,Si,Si,Si],Sl,Si,Sb,Sz,Si],Sb],[.agg [Ss,Ob 5, .agg [Si,Si,Si,Si,Si],Ol 3,Si,Sb,Sz,Si],Si],(.seq .d (.seq .d (.seq .d (.seq .d (.blk (.loop [2,4] [⟨2,[1], .ro (.int .u8)⟩] (.blk (.cut [2,4,7] [] (.keep [2,4,7,22] true) .d)))))))),⟨[(19,F19.c),(46,Xi),(47,F47.c),(48,F48.c),(49,F49.c),(50,F50.c),(59,F59.c),(61,F61.c),(62,F62.c),(85,F85.c),(104,F104.c),(111,F111.c),(150,F150.c),(151,F151.c),(152,F152.c)],gl,false⟩,[(60,(.seq .d (.cut [2] [] (.blk (.seq .d (.cond (.cut [2] [] (.keep [2,11] true) .d) (.seq .d (.cond (.cut [2] [] (.keep [2,20] true) .d) (.seq .d (.cond (.cut [2] [] (.keep [2,33] true) .d) .d))))))) .d))),(108,(.seq .d (.seq .d (.seq .d (.seq .d (.seq .d (.cut [0,2,5] [] (.mode false) .d))))))),(109,(.seq .d (.seq .d (.cut [0,2,3] [] (.seq .d (.cond (.seq .d (.cut [0,2,3] [⟨0,[1], .ro (.int .u8)⟩,⟨9,[1], .ro (.int .u8)⟩,⟨10,[1], .ro (.int .u8)⟩,⟨15,[1], .ro (.int .u8)⟩,⟨16,[1], .ro (.int .u8)⟩,⟨18,[], .ro (.int .u8)⟩] .d (.cut [0,2,3,4,5] [] .d .d))) .d)) .d)))),(110,(.seq .d (.seq .d (.seq .d (.seq .d (.seq .d (.seq .d (.cut [0,2,3,4,6] [⟨0,[1], .ro (.int .u8)⟩,⟨9,[1], .ro (.int .u8)⟩,⟨10,[1], .ro (.int .u8)⟩,⟨13,[1], .ro (.int .u8)⟩,⟨14,[1], .ro (.int .u8)⟩,⟨19,[1], .ro (.int .u8)⟩,⟨20,[1], .ro (.int .u8)⟩,⟨22,[], .ro (.int .u8)⟩,⟨28,[1], .ro (.int .u8)⟩,⟨29,[1], .ro (.int .u8)⟩,⟨40,[1], .ro (.int .u8)⟩,⟨41,[1], .ro (.int .u8)⟩] .d (.cut [0,2,3,5,7] [] .d (.seq .d (.seq .d (.seq .d (.seq .d (.seq (.mode false) .d))))))))))))))],f18⟩
def t37(a:LB)(b:Bool)(f:Int)(g:LB)(m p o u v h:Int)(k:LI)(n:LB):S:=⟨[(2, .ptr 0 []),(4, .ptr 1 [])],[.box 46 (.agg [vs a,vb g, .agg [vi m,vi p,vi o,vi u,vi v], .own 2,vi h, .own 3,vt b,vi f]), .box 46 (.agg [vs ([]:LB), .nils, .agg [vi 0,vi 0,vi 0,vi 0,vi 0], .nils,vi 0, .nils,vt false,vi 0]),Ai 3 k,Ab 5 n],[]⟩
def z37:Nat->S->Option R_:=H.i P_ [r,r,r,r,d]
def x71(It:K_)(a:LB)(b:Bool)(f:Int)(ar:LB)(au av aw ax ay az:Int)(bh:Bool)(be:Int)(ba:LI)(bb:LB):Option R_:=H.e P_ [r,r,r,r,d,(lp It),d,r] ⟨[(2, .ptr 0 []),(4, .ptr 1 []),(7, .ptr 2 [])],[.box 46 (.agg [vs a,vb ar, .agg [vi au,vi av,vi aw,vi ax,vi ay], .own 3,vi az, .own 4,vt b,vi f]), .box 46 (.agg [vs ([]:LB), .nils, .agg [vi 0,vi 0,vi 0,vi 0,vi 0], .nils,vi 0, .nils,vt false,vi 0]), .box 108 (.agg [vt bh,vi be]),Ai 3 ba,Ab 5 bb],[]⟩
def x70(It:K_)(a:LB)(b:Bool)(f:Int)(g:LB)(m p o u v h:Int)(k:LI)(n:LB):Option R_:=H.e P_ [r,r,r,r,d,(lp It),d,l,(call 0 60),r,r] ⟨[(2, .ptr 0 [])],[.box 108 (.agg [vt false,vi 0]), .box 46 (.agg [vs a,vb g, .agg [vi m,vi p,vi o,vi u,vi v], .own 3,vi h, .own 4,vt b,vi f]), .box 46 (.agg [vs ([]:LB), .nils, .agg [vi 0,vi 0,vi 0,vi 0,vi 0], .nils,vi 0, .nils,vt false,vi 0]),Ai 3 k,Ab 5 n],[[(2, .ptr 1 []),(4, .ptr 2 [])]]⟩
def x62(It:K_)(a:LB)(b:Bool)(f h:Int)(k:LI)(n:LB)(bj:Bool)(bk:Int)(bl:LB)(bm bn bp bq br:Int):Option R_:=H.e P_ [r,r,r,r,d,(lp It),d,l,(call 0 60),r,l,d,r,l,r] ⟨[(2, .ptr 0 [])],[.box 108 (.agg [vt bj,vi bk]), .box 46 (.agg [vs a,vb bl, .agg [vi bm,vi bn,vi bp,vi bq,vi br], .own 3,vi h, .own 4,vt b,vi f]), .box 46 (.agg [vs ([]:LB), .nils, .agg [vi 0,vi 0,vi 0,vi 0,vi 0], .nils,vi 0, .nils,vt false,vi 0]),Ai 3 k,Ab 5 n],[[(2, .ptr 1 []),(4, .ptr 2 [])]]⟩
def x61(It:K_)(a:LB)(b:Bool)(f:Int)(af:LB)(ab ac y ad aa h:Int)(k:LI)(n:LB):Option R_:=H.e P_ [r,r,r,r,d,(lp It),d,l,(call 0 60),r,l,d,r,l,l,(call 1 108),r,r,r,r,r,r] ⟨[(0, .ptr 0 []),(2, .ptr 1 []),(5, .ptr 2 [])],[.box 46 (.agg [vs a,vb af, .agg [vi ab,vi ac,vi y,vi ad,vi aa], .own 5,vi h, .own 6,vt b,vi f]), .box 108 (.agg [vt false,vi 0]), .box 32 (.agg [vi ab,vi ac,vi y,vi ad,vi aa]), .box 108 (.agg [vt false,vi 0]), .box 46 (.agg [vs ([]:LB), .nils, .agg [vi 0,vi 0,vi 0,vi 0,vi 0], .nils,vi 0, .nils,vt false,vi 0]),Ai 3 k,Ab 5 n],[[(2, .ptr 3 [])],[(2, .ptr 0 []),(4, .ptr 4 [])]]⟩
def x75(It:K_)(a:LB)(b:Bool)(f m p o u v h:Int)(n:LB)(bs:Bool)(bt:Int)(bu:LB)(bv:LI):Option R_:=H.e P_ [r,r,r,r,d,(lp It),d,l,(call 0 60),r,l,d,r,r,r,l,r] ⟨[(2, .ptr 0 [])],[.box 108 (.agg [vt bs,vi bt]), .box 46 (.agg [vs a,vb bu, .agg [vi m,vi p,vi o,vi u,vi v], .own 3,vi h, .own 4,vt b,vi f]), .box 46 (.agg [vs ([]:LB), .nils, .agg [vi 0,vi 0,vi 0,vi 0,vi 0], .nils,vi 0, .nils,vt false,vi 0]),Ai 3 bv,Ab 5 n],[[(2, .ptr 1 []),(4, .ptr 2 [])]]⟩
def x74(It:K_)(a:LB)(b:Bool)(f:Int)(g:LB)(m p o u v h:Int)(k:LI)(n:LB)(bf:Int):Option R_:=H.e P_ [r,r,r,r,d,(lp It),d,l,(call 0 60),r,l,d,r,r,r,l,l,(call 1 109),r,r,r] ⟨[(0, .ptr 0 []),(2, .ptr 1 []),(3,vi bf)],[.box 46 (.agg [vs a,vb g, .agg [vi m,vi p,vi o,vi u,vi v], .own 4,vi h, .own 5,vt b,vi f]), .box 108 (.agg [vt false,vi 0]), .box 108 (.agg [vt false,vi 0]), .box 46 (.agg [vs ([]:LB), .nils, .agg [vi 0,vi 0,vi 0,vi 0,vi 0], .nils,vi 0, .nils,vt false,vi 0]),Ai 3 k,Ab 5 n],[[(2, .ptr 2 [])],[(2, .ptr 0 []),(4, .ptr 3 [])]]⟩
def x64(It:K_)(a:LB)(b:Bool)(f:Int)(bd:Bool)(aq:Int)(g:LB)(m p o u v h:Int)(k:LI)(n:LB):Option R_:=H.e P_ [r,r,r,r,d,(lp It),d,l,(call 0 60),r,l,d,r,r,r,l,l,(call 1 109),r,r,l,r,l,r,r,r] ⟨[(0, .ptr 0 []),(2, .ptr 1 []),(3,vi 8),(4,vt bd),(5,vi aq)],[.box 46 (.agg [vs a,vb g, .agg [vi m,vi p,vi o,vi u,vi v], .own 4,vi h, .own 5,vt b,vi f]), .box 108 (.agg [vt false,vi 0]), .box 108 (.agg [vt false,vi 0]), .box 46 (.agg [vs ([]:LB), .nils, .agg [vi 0,vi 0,vi 0,vi 0,vi 0], .nils,vi 0, .nils,vt false,vi 0]),Ai 3 k,Ab 5 n],[[(2, .ptr 2 [])],[(2, .ptr 0 []),(4, .ptr 3 [])]]⟩
def x73(It:K_)(a:LB)(b:Bool)(f:Int)(g:LB)(m p o u v h:Int)(k:LI)(n:LB):Option R_:=H.e P_ [r,r,r,r,d,(lp It),d,l,(call 0 60),r,l,d,r,r,r,l,l,(call 1 109),r,r,l,r,l,r,r] ⟨[(0, .ptr 0 []),(2, .ptr 1 []),(3,vi 8)],[.box 46 (.agg [vs a,vb g, .agg [vi m,vi p,vi o,vi u,vi v], .own 4,vi h, .own 5,vt b,vi f]), .box 108 (.agg [vt false,vi 0]), .box 108 (.agg [vt false,vi 0]), .box 46 (.agg [vs ([]:LB), .nils, .agg [vi 0,vi 0,vi 0,vi 0,vi 0], .nils,vi 0, .nils,vt false,vi 0]),Ai 3 k,Ab 5 n],[[(2, .ptr 2 [])],[(2, .ptr 0 []),(4, .ptr 3 [])]]⟩
def x78(It:K_)(a:LB)(b:Bool)(f m p o u v:Int)(k:LI)(bx:Bool)(bz:Int)(da:LB)(db:Int)(dc:LB):Option R_:=H.e P_ [r,r,r,r,d,(lp It),d,l,(call 0 60),r,l,d,r,r,r,r,r,l,r] ⟨[(2, .ptr 0 [])],[.box 108 (.agg [vt bx,vi bz]), .box 46 (.agg [vs a,vb da, .agg [vi m,vi p,vi o,vi u,vi v], .own 3,vi db, .own 4,vt b,vi f]), .box 46 (.agg [vs ([]:LB), .nils, .agg [vi 0,vi 0,vi 0,vi 0,vi 0], .nils,vi 0, .nils,vt false,vi 0]),Ai 3 k,Ab 5 dc],[[(2, .ptr 1 []),(4, .ptr 2 [])]]⟩
def x77(It:K_)(a:LB)(b:Bool)(f w ag:Int)(g:LB)(m p o u v h:Int)(am:LX)(k:LI)(n:LB):Option R_:=H.e P_ [r,r,r,r,d,(lp It),d,l,(call 0 60),r,l,d,r,r,r,r,r,l,l,(call 1 110),r,r,r,r,r,r,r,r] ⟨[(0, .ptr 0 []),(2, .ptr 1 []),(3,vi w),(5,vi ag),(7, .own 2)],[.box 46 (.agg [vs a,vb g, .agg [vi m,vi p,vi o,vi u,vi v], .own 5,vi h, .own 6,vt b,vi f]), .box 108 (.agg [vt false,vi 0]),Aw 21 am, .box 108 (.agg [vt false,vi 0]), .box 46 (.agg [vs ([]:LB), .nils, .agg [vi 0,vi 0,vi 0,vi 0,vi 0], .nils,vi 0, .nils,vt false,vi 0]),Ai 3 k,Ab 5 n],[[(2, .ptr 3 [])],[(2, .ptr 0 []),(4, .ptr 4 [])]]⟩
def x76(It:K_)(a:LB)(b:Bool)(f w:Int)(g:LB)(m p o u v h:Int)(an:LX)(ae k:LI)(n:LB):Option R_:=H.e P_ [r,r,r,r,d,(lp It),d,l,(call 0 60),r,l,d,r,r,r,r,r,l,l,(call 1 110),r,r,r,r,r,r,r] ⟨[(0, .ptr 0 []),(2, .ptr 1 []),(3,vi w),(4, .ptr 2 []),(6, .own 3)],[.box 46 (.agg [vs a,vb g, .agg [vi m,vi p,vi o,vi u,vi v], .own 6,vi h, .own 7,vt b,vi f]), .box 108 (.agg [vt false,vi 0]), .box 136 (.val (.vec 16 (.int .i32)) an),Ai 3 ae, .box 108 (.agg [vt false,vi 0]), .box 46 (.agg [vs ([]:LB), .nils, .agg [vi 0,vi 0,vi 0,vi 0,vi 0], .nils,vi 0, .nils,vt false,vi 0]),Ai 3 k,Ab 5 n],[[(2, .ptr 4 [])],[(2, .ptr 0 []),(4, .ptr 5 [])]]⟩
def x37(a:LB)(b:Bool)(f:Int)(g:LB)(m p o u v h:Int)(k:LI)(n:LB):Option R_:=H.e P_ [r,r,r,r,d] (t37 a b f g m p o u v h k n)
theorem e71(It:K_)(a:LB)(b:Bool)(f:Int):x71 It a b f=Cs (λg m p o u v h k n=>It (t37 a b f g m p o u v h k n)) a b f:=by kernel_rfl
theorem e70(It:K_)(a:LB)(b:Bool)(f:Int):x70 It a b f=BA (λg m p o u v h k n=>It (t37 a b f g m p o u v h k n)) a b f:=Eq.trans (b:=cG (x71 It a b f) a b f) (by kernel_rfl) (by simp only[e71]<;>rfl)
theorem e62(It:K_)(a:LB)(b:Bool)(f:Int):x62 It a b f=Pk (λg m p o u v h k n=>It (t37 a b f g m p o u v h k n)) a b f:=Eq.trans (b:=cQ (x71 It a b f) a b f) (by kernel_rfl) (by simp only[e71]<;>rfl)
theorem e61(It:K_)(a:LB)(b:Bool)(f:Int):x61 It a b f=Ug (λg m p o u v h k n=>It (t37 a b f g m p o u v h k n)) a b f:=Eq.trans (b:=MK (x62 It a b f) a b f) (by kernel_rfl) (by simp only[e62]<;>rfl)
theorem e75(It:K_)(a:LB)(b:Bool)(f:Int):x75 It a b f=Mp (λg m p o u v h k n=>It (t37 a b f g m p o u v h k n)) a b f:=Eq.trans (b:=eD (x71 It a b f) a b f) (by kernel_rfl) (by simp only[e71]<;>rfl)
theorem e74(It:K_)(a:LB)(b:Bool)(f:Int):x74 It a b f=Ls (λg m p o u v h k n=>It (t37 a b f g m p o u v h k n)) a b f:=Eq.trans (b:=NX (x75 It a b f) a b f) (by kernel_rfl) (by simp only[e75]<;>rfl)
theorem e64(It:K_)(a:LB)(b:Bool)(f:Int):x64 It a b f=MZ (λg m p o u v h k n=>It (t37 a b f g m p o u v h k n)) a b f:=Eq.trans (b:=NO (x75 It a b f) (x74 It a b f) a b f) (by kernel_rfl) (by simp only[e75,e74]<;>rfl)
theorem e73(It:K_)(a:LB)(b:Bool)(f:Int):x73 It a b f=Up (λg m p o u v h k n=>It (t37 a b f g m p o u v h k n)) a b f:=Eq.trans (b:=NA (x64 It a b f) a b f) (by kernel_rfl) (by simp only[e64]<;>rfl)
theorem e78(It:K_)(a:LB)(b:Bool)(f:Int):x78 It a b f=Um (λg m p o u v h k n=>It (t37 a b f g m p o u v h k n)) a b f:=Eq.trans (b:=dY (x71 It a b f) a b f) (by kernel_rfl) (by simp only[e71]<;>rfl)
theorem e77(It:K_)(a:LB)(b:Bool)(f:Int):x77 It a b f=NF (λg m p o u v h k n=>It (t37 a b f g m p o u v h k n)) a b f:=Eq.trans (b:=GN (x78 It a b f) a b f) (by kernel_rfl) (by rw[lP];simp only[e78]<;>rfl)
theorem e76(It:K_)(a:LB)(b:Bool)(f:Int):x76 It a b f=Tz (λg m p o u v h k n=>It (t37 a b f g m p o u v h k n)) a b f:=Eq.trans (b:=MX (x77 It a b f) a b f) (by kernel_rfl) (by simp only[e77]<;>rfl)
theorem i37(a:LB)(b:Bool)(f:Int):∀(q:Nat) (g:LB) (m p o u v h:Int) (k:LI) (n:LB),z37 q (t37 a b f g m p o u v h k n)=Bd a b f q g m p o u v h k n:=
 ind (λ_ _ _ _ _ _ _ _ _=>by kernel_rfl) λq ih g m p o u v h k n=>Eq.trans (b:=HO (x62 (z37 q) a b f) (x61 (z37 q) a b f) (x75 (z37 q) a b f) (x73 (z37 q) a b f) (x74 (z37 q) a b f) (x78 (z37 q) a b f) (x76 (z37 q) a b f) (x71 (z37 q) a b f) (x70 (z37 q) a b f) a b f g m p o u v h k n) (by kernel_rfl) (by rw[oA];simp only[e62,e61,e75,e73,e74,e78,e76,e71,e70,ih]<;>rfl)
theorem e37:x37=cI:=by funext a b f g m p o u v h k n;exact Eq.trans (by kernel_rfl) ((i37 a b f Ed g m p o u v h k n).trans (by rw[Bg];rfl))
def F:=u13 Ds
theorem rn x:H.u P_ x=F x:=Eq.trans (b:=u13 (DI x37) x) (by kernel_rfl) (by simp only[e37]<;>rfl)
def c:Con:=⟨H.p,H.r,F⟩
theorem ok:ConOk P_ gl 18 c:=cr H func18 (.cons F19.ok (.cons KC (.cons F47.ok (.cons F48.ok (.cons F49.ok (.cons F50.ok (.cons F59.ok (.cons F61.ok (.cons F62.ok (.cons F85.ok (.cons F104.ok (.cons F111.ok (.cons F150.ok (.cons F151.ok (.cons F152.ok .nil))))))))))))))) (Ft.cons ent60 (Ft.cons ent108 (Ft.cons ent109 (Ft.cons ent110 Ft.nil)))) rn
end F18
namespace F54
noncomputable def H:Hd:=⟨[Sb],[.agg [Ss,Ob 5, .agg [Si,Si,Si,Si,Si],Ol 3,Si,Sb,Sz,Si],Sz], .d,⟨[(17,F17.c),(18,F18.c)],gl,false⟩,[],f54⟩
def F:=Tj
theorem rn x:H.u P_ x=F x:=by kernel_rfl
def c:Con:=⟨H.p,H.r,F⟩
theorem ok:ConOk P_ gl 54 c:=co H func54 (.cons F17.ok (.cons F18.ok .nil)) rn
end F54
namespace F106
abbrev R_:=(Int×Int)
noncomputable def H:Hd:=⟨[Sb],[Si,Si],(.seq .d (.seq .d (.cut [0,4] [] .d .d))),⟨[(100,F100.c),(145,F145.c),(146,F146.c),(147,F147.c)],gl,false⟩,[],f106⟩
def x2(a:LB):Option R_:=H.e P_ [r,r,r] ⟨[(0,vb a),(4,vi (Am (Ac a) (32:Int)))],[],[]⟩
theorem e2:x2=mC:=by kernel_rfl
def F:=sV
theorem rn x:H.u P_ x=F x:=Eq.trans (b:=oB x2 x) (by kernel_rfl) (by simp only[e2]<;>rfl)
def c:Con:=⟨H.p,H.r,F⟩
theorem ok:ConOk P_ gl 106 c:=co H func106 (.cons F100.ok (.cons F145.ok (.cons F146.ok (.cons F147.ok .nil)))) rn
end F106
namespace F52
abbrev R_:=(Int×Int)
abbrev K_:=S->Option R_
noncomputable def H:Hd:=⟨[Sb],[Si,Si],(.seq .d (.seq .d (.seq .d (.seq .d (.cut [5] [] (.blk (.loop [1,4,5] [] (.seq .d (.cut [1,4,5] [] (.blk (.cut [1,4,5,6] [] (.keep [1,4,5,6,16,17] true) .d)) .d)))) .d))))),⟨[(106,F106.c)],gl,false⟩,[(105, .d)],f52⟩
def t8(a:Int)(b:LB):S:=⟨[(1, .ptr 0 []),(4, .fn 105 [.ptr 0 []]),(5,vi a)],[.box 27 (vb b)],[]⟩
def z8:Nat->S->Option R_:=H.i P_ [r,r,r,r,l,d]
def x14(a:Int):Option R_:=H.e P_ [r,r,r,r,r] ⟨[(5,vi a)],[],[]⟩
def x12(kn8:K_)(a:Int)(g:LB):Option R_:=H.e P_ [r,r,r,r,l,d,(lp kn8),r,r] ⟨[(1, .ptr 0 []),(4, .fn 105 [.ptr 0 []]),(5,vi a)],[.box 27 (vb g)],[]⟩
def x11(kn8:K_)(a f:Int)(b:LB):Option R_:=H.e P_ [r,r,r,r,l,d,(lp kn8),r,l,d,r] ⟨[(1, .ptr 0 []),(4, .fn 105 [.ptr 0 []]),(5,vi a),(6,vi f)],[.box 27 (vb b)],[]⟩
def x8(a:Int)(b:LB):Option R_:=H.e P_ [r,r,r,r,l,d] (t8 a b)
theorem e14:x14=dO:=by kernel_rfl
theorem e12(kn8:K_):x12 kn8=NM (λa b=>kn8 (t8 a b)):=by kernel_rfl
theorem e11(kn8:K_):x11 kn8=MQ (λa b=>kn8 (t8 a b)):=Eq.trans (b:=MY (x12 kn8)) (by kernel_rfl) (by simp only[e12]<;>rfl)
theorem i8:∀(q:Nat) (a:Int) (b:LB),z8 q (t8 a b)=Wz q a b:=
 ind (λ_ _=>by kernel_rfl) λq ih a b=>Eq.trans (b:=SG (x11 (z8 q)) x14 a b) (by kernel_rfl) (by simp only[e11,e14,ih]<;>rfl)
theorem e8:x8=iS:=by funext a b;exact Eq.trans (by kernel_rfl) ((i8 Ed a b).trans (by rw[Bg];rfl))
def F:=GY
theorem rn x:H.u P_ x=F x:=Eq.trans (b:=SA x8 x) (by kernel_rfl) (by simp only[e8]<;>rfl)
def c:Con:=⟨H.p,H.r,F⟩
theorem ok:ConOk P_ gl 52 c:=cr H func52 (.cons F106.ok .nil) (Ft.cons ent105 Ft.nil) rn
end F52
namespace F64
noncomputable def H:Hd:=⟨[.agg [Ss,Sb, .agg [Si,Si,Si,Si,Si],Sl,Si,Sb,Sz,Si]],[Si], .d,⟨[(46,Xi),(47,F47.c),(52,F52.c)],gl,false⟩,[],f64⟩
def F:=u12 JX
theorem rn x:H.u P_ x=F x:=by kernel_rfl
def c:Con:=⟨H.p,H.r,F⟩
theorem ok:ConOk P_ gl 64 c:=co H func64 (.cons KC (.cons F47.ok (.cons F52.ok .nil))) rn
end F64
namespace F20
noncomputable def H:Hd:=⟨[.agg [Ss,Sb, .agg [Si,Si,Si,Si,Si],Sl,Si,Sb,Sz,Si]],[.agg [Ss,Ob 5, .agg [Si,Si,Si,Si,Si],Ol 3,Si,Sb,Sz,Si],Si], .d,⟨[(59,F59.c),(62,F62.c),(64,F64.c)],gl,false⟩,[],f20⟩
def F:=u12 Tv
theorem rn x:H.u P_ x=F x:=by kernel_rfl
def c:Con:=⟨H.p,H.r,F⟩
theorem ok:ConOk P_ gl 20 c:=co H func20 (.cons F59.ok (.cons F62.ok (.cons F64.ok .nil))) rn
end F20
namespace F55
noncomputable def H:Hd:=⟨[Sb,Ss],[.agg [Ss,Ob 5, .agg [Si,Si,Si,Si,Si],Ol 3,Si,Sb,Sz,Si],Si], .d,⟨[(17,F17.c),(18,F18.c),(20,F20.c)],gl,false⟩,[],f55⟩
def F:=u2 Nk
theorem rn x:H.u P_ x=F x:=by kernel_rfl
def c:Con:=⟨H.p,H.r,F⟩
theorem ok:ConOk P_ gl 55 c:=co H func55 (.cons F17.ok (.cons F18.ok (.cons F20.ok .nil))) rn
end F55
namespace F14
noncomputable def H:Hd:=⟨[],[Sz], .d,⟨[(53,F53.c),(54,F54.c),(55,F55.c)],gl,false⟩,[],f14⟩
noncomputable def F(x:Unit):=Vx
theorem rn x:H.u P_ x=F x:=by kernel_rfl
def c:Con:=⟨H.p,H.r,F⟩
theorem ok:ConOk P_ gl 14 c:=co H func14 (.cons F53.ok (.cons F54.ok (.cons F55.ok .nil))) rn
end F14
namespace F36
noncomputable def H:Hd:=⟨[.agg [Si,Si,Si,Sw]],[.agg [Si,Si]], .d,⟨[],gl,false⟩,[],f36⟩
def F:=u4 Iy
theorem rn x:H.u P_ x=F x:=by kernel_rfl
def c:Con:=⟨H.p,H.r,F⟩
theorem ok:ConOk P_ gl 36 c:=co H func36 .nil rn
end F36
namespace F119
noncomputable def H:Hd:=⟨[Si],[Si], .d,⟨[],gl,false⟩,[],f119⟩
def F:=Jy
theorem rn x:H.u P_ x=F x:=by kernel_rfl
def c:Con:=⟨H.p,H.r,F⟩
theorem ok:ConOk P_ gl 119 c:=co H func119 .nil rn
end F119
namespace F80
noncomputable def H:Hd:=⟨[.agg [Si,Si]],[Si], .d,⟨[(119,F119.c)],gl,false⟩,[],f80⟩
def F:=u2 Df
theorem rn x:H.u P_ x=F x:=by kernel_rfl
def c:Con:=⟨H.p,H.r,F⟩
theorem ok:ConOk P_ gl 80 c:=co H func80 (.cons F119.ok .nil) rn
end F80
namespace F81
abbrev R_:=Int
noncomputable def H:Hd:=⟨[Si,Sw],[Si],(.seq .d (.seq .d (.seq .d (.seq .d (.cut [] [] (.seq .d (.blk (.loop [1,5,6] [] .d))) .d))))),⟨[(119,F119.c)],gl,false⟩,[],f81⟩
def t4(a:LX)(b f:Int):S:=⟨[(1,vw a),(5,vi b),(6,vi f)],[],[]⟩
def z4:Nat->S->Option R_:=H.i P_ [r,r,r,r,l,r,d]
def x6:Option R_:=H.e P_ [r,r,r,r,r] ⟨[],[],[]⟩
def x4(a:LX)(b f:Int):Option R_:=H.e P_ [r,r,r,r,l,r,d] (t4 a b f)
theorem e6:x6=LC:=by kernel_rfl
theorem i4(a:LX)(b:Int):∀(q:Nat) (f:Int),z4 q (t4 a b f)=Ba a b q f:=
 ind (λ_=>by kernel_rfl) λq ih f=>Eq.trans (b:=Cm x6 (λf=>(z4 q) (t4 a b f)) a b f) (by kernel_rfl) (by simp only[e6,ih]<;>rfl)
theorem e4:x4=LG:=by funext a b f;exact Eq.trans (by kernel_rfl) ((i4 a b Ed f).trans (by rw[Bg];rfl))
def F:=u2 Ax
theorem rn x:H.u P_ x=F x:=Eq.trans (b:=u2 (De x4) x) (by kernel_rfl) (by simp only[e4]<;>rfl)
def c:Con:=⟨H.p,H.r,F⟩
theorem ok:ConOk P_ gl 81 c:=co H func81 (.cons F119.ok .nil) rn
end F81
namespace F35
noncomputable def H:Hd:=⟨[.agg [Si,Si],Sw],[Si], .d,⟨[(80,F80.c),(81,F81.c)],gl,false⟩,[],f35⟩
def F:=u3 Cp
theorem rn x:H.u P_ x=F x:=by kernel_rfl
def c:Con:=⟨H.p,H.r,F⟩
theorem ok:ConOk P_ gl 35 c:=co H func35 (.cons F80.ok (.cons F81.ok .nil)) rn
end F35
namespace F82
noncomputable def H:Hd:=⟨[.agg [Si,Si],Si],[Si], .d,⟨[(80,F80.c)],gl,false⟩,[],f82⟩
def F:=u3 Dr
theorem rn x:H.u P_ x=F x:=by kernel_rfl
def c:Con:=⟨H.p,H.r,F⟩
theorem ok:ConOk P_ gl 82 c:=co H func82 (.cons F80.ok .nil) rn
end F82
namespace F153
noncomputable def H:Hd:=⟨[Si],[Si,Si], .d,⟨[],gl,false⟩,[],f153⟩
def F:=Rg
theorem rn x:H.u P_ x=F x:=by kernel_rfl
def c:Con:=⟨H.p,H.r,F⟩
theorem ok:ConOk P_ gl 153 c:=co H func153 .nil rn
end F153
namespace F120
abbrev R_:=(LI×Int)
noncomputable def H:Hd:=⟨[Si,Si],[Ol 3,Si],(.seq .d (.seq .d (.seq .d (.seq .d (.cut [8] [] (.blk (.loop [1,6,8] [⟨8,[], .own 3 (.int .i64)⟩] .d)) .d))))),⟨[(153,F153.c)],gl,false⟩,[],f120⟩
def t4(b f:Int)(a:LI):S:=⟨[(1,vi f),(6,vi b),(8, .own 0)],[Ai 3 a],[]⟩
def z4:Nat->S->Option R_:=H.i P_ [r,r,r,r,l,d]
def x6(a:LI):Option R_:=H.e P_ [r,r,r,r,r] ⟨[(8, .own 0)],[Ai 3 a],[]⟩
def x4(b f:Int)(a:LI):Option R_:=H.e P_ [r,r,r,r,l,d] (t4 b f a)
theorem e6:x6=CH:=by kernel_rfl
theorem i4(b:Int):∀(q:Nat) (f:Int) (a:LI),z4 q (t4 b f a)=Kk b q f a:=
 ind (λ_ _=>by kernel_rfl) λq ih f a=>Eq.trans (b:=Ti x6 (λf a=>(z4 q) (t4 b f a)) b f a) (by kernel_rfl) (by simp only[e6,ih]<;>rfl)
theorem e4:x4=BW:=by funext b f a;exact Eq.trans (by kernel_rfl) ((i4 b Ed f a).trans (by rw[Bg];rfl))
def F:=u2 BB
theorem rn x:H.u P_ x=F x:=Eq.trans (b:=u2 (Tr x4) x) (by kernel_rfl) (by simp only[e4]<;>rfl)
def c:Con:=⟨H.p,H.r,F⟩
theorem ok:ConOk P_ gl 120 c:=co H func120 (.cons F153.ok .nil) rn
end F120
namespace F83
noncomputable def H:Hd:=⟨[Si,Si],[Si,Si], .d,⟨[(120,F120.c)],gl,false⟩,[],f83⟩
def F:=u2 Mi
theorem rn x:H.u P_ x=F x:=by kernel_rfl
def c:Con:=⟨H.p,H.r,F⟩
theorem ok:ConOk P_ gl 83 c:=co H func83 (.cons F120.ok .nil) rn
end F83
namespace F37
noncomputable def H:Hd:=⟨[.agg [Si,Si,Si,Sw],Si],[Sz], .d,⟨[(36,F36.c),(82,F82.c),(83,F83.c)],gl,false⟩,[],f37⟩
def F:=u5 HR
theorem rn x:H.u P_ x=F x:=by kernel_rfl
def c:Con:=⟨H.p,H.r,F⟩
theorem ok:ConOk P_ gl 37 c:=co H func37 (.cons F36.ok (.cons F82.ok (.cons F83.ok .nil))) rn
end F37
namespace F9
noncomputable def H:Hd:=⟨[.agg [Si,Si,Si,Sw]],[Si], .d,⟨[(35,F35.c),(36,F36.c),(37,F37.c)],gl,false⟩,[],f9⟩
def F:=u4 Dg
theorem rn x:H.u P_ x=F x:=by kernel_rfl
def c:Con:=⟨H.p,H.r,F⟩
theorem ok:ConOk P_ gl 9 c:=co H func9 (.cons F35.ok (.cons F36.ok (.cons F37.ok .nil))) rn
end F9
namespace F56
noncomputable def H:Hd:=⟨[Sb],[.agg [.agg [Si,Si,Si,Si,Si], .agg [Si,Si,Si,Si,Si],Ol 3],Si], .d,⟨[(46,Xi),(47,F47.c),(49,F49.c)],gl,false⟩,[],f56⟩
def F:=FD
theorem rn x:H.u P_ x=F x:=by kernel_rfl
def c:Con:=⟨H.p,H.r,F⟩
theorem ok:ConOk P_ gl 56 c:=co H func56 (.cons KC (.cons F47.ok (.cons F49.ok .nil))) rn
end F56
namespace F15
abbrev R_:=(Int×Int×Int×Int×Int×Int)
noncomputable def H:Hd:=⟨[Sb],[.agg [Si,Si,Si,Si,Si],Si],(.seq .d (.seq .d (.seq .d (.cut [0,2,4] [] (.cut [0,2,4,7] [] (.keep [0,2,4,7,17,18,19,20,21] true) .d) .d)))),⟨[(50,F50.c),(56,F56.c)],gl,false⟩,[(57,(.seq .d (.seq .d (.cut [0,6,7] [] .d (.seq .d (.seq .d (.seq .d (.cut [6] [] (.seq .d (.blk (.loop [0,6,60,61,62] [] .d))) .d))))))))],f15⟩
def t8(u:LI)(a:LB)(k m n o p f g b:Int)(h:LI)(w v:Int):S:=⟨[(0, .ptr 0 []),(6, .own 1),(60, .own 1),(61,vi (Ac u)),(62,vi w)],[.box 102 (.agg [.agg [vi k,vi m,vi n,vi o,vi p], .agg [vi f,vi g,vi b,vi (Ad (Ad b (Bn (4:Int) (Ac u))) (4:Int)),vi v], .own 3]),Ai 3 u, .box 41 (.agg [vi 0,vi 0,vi 0,vi 0,vi 0]),Ai 3 h],[[(0,vb a),(2, .ptr 2 []),(4, .ptr 0 []),(18,vb a)]]⟩
def z8:Nat->S->Option R_:=H.i P_ [r,r,r,l,l,(call 1 57),r,r,r,r,r,r,l,r,d]
def x12(a:LB)(k m n o p f g b aa y:Int)(h:LI):Option R_:=H.e P_ [r,r,r,r] ⟨[(0,vb a),(2, .ptr 0 []),(4, .ptr 1 [])],[.box 41 (.agg [vi 0,vi 0,vi 0,vi 0,vi 0]), .box 102 (.agg [.agg [vi k,vi m,vi n,vi o,vi p], .agg [vi f,vi g,vi b,vi aa,vi y], .own 2]),Ai 3 h],[]⟩
def x11(a:LB)(k m n o p f g b:Int)(h:LI)(ae aa y:Int):Option R_:=H.e P_ [r,r,r,l,r] ⟨[(0,vb a),(2, .ptr 0 []),(4, .ptr 1 []),(7,vi ae)],[.box 41 (.agg [vi 0,vi 0,vi 0,vi 0,vi 0]), .box 102 (.agg [.agg [vi k,vi m,vi n,vi o,vi p], .agg [vi f,vi g,vi b,vi aa,vi y], .own 2]),Ai 3 h],[]⟩
def x10(a:LB)(u:LI)(k m n o p f g b v:Int)(h:LI):Option R_:=H.e P_ [r,r,r,l,l,(call 1 57),r,r,r,r,r,r,r] ⟨[(6, .own 0)],[Ai 3 u, .box 41 (.agg [vi 0,vi 0,vi 0,vi 0,vi 0]), .box 102 (.agg [.agg [vi k,vi m,vi n,vi o,vi p], .agg [vi f,vi g,vi b,vi (Ad (Ad b (Bn (4:Int) (Ac u))) (4:Int)),vi v], .own 3]),Ai 3 h],[[(0,vb a),(2, .ptr 1 []),(4, .ptr 2 []),(18,vb a)]]⟩
def x8(u:LI)(a:LB)(k m n o p f g b:Int)(h:LI)(w v:Int):Option R_:=H.e P_ [r,r,r,l,l,(call 1 57),r,r,r,r,r,r,l,r,d] (t8 u a k m n o p f g b h w v)
def x7(ab:Int)(a:LB)(k m n o p f g b ac ad:Int)(u h:LI):Option R_:=H.e P_ [r,r,r,l,l,(call 1 57),r,r,r] ⟨[(0, .ptr 0 []),(6, .own 1),(7,vi ab)],[.box 102 (.agg [.agg [vi k,vi m,vi n,vi o,vi p], .agg [vi f,vi g,vi b,vi ac,vi ad], .own 3]),Ai 3 u, .box 41 (.agg [vi 0,vi 0,vi 0,vi 0,vi 0]),Ai 3 h],[[(0,vb a),(2, .ptr 2 []),(4, .ptr 0 []),(18,vb a)]]⟩
theorem e12:x12=SE:=by kernel_rfl
theorem e11:x11=Wr:=Eq.trans (b:=SO x12) (by kernel_rfl) (by simp only[e12]<;>rfl)
theorem e10:x10=DL:=Eq.trans (b:=RE x11) (by kernel_rfl) (by simp only[e11]<;>rfl)
theorem i8(u:LI)(a:LB)(k m n o p f g b:Int)(h:LI):∀(q:Nat) (w v:Int),z8 q (t8 u a k m n o p f g b h w v)=Ur u a k m n o p f g b h q w v:=
 ind (λ_ _=>by kernel_rfl) λq ih w v=>Eq.trans (b:=IJ x10 (λw v=>(z8 q) (t8 u a k m n o p f g b h w v)) u a k m n o p f g b h w v) (by kernel_rfl) (by simp only[e10,ih]<;>rfl)
theorem e8:x8=XX:=by funext u a k m n o p f g b h w v;exact Eq.trans (by kernel_rfl) ((i8 u a k m n o p f g b h Ed w v).trans (by rw[Bg];rfl))
theorem e7:x7=YD:=Eq.trans (b:=YG x11 x8) (by kernel_rfl) (by simp only[e11,e8]<;>rfl)
def F:=ZZ
theorem rn x:H.u P_ x=F x:=Eq.trans (b:=UN x11 x7 x) (by kernel_rfl) (by simp only[e11,e7]<;>rfl)
def c:Con:=⟨H.p,H.r,F⟩
theorem ok:ConOk P_ gl 15 c:=cr H func15 (.cons F50.ok (.cons F56.ok .nil)) (Ft.cons ent57 Ft.nil) rn
end F15
namespace F58
noncomputable def H:Hd:=⟨[Si],[Si], .d,⟨[],gl,false⟩,[],f58⟩
def F:=Ri
theorem rn x:H.u P_ x=F x:=by kernel_rfl
def c:Con:=⟨H.p,H.r,F⟩
theorem ok:ConOk P_ gl 58 c:=co H func58 .nil rn
end F58
namespace F16
abbrev R_:=LI
noncomputable def H:Hd:=⟨[Si,Si],[Ol 3],(.seq .d (.seq .d (.cut [5] [] (.seq .d (.blk (.loop [0,5,6] [⟨5,[], .own 3 (.int .i64)⟩] .d))) .d))),⟨[(58,F58.c)],gl,false⟩,[],f16⟩
def t4(b f:Int)(a:LI):S:=⟨[(0,vi b),(5, .own 0),(6,vi f)],[Ai 3 a],[]⟩
def z4:Nat->S->Option R_:=H.i P_ [r,r,l,r,d]
def x6(a:LI):Option R_:=H.e P_ [r,r,r] ⟨[(5, .own 0)],[Ai 3 a],[]⟩
def x4(b f:Int)(a:LI):Option R_:=H.e P_ [r,r,l,r,d] (t4 b f a)
theorem e6:x6=Lq:=by kernel_rfl
theorem i4(b:Int):∀(q:Nat) (f:Int) (a:LI),z4 q (t4 b f a)=Ep b q f a:=
 ind (λ_ _=>by kernel_rfl) λq ih f a=>Eq.trans (b:=Ik x6 (λf a=>(z4 q) (t4 b f a)) b f a) (by kernel_rfl) (by simp only[e6,ih]<;>rfl)
theorem e4:x4=Ye:=by funext b f a;exact Eq.trans (by kernel_rfl) ((i4 b Ed f a).trans (by rw[Bg];rfl))
def F:=u2 Ei
theorem rn x:H.u P_ x=F x:=Eq.trans (b:=u2 (Xu x4) x) (by kernel_rfl) (by simp only[e4]<;>rfl)
def c:Con:=⟨H.p,H.r,F⟩
theorem ok:ConOk P_ gl 16 c:=co H func16 (.cons F58.ok .nil) rn
end F16
namespace F4
def Ky(j20:Int->LB->Bool->Int->Int->Int->Int->Int->Int->LX->LI->LB->LB->Int->Int->Int->Int->Int->LI->Int->LB->Bool->Int->LB->Int->Int->Int->Int->Int->Int->LB->Bool->Int->LB->LI->Option Bool)(a:Int)(f:LB)(b:Bool)(o:LB)(w v bd g k m:Int)(h:LX)(n:LI)(ar:LB)(av aw ax ay az ap:Int)(aq:LB)(bb:Bool)(bc:Int)(au:LB)(ba:LI):Option Bool:=
(Bk o (Am w 1) w).bind λdn=>
(λds:Option Bool=>
both (
bo (
ds)) [
ds]) (
(Ds ar au av aw ax ay az ba ap aq bb bc dn).bind λ(bh,bq,bi,bj,bk,bl,bm,br,be,bf,bn,bp,bg)=>
j20 a f b v bd bg g k m h n ar au av aw ax ay az ba ap aq bb bc bh bi bj bk bl bm be bf bn bp bq br)
theorem ES: @Ky= @Hv:=by
  unfold Ky Hv
  try simp only[WX,DX,DY]
  all_goals
    repeat (refine funext λ_=>?_)
    repeat' first
      |with_reducible rfl
      |with_reducible refine Nb ?_ ?_
      |with_reducible refine Nh ?_ ?_ ?_
      |with_reducible refine Mz ?_ ?_ ?_ ?_
      |((with_reducible refine Rr ?_ ?_);focus (intro h;first|(subst h;rfl)|(simp only[h];rfl)|(simp[Dy,Ac,h];done)))
      |with_reducible refine Rt λx=>?_
      |with_reducible refine AP (λ_=>?_) (λ_=>?_)
      |(refine Hc (λh=>by simp only[h,Rv,Em,Eb,ite_self]) (λx h=>?_);(try simp only[h,Em]))
      |(refine Jf (λh=>?_) (λh=>?_)<;>simp only[h,if_true,if_false,Bool.false_eq_true])
def Kv(j19:Int->LB->Bool->LB->Int->Int->Int->Int->Int->Int->LX->LI->LB->Int->Int->Int->Int->Int->Int->LB->Bool->Int->LB->LI->Option Bool)(a:Int)(f:LB)(b:Bool)(o:LB)(w v g k m:Int)(h:LX)(aa ab ac p ad:Int)(n:LI)(ae:LB)(af ag ah ai aj ak:Int)(y:LB)(al:Bool)(am:Int)(an:LB)(u:LI):Option Bool:=
(λdt:Option Bool=>
both (
both (
(Bk o p (Am w 1)).bind λbw=>
(λfs:Option Bool=>
bo (
fs)) (
(Ds ae an af ag ah ai aj u ak y al am bw).bind λ(ar,au,av,aw,ax,ay,az,ba,ap,aq,bb,bc,bd)=>
j19 a f b o w v bd g k m h n ar av aw ax ay az ap aq bb bc au ba)) [
dt]) [
(Bk o p (Am w 1)).bind λbw=>
(λdu:Option Bool=>
both (
bo (
du)) [
du]) (
(Ds ae an af ag ah ai aj u ak y al am bw).bind λ(ar,au,av,aw,ax,ay,az,ba,ap,aq,bb,bc,bd)=>
j19 a f b o w v bd g k m h n ar av aw ax ay az ap aq bb bc au ba),
bo (
dt)]) (
(Bk o p (Am w 1)).bind λbw=>
(Ds ae an af ag ah ai aj u ak y al am bw).bind λ(ar,au,av,aw,ax,ay,az,ba,ap,aq,bb,bc,bd)=>
j19 a f b o w v bd g k m h n ar av aw ax ay az ap aq bb bc au ba)
theorem EG: @Kv= @Hq:=by
  unfold Kv Hq
  try simp only[WX,DX,DY]
  all_goals
    repeat (refine funext λ_=>?_)
    repeat' first
      |with_reducible rfl
      |with_reducible refine Nb ?_ ?_
      |with_reducible refine Nh ?_ ?_ ?_
      |with_reducible refine Mz ?_ ?_ ?_ ?_
      |((with_reducible refine Rr ?_ ?_);focus (intro h;first|(subst h;rfl)|(simp only[h];rfl)|(simp[Dy,Ac,h];done)))
      |with_reducible refine Rt λx=>?_
      |with_reducible refine AP (λ_=>?_) (λ_=>?_)
      |(refine Hc (λh=>by simp only[h,Rv,Em,Eb,ite_self]) (λx h=>?_);(try simp only[h,Em]))
      |(refine Jf (λh=>?_) (λh=>?_)<;>simp only[h,if_true,if_false,Bool.false_eq_true])
def Ku(j13:Int->LB->Bool->LB->Int->Int->Int->Int->Int->LX->Int->Int->Int->Int->Int->LI->LB->Int->Int->Int->Int->Int->Int->LB->Bool->Int->LB->LI->Option Bool)(a:Int)(f:LB)(b:Bool)(o:LB)(bs g k m:Int)(h:LX)(aa ab ac p ad:Int)(n:LI)(bz:LB)(da db dc dd de df:Int)(dg:Bool)(dh:Int)(di:LB)(dj:LI)(dk:LB):Option Bool:=
(λft:Option Bool=>
bo (
ft)) (
(Bk o 0 p).bind λdp=>
(Ds bz di da db dc dd de dj df dk dg dh dp).bind λ(ae,an,af,ag,ah,ai,aj,u,ak,y,al,am,bx)=>
j13 a f b o bs bx g k m h aa ab ac p ad n ae af ag ah ai aj ak y al am an u)
theorem EO: @Ku= @Hy:=by
  unfold Ku Hy;simp only[WX,DX,DY]
abbrev R_:=Bool
abbrev K_:=S->Option R_
noncomputable def H:Hd:=⟨[.agg [Si,Si,Si,Sw],Ss,Si,Sb],[Sz],(.seq .d (.seq .d (.seq .d (.seq .d (.seq .d (.seq .d (.seq .d (.seq .d (.cut [2,3,4,9,10,12,14,15,16] [⟨10,[], .ro (.int .u8)⟩,⟨66,[], .ro (.int .u8)⟩,⟨69,[], .ro (.int .u8)⟩] .d (.cut [2,3,4,9,10,12,14,15,16,17] [] (.mode false) (.seq .d (.seq .d (.cut [2,3,4,9,10,12,14,15,18,19] [] (.seq .d (.blk (.loop [2,3,4,9,10,12,14,15,18,19,20] [] (.seq .d (.seq (.blk (.cut [2,3,4,9,10,12,14,15,18,19,20] [] .d .d)) .d))))) (.cut [2,3,4,9,10,14,18,19,21,22] [] (.mode false) (.cut [2,3,4,9,14,19,21,22,23,24] [] (.mode false) (.cut [2,3,4,9,19,21,22,23,24,25,26] [] .d (.cut [2,3,9,21,22,23,24,25,26,27,28] [] .d .d))))))))))))))))),⟨[(9,F9.c),(10,F10.c),(14,F14.c),(15,F15.c),(16,F16.c),(17,F17.c),(18,F18.c),(19,F19.c),(20,F20.c)],gl,false⟩,[],f4⟩
def t14(a:Int)(f:LB)(b:Bool)(o:LB)(g k m:Int)(h:LX)(aa ab ac p ad:Int)(n:LI)(ae:LB)(af ag ah ai aj ak:Int)(y:LB)(al:Bool)(am:Int)(an:LB)(u:LI)(w v ao:Int):S:=⟨[(2,vi a),(3,vb f),(4, .ptr 0 []),(9,vt b),(10,vb o),(12, .ptr 1 []),(14, .own 2),(15, .ptr 3 []),(18,vi w),(19,vi v),(20,vi ao)],[.box 24 (.agg [vi g,vi k,vi m,vw h]), .box 41 (.agg [vi aa,vi ab,vi ac,vi p,vi ad]),Ai 3 n, .box 46 (.agg [vs ae, .own 4, .agg [vi af,vi ag,vi ah,vi ai,vi aj], .own 5,vi ak,vb y,vt al,vi am]),Ab 5 an,Ai 3 u],[]⟩
def z14:Nat->S->Option R_:=H.i P_ [r,r,r,r,r,r,r,r,r,r,r,r,l,r,d]
def x22(a:Int)(f:LB)(b:Bool)(bd bg bt dl:Int)(ar au:LB)(av aw ax ay az:Int)(ba:LI)(ap:Int)(aq:LB)(bb:Bool)(bc:Int)(bh:LB)(bi bj bk bl bm be:Int)(bf:LB)(bn:Bool)(bp:Int)(bu bv bq:LB)(br:LI):Option R_:=H.e P_ [r,r,r,r,r,r,r,r,r,r,r,r,r,r,r,r,r] ⟨[(2,vi a),(3,vb f),(9,vt b),(21, .ptr 0 []),(22,vi bd),(23, .ptr 1 []),(24,vi bg),(25, .own 2),(26,vi bt),(27, .own 3),(28,vi dl)],[.box 46 (.agg [vs ar,vb au, .agg [vi av,vi aw,vi ax,vi ay,vi az],vl ba,vi ap,vb aq,vt bb,vi bc]), .box 46 (.agg [vs bh, .own 4, .agg [vi bi,vi bj,vi bk,vi bl,vi bm], .own 5,vi be,vb bf,vt bn,vi bp]),Ab 5 bu,Ab 5 bv,Ab 5 bq,Ai 3 br],[]⟩
def x21(a:Int)(f:LB)(b:Bool)(v bd bg bt g k m:Int)(h:LX)(ar au:LB)(av aw ax ay az:Int)(ba:LI)(ap:Int)(aq:LB)(bb:Bool)(bc:Int)(bh:LB)(bi bj bk bl bm be:Int)(bf:LB)(bn:Bool)(bp:Int)(bu bq:LB)(br:LI):Option R_:=H.e P_ [r,r,r,r,r,r,r,r,r,r,r,r,r,r,r,r] ⟨[(2,vi a),(3,vb f),(4, .ptr 0 []),(9,vt b),(19,vi v),(21, .ptr 1 []),(22,vi bd),(23, .ptr 2 []),(24,vi bg),(25, .own 3),(26,vi bt)],[.box 24 (.agg [vi g,vi k,vi m,vw h]), .box 46 (.agg [vs ar,vb au, .agg [vi av,vi aw,vi ax,vi ay,vi az],vl ba,vi ap,vb aq,vt bb,vi bc]), .box 46 (.agg [vs bh, .own 4, .agg [vi bi,vi bj,vi bk,vi bl,vi bm], .own 5,vi be,vb bf,vt bn,vi bp]),Ab 5 bu,Ab 5 bq,Ai 3 br],[]⟩
def x20(a:Int)(f:LB)(b:Bool)(v bd bg g k m:Int)(h:LX)(n:LI)(ar au:LB)(av aw ax ay az:Int)(ba:LI)(ap:Int)(aq:LB)(bb:Bool)(bc:Int)(bh:LB)(bi bj bk bl bm be:Int)(bf:LB)(bn:Bool)(bp:Int)(bq:LB)(br:LI):Option R_:=H.e P_ [r,r,r,r,r,r,r,r,r,r,r,r,r,r,r] ⟨[(2,vi a),(3,vb f),(4, .ptr 0 []),(9,vt b),(14, .own 1),(19,vi v),(21, .ptr 2 []),(22,vi bd),(23, .ptr 3 []),(24,vi bg)],[.box 24 (.agg [vi g,vi k,vi m,vw h]),Ai 3 n, .box 46 (.agg [vs ar,vb au, .agg [vi av,vi aw,vi ax,vi ay,vi az],vl ba,vi ap,vb aq,vt bb,vi bc]), .box 46 (.agg [vs bh, .own 4, .agg [vi bi,vi bj,vi bk,vi bl,vi bm], .own 5,vi be,vb bf,vt bn,vi bp]),Ab 5 bq,Ai 3 br],[]⟩
def x19(a:Int)(f:LB)(b:Bool)(o:LB)(w v bd g k m:Int)(h:LX)(n:LI)(ar:LB)(av aw ax ay az ap:Int)(aq:LB)(bb:Bool)(bc:Int)(au:LB)(ba:LI):Option R_:=H.e P_ [r,r,r,r,r,r,r,r,r,r,r,r,r,r] ⟨[(2,vi a),(3,vb f),(4, .ptr 0 []),(9,vt b),(10,vb o),(14, .own 1),(18,vi w),(19,vi v),(21, .ptr 2 []),(22,vi bd)],[.box 24 (.agg [vi g,vi k,vi m,vw h]),Ai 3 n, .box 46 (.agg [vs ar, .own 3, .agg [vi av,vi aw,vi ax,vi ay,vi az], .own 4,vi ap,vb aq,vt bb,vi bc]),Ab 5 au,Ai 3 ba],[]⟩
def x18(a:Int)(f:LB)(b:Bool)(o:LB)(w v g k m:Int)(h:LX)(aa ab ac p ad:Int)(n:LI)(ae:LB)(af ag ah ai aj ak:Int)(y:LB)(al:Bool)(am:Int)(an:LB)(u:LI):Option R_:=H.e P_ [r,r,r,r,r,r,r,r,r,r,r,r,r] ⟨[(2,vi a),(3,vb f),(4, .ptr 0 []),(9,vt b),(10,vb o),(12, .ptr 1 []),(14, .own 2),(15, .ptr 3 []),(18,vi w),(19,vi v)],[.box 24 (.agg [vi g,vi k,vi m,vw h]), .box 41 (.agg [vi aa,vi ab,vi ac,vi p,vi ad]),Ai 3 n, .box 46 (.agg [vs ae, .own 4, .agg [vi af,vi ag,vi ah,vi ai,vi aj], .own 5,vi ak,vb y,vt al,vi am]),Ab 5 an,Ai 3 u],[]⟩
def x16(Bd8:K_)(a:Int)(f:LB)(b:Bool)(o:LB)(g k m:Int)(h:LX)(aa ab ac p ad:Int)(n:LI)(ae:LB)(af ag ah ai aj ak:Int)(y:LB)(al:Bool)(am:Int)(an:LB)(u:LI)(w v ao:Int):Option R_:=H.e P_ [r,r,r,r,r,r,r,r,r,r,r,r,l,r,d,(lp Bd8),r,l,d,r] ⟨[(2,vi a),(3,vb f),(4, .ptr 0 []),(9,vt b),(10,vb o),(12, .ptr 1 []),(14, .own 2),(15, .ptr 3 []),(18,vi w),(19,vi v),(20,vi ao)],[.box 24 (.agg [vi g,vi k,vi m,vw h]), .box 41 (.agg [vi aa,vi ab,vi ac,vi p,vi ad]),Ai 3 n, .box 46 (.agg [vs ae, .own 4, .agg [vi af,vi ag,vi ah,vi ai,vi aj], .own 5,vi ak,vb y,vt al,vi am]),Ab 5 an,Ai 3 u],[]⟩
def x14(a:Int)(f:LB)(b:Bool)(o:LB)(g k m:Int)(h:LX)(aa ab ac p ad:Int)(n:LI)(ae:LB)(af ag ah ai aj ak:Int)(y:LB)(al:Bool)(am:Int)(an:LB)(u:LI)(w v ao:Int):Option R_:=H.e P_ [r,r,r,r,r,r,r,r,r,r,r,r,l,r,d] (t14 a f b o g k m h aa ab ac p ad n ae af ag ah ai aj ak y al am an u w v ao)
def x13(a:Int)(f:LB)(b:Bool)(o:LB)(bs bx g k m:Int)(h:LX)(aa ab ac p ad:Int)(n:LI)(ae:LB)(af ag ah ai aj ak:Int)(y:LB)(al:Bool)(am:Int)(an:LB)(u:LI):Option R_:=H.e P_ [r,r,r,r,r,r,r,r,r,r] ⟨[(2,vi a),(3,vb f),(4, .ptr 0 []),(9,vt b),(10,vb o),(12, .ptr 1 []),(14, .own 2),(15, .ptr 3 []),(16,vi bs),(17,vi bx)],[.box 24 (.agg [vi g,vi k,vi m,vw h]), .box 41 (.agg [vi aa,vi ab,vi ac,vi p,vi ad]),Ai 3 n, .box 46 (.agg [vs ae, .own 4, .agg [vi af,vi ag,vi ah,vi ai,vi aj], .own 5,vi ak,vb y,vt al,vi am]),Ab 5 an,Ai 3 u],[]⟩
def x12(a:Int)(f:LB)(b:Bool)(o:LB)(bs g k m:Int)(h:LX)(aa ab ac p ad:Int)(n:LI)(bz:LB)(da db dc dd de df:Int)(dg:Bool)(dh:Int)(di:LB)(dj:LI)(dk:LB):Option R_:=H.e P_ [r,r,r,r,r,r,r,r,r] ⟨[(2,vi a),(3,vb f),(4, .ptr 0 []),(9,vt b),(10,vb o),(12, .ptr 1 []),(14, .own 2),(15, .ptr 3 []),(16,vi bs)],[.box 24 (.agg [vi g,vi k,vi m,vw h]), .box 41 (.agg [vi aa,vi ab,vi ac,vi p,vi ad]),Ai 3 n, .box 46 (.agg [vs bz, .own 4, .agg [vi da,vi db,vi dc,vi dd,vi de], .own 5,vi df, .own 6,vt dg,vi dh]),Ab 5 di,Ai 3 dj,Ab 5 dk],[]⟩
theorem e22:x22=Lt:=by kernel_rfl
theorem e21:x21=Lr:=Eq.trans (b:=Mb x22) (by kernel_rfl) (by simp only[e22]<;>rfl)
theorem e20:x20=Lu:=Eq.trans (b:=Lw x21) (by kernel_rfl) (by simp only[e21]<;>rfl)
theorem e19:x19=Ml:=Eq.trans (b:=Ky x20) (by kernel_rfl) (by rw[ES];simp only[e20]<;>rfl)
theorem e18:x18=Ey:=Eq.trans (b:=Kv x19) (by kernel_rfl) (by rw[EG];simp only[e19]<;>rfl)
theorem e16(Bd8:K_)(a:Int)(f:LB)(b:Bool)(o:LB)(g k m:Int)(h:LX)(aa ab ac p ad:Int)(n:LI)(ae:LB)(af ag ah ai aj ak:Int)(y:LB)(al:Bool)(am:Int)(an:LB)(u:LI):x16 Bd8 a f b o g k m h aa ab ac p ad n ae af ag ah ai aj ak y al am an u=Mk (λw v ao=>Bd8 (t14 a f b o g k m h aa ab ac p ad n ae af ag ah ai aj ak y al am an u w v ao)) a f b o g k m h aa ab ac p ad n ae af ag ah ai aj ak y al am an u:=by kernel_rfl
theorem i14(a:Int)(f:LB)(b:Bool)(o:LB)(g k m:Int)(h:LX)(aa ab ac p ad:Int)(n:LI)(ae:LB)(af ag ah ai aj ak:Int)(y:LB)(al:Bool)(am:Int)(an:LB)(u:LI):∀(q:Nat) (w v ao:Int),z14 q (t14 a f b o g k m h aa ab ac p ad n ae af ag ah ai aj ak y al am an u w v ao)=Db a f b o g k m h aa ab ac p ad n ae af ag ah ai aj ak y al am an u q w v ao:=
 ind (λ_ _ _=>by kernel_rfl) λq ih w v ao=>Eq.trans (b:=Hr (x16 (z14 q) a f b o g k m h aa ab ac p ad n ae af ag ah ai aj ak y al am an u) x18 a f b o g k m h aa ab ac p ad n ae af ag ah ai aj ak y al am an u w v ao) (by kernel_rfl) (by simp only[e16,e18,ih]<;>rfl)
theorem e14:x14=Lz:=by funext a f b o g k m h aa ab ac p ad n ae af ag ah ai aj ak y al am an u w v ao;exact Eq.trans (by kernel_rfl) ((i14 a f b o g k m h aa ab ac p ad n ae af ag ah ai aj ak y al am an u Ed w v ao).trans (by rw[Bg];rfl))
theorem e13:x13=Mq:=Eq.trans (b:=Mn x14) (by kernel_rfl) (by simp only[e14]<;>rfl)
theorem e12:x12=Md:=Eq.trans (b:=Ku x13) (by kernel_rfl) (by rw[EO];simp only[e13]<;>rfl)
def F:=u7 Js
theorem rn x:H.u P_ x=F x:=Eq.trans (b:=u7 (Mu x12) x) (by kernel_rfl) (by simp only[e12]<;>rfl)
def c:Con:=⟨H.p,H.r,F⟩
theorem ok:ConOk P_ gl 4 c:=co H func4 (.cons F9.ok (.cons F10.ok (.cons F14.ok (.cons F15.ok (.cons F16.ok (.cons F17.ok (.cons F18.ok (.cons F19.ok (.cons F20.ok .nil))))))))) rn
end F4
end
end Go.Proofs.YtidigmkmfmopgaaGreatDoor
