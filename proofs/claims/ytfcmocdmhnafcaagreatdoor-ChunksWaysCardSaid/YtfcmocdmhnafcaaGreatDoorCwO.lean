/- A part of the proof of a statement of this seat (see the text that ends in Proof): CwOk. No conditions of its own. -/
import Derived.Test.YtfcmocdmhnafcaaGreatDoorCwBB
import Derived.Test.YtfcmocdmhnafcaaGreatDoorCwPA
import Derived.Test.YtfcmocdmhnafcaaGreatDoorCwHA
import Derived.Test.YtfcmocdmhnafcaaGreatDoorProg
import Derived.KernelRfl
set_option linter.unusedVariables false
set_option linter.unusedSimpArgs false
set_option maxRecDepth 10000
namespace Go.Proofs.YtfcmocdmhnafcaaGreatDoor
open Go Go.Lv Go.Pl Go.Rx Go.Rx.PS
noncomputable section
def g0:List Value:=[.bool true, .int .i64 0]
def g1:List Value:=[.int .i64 2, .int .i64 2, .int .i64 2, .int .i64 4, .int .i64 4]
def g2:List Value:=[.bool false, .int .i64 0]
def g3:List Value:=[.int .u8 0, .int .u8 1, .int .u8 56, .int .u8 2, .int .u8 57, .int .u8 49, .int .u8 28, .int .u8 3, .int .u8 61, .int .u8 58, .int .u8 42, .int .u8 50, .int .u8 38, .int .u8 29, .int .u8 17, .int .u8 4, .int .u8 62, .int .u8 47, .int .u8 59, .int .u8 36, .int .u8 45, .int .u8 43, .int .u8 51, .int .u8 22, .int .u8 53, .int .u8 39, .int .u8 33, .int .u8 30, .int .u8 24, .int .u8 18, .int .u8 12, .int .u8 5, .int .u8 63, .int .u8 55, .int .u8 48, .int .u8 27, .int .u8 60, .int .u8 41, .int .u8 37, .int .u8 16, .int .u8 46, .int .u8 35, .int .u8 44, .int .u8 21, .int .u8 52, .int .u8 32, .int .u8 23, .int .u8 11, .int .u8 54, .int .u8 26, .int .u8 40, .int .u8 15, .int .u8 34, .int .u8 20, .int .u8 31, .int .u8 10, .int .u8 25, .int .u8 14, .int .u8 19, .int .u8 9, .int .u8 13, .int .u8 8, .int .u8 7, .int .u8 6]
def gl:List (Nat×List Value):=[(0,g0),(1,g1),(2,g2),(3,g3)]
theorem mixed:Tryz.prog.follows .mixedOrders=true:=by kernel_rfl
noncomputable abbrev P_:=Tryz.prog
theorem cr(H:Hd){f:Nat}{F:LTy (shL H.p)→Option (LTy (shL H.r))}(hf:P_.funcs[f]? =some H.f)(hT:Ase P_ H.T)(hA:∀p∈H.s,Ent P_ p.1)(h:∀x,H.u P_ x=F x)(hb:okH H=true:=by kernel_rfl):ConOk P_ H.T.gl f ⟨H.p,H.r,F⟩:=Hd.con mixed H hf hT hA hb h
theorem co(H:Hd){f:Nat}{F:LTy (shL H.p)→Option (LTy (shL H.r))}(hf:P_.funcs[f]? =some H.f)(hT:Ase P_ H.T)(h:∀x,H.u P_ x=F x)(hb:(H.s.isEmpty&&okH H)=true:=by kernel_rfl):ConOk P_ H.T.gl f ⟨H.p,H.r,F⟩:=Hd.Cgz mixed H hf hT hb h
theorem ent38:Ent Tryz.prog 38:=Ent.mk Tryz.func38 (by kernel_rfl) rfl
theorem ent55:Ent Tryz.prog 55:=Ent.mk Tryz.func55 (by kernel_rfl) rfl
theorem ent79:Ent Tryz.prog 79:=Ent.mk Tryz.func79 (by kernel_rfl) rfl
theorem ent80:Ent Tryz.prog 80:=Ent.mk Tryz.func80 (by kernel_rfl) rfl
theorem ent81:Ent Tryz.prog 81:=Ent.mk Tryz.func81 (by kernel_rfl) rfl
theorem ent110:Ent Tryz.prog 110:=Ent.mk Tryz.func110 (by kernel_rfl) rfl
theorem ent142:Ent Tryz.prog 142:=Ent.mk Tryz.func142 (by kernel_rfl) rfl
theorem ent145:Ent Tryz.prog 145:=Ent.mk Tryz.func145 (by kernel_rfl) rfl
theorem ent178:Ent Tryz.prog 178:=Ent.mk Tryz.func178 (by kernel_rfl) rfl
theorem ent193:Ent Tryz.prog 193:=Ent.mk Tryz.func193 (by kernel_rfl) rfl
theorem ent197:Ent Tryz.prog 197:=Ent.mk Tryz.func197 (by kernel_rfl) rfl
theorem ent198:Ent Tryz.prog 198:=Ent.mk Tryz.func198 (by kernel_rfl) rfl
theorem ent199:Ent Tryz.prog 199:=Ent.mk Tryz.func199 (by kernel_rfl) rfl
theorem ent202:Ent Tryz.prog 202:=Ent.mk Tryz.func202 (by kernel_rfl) rfl
theorem ent208:Ent Tryz.prog 208:=Ent.mk Tryz.func208 (by kernel_rfl) rfl
theorem ent214:Ent Tryz.prog 214:=Ent.mk Tryz.func214 (by kernel_rfl) rfl
theorem ent229:Ent Tryz.prog 229:=Ent.mk Tryz.func229 (by kernel_rfl) rfl
theorem ent230:Ent Tryz.prog 230:=Ent.mk Tryz.func230 (by kernel_rfl) rfl
theorem ent231:Ent Tryz.prog 231:=Ent.mk Tryz.func231 (by kernel_rfl) rfl
theorem ent233:Ent Tryz.prog 233:=Ent.mk Tryz.func233 (by kernel_rfl) rfl
theorem ent236:Ent Tryz.prog 236:=Ent.mk Tryz.func236 (by kernel_rfl) rfl
theorem ent239:Ent Tryz.prog 239:=Ent.mk Tryz.func239 (by kernel_rfl) rfl
theorem ent268:Ent Tryz.prog 268:=Ent.mk Tryz.func268 (by kernel_rfl) rfl
theorem ent269:Ent Tryz.prog 269:=Ent.mk Tryz.func269 (by kernel_rfl) rfl
theorem ent274:Ent Tryz.prog 274:=Ent.mk Tryz.func274 (by kernel_rfl) rfl
abbrev u2{A B R:Type}(f:A→B→R)(x:A×B):=f x.1 x.2
abbrev u3{A B C R:Type}(f:A→B→C→R):=u2 fun a=>u2 (f a)
abbrev u4{A B C D R:Type}(f:A→B→C→D→R):=u2 fun a=>u3 (f a)
abbrev u5{A B C D E R:Type}(f:A→B→C→D→E→R):=u2 fun a=>u4 (f a)
abbrev u6{A B C D E F R:Type}(f:A→B→C→D→E→F→R):=u2 fun a=>u5 (f a)
abbrev u7{A B C D E F G R:Type}(f:A→B→C→D→E→F→G→R):=u2 fun a=>u6 (f a)
abbrev u8{A B C D E F G H R:Type}(f:A→B→C→D→E→F→G→H→R):=u2 fun a=>u7 (f a)
abbrev u9{A B C D E F G H I R:Type}(f:A→B→C→D→E→F→G→H→I→R):=u2 fun a=>u8 (f a)
abbrev u10{A B C D E F G H I J R:Type}(f:A→B→C→D→E→F→G→H→I→J→R):=u2 fun a=>u9 (f a)
abbrev u11{A B C D E F G H I J K R:Type}(f:A→B→C→D→E→F→G→H→I→J→K→R):=u2 fun a=>u10 (f a)
abbrev u12{A B C D E F G H I J K L R:Type}(f:A→B→C→D→E→F→G→H→I→J→K→L→R):=u2 fun a=>u11 (f a)
abbrev u13{A B C D E F G H I J K L M R:Type}(f:A→B→C→D→E→F→G→H→I→J→K→L→M→R):=u2 fun a=>u12 (f a)
open Go.Proofs.Tryz
namespace F93
abbrev R_:=(LI×Int)
noncomputable def H:Hd:=⟨[Si,Sq],[Ol 3,Si],(.seq .d (.seq .d (.seq .d (.seq .d (.cut [6] [] (.seq .d (.blk (.loop [0,1,6,7,15,16] [⟨6,[], .own 3 (.int .i64)⟩] .d))) .d))))),⟨[],gl,false⟩,[],f93⟩
def t4(f:Int)(g:UInt64)(h a:Int)(b:LI):S:=⟨[(0,vi f),(1,vq g),(6, .own 0),(7,vi h),(15,vi f),(16,vi a)],[Ai 3 b],[]⟩
def z4:Nat→S→Option R_:=H.i P_ [r,r,r,r,l,r,d]
def x6(b:LI):Option R_:=H.e P_ [r,r,r,r,r] ⟨[(6, .own 0)],[Ai 3 b],[]⟩
def x4(f:Int)(g:UInt64)(h a:Int)(b:LI):Option R_:=H.e P_ [r,r,r,r,l,r,d] (t4 f g h a b)
theorem e6:x6=Ap3:=by kernel_rfl
theorem i4(f:Int)(g:UInt64):∀(q:Nat) (h a:Int) (b:LI),z4 q (t4 f g h a b)=Aea f g q h a b:=
 ind (fun _ _ _=>by kernel_rfl) fun q ih h a b=>Eq.trans (b:=Aoj x6 (fun h a b=>(z4 q) (t4 f g h a b)) f g h a b) (by kernel_rfl) (by simp only[e6,ih]<;>rfl)
theorem e4:x4=Apq:=by funext f g h a b;exact Eq.trans (by kernel_rfl) ((i4 f g Cv h a b).trans (by rw[Ar];rfl))
noncomputable def F:=u2 Ae9
theorem rn x:H.u P_ x=F x:=Eq.trans (b:=u2 (Ao6 x4) x) (by kernel_rfl) (by simp only[e4]<;>rfl)
noncomputable def c:Con:=⟨H.p,H.r,F⟩
theorem ok:ConOk P_ gl 93 c:=co H func93 .nil rn
end F93
namespace F70
noncomputable def H:Hd:=⟨[Si],[Si,Si], .d,⟨[],gl,false⟩,[],f70⟩
noncomputable def F:=Qp
theorem rn x:H.u P_ x=F x:=by kernel_rfl
noncomputable def c:Con:=⟨H.p,H.r,F⟩
theorem ok:ConOk P_ gl 70 c:=co H func70 .nil rn
end F70
namespace F120
abbrev R_:=(Int32×Int32×Int)
noncomputable def H:Hd:=⟨[Si],[Sx,Sx,Si],(.seq .d (.seq (.seq .d (.blk (.cut [0,7] [] .d .d))) .d)),⟨[],gl,false⟩,[],f120⟩
def x2(a:Int)(b:Bool):Option R_:=H.e P_ [r,l,r,d,r] ⟨[(0,vi a),(7,vt b)],[],[]⟩
theorem e2:x2=At7:=by kernel_rfl
noncomputable def F:=Zq
theorem rn x:H.u P_ x=F x:=Eq.trans (b:=Avi x2 x) (by kernel_rfl) (by simp only[e2]<;>rfl)
noncomputable def c:Con:=⟨H.p,H.r,F⟩
theorem ok:ConOk P_ gl 120 c:=co H func120 .nil rn
end F120
namespace F114
noncomputable def H:Hd:=⟨[.agg [Si,Si]],[Si], .d,⟨[(120,F120.c)],gl,false⟩,[],f114⟩
noncomputable def F:=u2 Rc
theorem rn x:H.u P_ x=F x:=by kernel_rfl
noncomputable def c:Con:=⟨H.p,H.r,F⟩
theorem ok:ConOk P_ gl 114 c:=co H func114 (.cons F120.ok .nil) rn
end F114
namespace F139
noncomputable def H:Hd:=⟨[.agg [Si,Si],Si,Ss],[Si,Sz], .d,⟨[(70,F70.c),(114,F114.c)],gl,false⟩,[],f139⟩
noncomputable def F:=u4 Anr
theorem rn x:H.u P_ x=F x:=by kernel_rfl
noncomputable def c:Con:=⟨H.p,H.r,F⟩
theorem ok:ConOk P_ gl 139 c:=co H func139 (.cons F70.ok (.cons F114.ok .nil)) rn
end F139
namespace F94
noncomputable def H:Hd:=⟨[.agg [Si,Si],Si,Ss],[.agg [.agg [Si,Si],Si,Ss,Ob 5,Ow 21, .lf (.list (.list (.int .u8))) (some 22),Ob 5,Sz,Si],Si], .d,⟨[(139,F139.c)],gl,false⟩,[],f94⟩
noncomputable def F:=u4 Bds
theorem rn x:H.u P_ x=F x:=by kernel_rfl
noncomputable def c:Con:=⟨H.p,H.r,F⟩
theorem ok:ConOk P_ gl 94 c:=co H func94 (.cons F139.ok .nil) rn
end F94
namespace F141
noncomputable def H:Hd:=⟨[.agg [Si,Si]],[Si], .d,⟨[],gl,false⟩,[],f141⟩
noncomputable def F:=u2 Ak1
theorem rn x:H.u P_ x=F x:=by kernel_rfl
noncomputable def c:Con:=⟨H.p,H.r,F⟩
theorem ok:ConOk P_ gl 141 c:=co H func141 .nil rn
end F141
namespace F67
abbrev R_:=Int
noncomputable def H:Hd:=⟨[Si,Sw],[Si],(.seq .d (.seq .d (.seq .d (.seq .d (.cut [] [] (.seq .d (.blk (.loop [5,6,22,23,24] [] .d))) .d))))),⟨[(120,F120.c)],gl,false⟩,[],f67⟩
def t4(b f:Int32)(a:LX)(g:Int):S:=⟨[(5,vx b),(6,vx f),(22,vw a),(23,vi (Ac a)),(24,vi g)],[],[]⟩
def z4:Nat→S→Option R_:=H.i P_ [r,r,r,r,l,r,d]
def x6:Option R_:=H.e P_ [r,r,r,r,r] ⟨[],[],[]⟩
def x4(b f:Int32)(a:LX)(g:Int):Option R_:=H.e P_ [r,r,r,r,l,r,d] (t4 b f a g)
theorem e6:x6=Auz:=by kernel_rfl
theorem i4(b f:Int32)(a:LX):∀(q:Nat) (g:Int),z4 q (t4 b f a g)=Pj b f a q g:=
 ind (fun _=>by kernel_rfl) fun q ih g=>Eq.trans (b:=Ab1 x6 (fun g=>(z4 q) (t4 b f a g)) b f a g) (by kernel_rfl) (by simp only[e6,ih]<;>rfl)
theorem e4:x4=Avb:=by funext b f a g;exact Eq.trans (by kernel_rfl) ((i4 b f a Cv g).trans (by rw[Ar];rfl))
noncomputable def F:=u2 Ub
theorem rn x:H.u P_ x=F x:=Eq.trans (b:=u2 (Aky x4) x) (by kernel_rfl) (by simp only[e4]<;>rfl)
noncomputable def c:Con:=⟨H.p,H.r,F⟩
theorem ok:ConOk P_ gl 67 c:=co H func67 (.cons F120.ok .nil) rn
end F67
namespace F144
noncomputable def H:Hd:=⟨[.agg [.agg [Si,Si],Si,Ss,Sb,Sw, .lf (.list (.list (.int .u8))) none,Sb,Sz,Si],Si],[Si], .d,⟨[],gl,false⟩,[],f144⟩
noncomputable def F:=u11 Ae4
theorem rn x:H.u P_ x=F x:=by kernel_rfl
noncomputable def c:Con:=⟨H.p,H.r,F⟩
theorem ok:ConOk P_ gl 144 c:=co H func144 .nil rn
end F144
namespace F143
noncomputable def H:Hd:=⟨[.agg [.agg [Si,Si],Si,Ss,Sb,Sw, .lf (.list (.list (.int .u8))) none,Sb,Sz,Si],Si,Si],[Sz], .d,⟨[],gl,false⟩,[],f143⟩
noncomputable def F:=u12 Aqj
theorem rn x:H.u P_ x=F x:=by kernel_rfl
noncomputable def c:Con:=⟨H.p,H.r,F⟩
theorem ok:ConOk P_ gl 143 c:=co H func143 .nil rn
end F143
namespace F189
abbrev R_:=Bool
abbrev K_:=S→Option R_
noncomputable def H:Hd:=⟨[.agg [.agg [Si,Si],Si,Ss,Sb,Sw, .lf (.list (.list (.int .u8))) none,Sb,Sz,Si],Si],[Sz],(.seq .d (.seq .d (.cut [1,2,5] [] .d (.seq .d (.seq .d (.cut [1,2,5,6] [] .d (.cut [1,2,5] [] .d (.seq .d (.cut [4] [] (.keep [4,80,81] true) .d))))))))),⟨[(67,F67.c),(141,F141.c),(143,F143.c),(144,F144.c)],gl,false⟩,[(230,(.seq .d (.cut [4] [] (.keep [4,7,8] true) .d))),(231, .d),(268,(.seq .d (.cut [] [] (.seq .d (.blk (.loop [0,1,7,8] [] (.seq .d (.seq .d (.cut [0,1,7,8] [] (.blk (.seq .d (.cut [0,1,5,7,8,16] [] (.keep [0,1,5,7,8,16] true) .d))) .d)))))) .d)))],f189⟩
def t16(b:List LB)(f a g:Int):S:=⟨[(0, .val (.list (.list (.int .u8))) b),(1, .fn 231 [.ptr 0 []]),(7,vi (Ac b)),(8,vi g)],[.box 3 (vi (Ae (Bw (Ae (Bk (Bk (81:Int) f) a) (7:Int)) (8:Int)) (4:Int)))],[[(4,vt false)],[]]⟩
def z16:Nat→S→Option R_:=H.i P_ [r,r,r,r,r,r,r,r,l,(call 3 230),r,l,(call 2 268),r,l,r,d]
def x24(w:Bool):Option R_:=H.e P_ [r,r,r,r,r,r,r,r,r] ⟨[(4,vt (!w))],[],[]⟩
def x23(w:Bool):Option R_:=H.e P_ [r,r,r,r,r,r,r,r,l,(call 3 230),r,r] ⟨[(4,vt w)],[],[[]]⟩
def x22:Option R_:=H.e P_ [r,r,r,r,r,r,r,r,l,(call 3 230),r,l,(call 2 268),r,r] ⟨[],[],[[(4,vt false)],[]]⟩
def x20(kn16:K_)(b:List LB)(f a g:Int):Option R_:=H.e P_ [r,r,r,r,r,r,r,r,l,(call 3 230),r,l,(call 2 268),r,l,r,d,(lp kn16),r,r,r] ⟨[(0, .val (.list (.list (.int .u8))) b),(1, .fn 231 [.ptr 0 []]),(7,vi (Ac b)),(8,vi g)],[.box 3 (vi (Ae (Bw (Ae (Bk (Bk (81:Int) f) a) (7:Int)) (8:Int)) (4:Int)))],[[(4,vt false)],[]]⟩
def x19(kn16:K_)(b:List LB)(f a g:Int)(y:LB):Option R_:=H.e P_ [r,r,r,r,r,r,r,r,l,(call 3 230),r,l,(call 2 268),r,l,r,d,(lp kn16),r,r,l,d,r,r] ⟨[(0, .val (.list (.list (.int .u8))) b),(1, .fn 231 [.ptr 0 []]),(5,vi g),(7,vi (Ac b)),(8,vi g),(16,vt ((Bs (Ac y) (5:Int))||(Di (Ac y) (Ae (Bw (Ae (Bk (Bk (81:Int) f) a) (7:Int)) (8:Int)) (4:Int)))))],[.box 3 (vi (Ae (Bw (Ae (Bk (Bk (81:Int) f) a) (7:Int)) (8:Int)) (4:Int)))],[[(4,vt false)],[]]⟩
def x16(b:List LB)(f a g:Int):Option R_:=H.e P_ [r,r,r,r,r,r,r,r,l,(call 3 230),r,l,(call 2 268),r,l,r,d] (t16 b f a g)
def x15(f a k o:Int)(p m:LB)(h:LX)(b:List LB)(n:LB)(u:Bool)(v:Int):Option R_:=H.e P_ [r,r,r,r,r,r,r] ⟨[(1,vi f),(2, .ptr 0 []),(5,vi a)],[.box 141 (.agg [.agg [vi a,vi k],vi o,vs p,vb m,vw h, .val (.list (.list (.int .u8))) b,vb n,vt u,vi v])],[]⟩
def x14(f a k o:Int)(p m:LB)(h:LX)(b:List LB)(n:LB)(u:Bool)(v aa:Int):Option R_:=H.e P_ [r,r,r,r,r,r] ⟨[(1,vi f),(2, .ptr 0 []),(5,vi a),(6,vi aa)],[.box 141 (.agg [.agg [vi a,vi k],vi o,vs p,vb m,vw h, .val (.list (.list (.int .u8))) b,vb n,vt u,vi v])],[]⟩
def x13(f a k o:Int)(p m:LB)(h:LX)(b:List LB)(n:LB)(u:Bool)(v:Int):Option R_:=H.e P_ [r,r,r] ⟨[(1,vi f),(2, .ptr 0 []),(5,vi a)],[.box 141 (.agg [.agg [vi a,vi k],vi o,vs p,vb m,vw h, .val (.list (.list (.int .u8))) b,vb n,vt u,vi v])],[]⟩
theorem e24:x24=Ah2:=by kernel_rfl
theorem e23:x23=Ws:=Eq.trans (b:=Ah3 x24) (by kernel_rfl) (by simp only[e24]<;>rfl)
theorem e22:x22=Ail:=Eq.trans (b:=Aia x23) (by kernel_rfl) (by simp only[e23]<;>rfl)
theorem e20(kn16:K_)(b:List LB)(f a:Int):x20 kn16 b f a=Aiq (fun g=>kn16 (t16 b f a g)) b f a:=by kernel_rfl
theorem e19(kn16:K_)(b:List LB)(f a:Int):x19 kn16 b f a=Aio (fun g=>kn16 (t16 b f a g)) b f a:=Eq.trans (b:=Aip x23 (x20 kn16 b f a) b f a) (by kernel_rfl) (by simp only[e23,e20]<;>rfl)
theorem i16(b:List LB)(f a:Int):∀(q:Nat) (g:Int),z16 q (t16 b f a g)=We b f a q g:=
 ind (fun _=>by kernel_rfl) fun q ih g=>Eq.trans (b:=Aim (x19 (z16 q) b f a) x22 b f a g) (by kernel_rfl) (by simp only[e19,e22,ih]<;>rfl)
theorem e16:x16=Aih:=by funext b f a g;exact Eq.trans (by kernel_rfl) ((i16 b f a Cv g).trans (by rw[Ar];rfl))
theorem e15:x15=Aic:=Eq.trans (b:=Aii x16) (by kernel_rfl) (by simp only[e16]<;>rfl)
theorem e14:x14=Aib:=Eq.trans (b:=Aik x15) (by kernel_rfl) (by simp only[e15]<;>rfl)
theorem e13:x13=Aig:=Eq.trans (b:=Aiu x14) (by kernel_rfl) (by simp only[e14]<;>rfl)
noncomputable def F:=u11 Ar9
theorem rn x:H.u P_ x=F x:=Eq.trans (b:=u11 (Akc x13) x) (by kernel_rfl) (by simp only[e13]<;>rfl)
noncomputable def c:Con:=⟨H.p,H.r,F⟩
theorem ok:ConOk P_ gl 189 c:=cr H func189 (.cons F67.ok (.cons F141.ok (.cons F143.ok (.cons F144.ok .nil)))) (AnsOk.cons ent230 (AnsOk.cons ent231 (AnsOk.cons ent268 AnsOk.nil))) rn
end F189
namespace F148
noncomputable def H:Hd:=⟨[.agg [.agg [Si,Si],Si,Ss,Sb,Sw, .lf (.list (.list (.int .u8))) none,Sb,Sz,Si]],[Si], .d,⟨[(139,F139.c),(189,F189.c)],gl,false⟩,[],f148⟩
noncomputable def F:=u10 Ant
theorem rn x:H.u P_ x=F x:=by kernel_rfl
noncomputable def c:Con:=⟨H.p,H.r,F⟩
theorem ok:ConOk P_ gl 148 c:=co H func148 (.cons F139.ok (.cons F189.ok .nil)) rn
end F148
namespace F150
def Lj(a:LB):Option (LB):=
Bgd a (
some ([]:LB)) (
(Cw ([]:LB) a).bind fun b=>
some b)
theorem Afx: @Lj= @Cc:=by
  unfold Lj Cc
  repeat (refine funext fun _=>?_)
  repeat' first
    |with_reducible rfl
    |with_reducible refine Ly ?_ ?_
    |with_reducible refine Lq ?_ ?_ ?_
    |with_reducible refine Ll ?_ ?_ ?_ ?_
    |((with_reducible refine Qv ?_ ?_);focus (intro h;first|(subst h;rfl)|(simp only[h];rfl)|(simp[Cw,Ac,h];done)))
    |with_reducible refine Qj fun x=>?_
    |with_reducible refine Yg (fun _=>?_) (fun _=>?_)
    |(refine Gn (fun h=>by simp only[h,Qc,Ed,Dx,ite_self]) (fun x h=>?_);(try simp only[h,Ed]))
    |(refine Ja (fun h=>?_) (fun h=>?_)<;>simp only[h,if_true,if_false,Bool.false_eq_true])
noncomputable def H:Hd:=⟨[Sb],[Ob 5], .d,⟨[],gl,false⟩,[],f150⟩
noncomputable def F:=Cc
theorem rn x:H.u P_ x=F x:=Eq.trans (b:=Lj x) (by kernel_rfl) (by rw[Afx];rfl)
noncomputable def c:Con:=⟨H.p,H.r,F⟩
theorem ok:ConOk P_ gl 150 c:=co H func150 .nil rn
end F150
namespace F190
def Ki(a:LX):Option (LX):=
Bgd a (
some ([]:LX)) (
(Cw ([]:LX) a).bind fun b=>
some b)
theorem Adb: @Ki= @Dj:=by
  unfold Ki Dj
  repeat (refine funext fun _=>?_)
  repeat' first
    |with_reducible rfl
    |with_reducible refine Ly ?_ ?_
    |with_reducible refine Lq ?_ ?_ ?_
    |with_reducible refine Ll ?_ ?_ ?_ ?_
    |((with_reducible refine Qv ?_ ?_);focus (intro h;first|(subst h;rfl)|(simp only[h];rfl)|(simp[Cw,Ac,h];done)))
    |with_reducible refine Qj fun x=>?_
    |with_reducible refine Yg (fun _=>?_) (fun _=>?_)
    |(refine Gn (fun h=>by simp only[h,Qc,Ed,Dx,ite_self]) (fun x h=>?_);(try simp only[h,Ed]))
    |(refine Ja (fun h=>?_) (fun h=>?_)<;>simp only[h,if_true,if_false,Bool.false_eq_true])
noncomputable def H:Hd:=⟨[Sw],[Ow 21], .d,⟨[],gl,false⟩,[],f190⟩
noncomputable def F:=Dj
theorem rn x:H.u P_ x=F x:=Eq.trans (b:=Ki x) (by kernel_rfl) (by rw[Adb];rfl)
noncomputable def c:Con:=⟨H.p,H.r,F⟩
theorem ok:ConOk P_ gl 190 c:=co H func190 .nil rn
end F190
namespace F149
abbrev R_:=(Int×Int×Int×LB×LB×LX×(List LB)×LB×Bool×Int)
noncomputable def H:Hd:=⟨[.agg [.agg [Si,Si],Si,Ss,Sb,Sw, .lf (.list (.list (.int .u8))) none,Sb,Sz,Si]],[.agg [.agg [Si,Si],Si,Ss,Ob 5,Ow 21, .lf (.list (.list (.int .u8))) (some 22),Ob 5,Sz,Si]],(.seq .d (.cut [1,2] [] .d (.seq .d (.seq .d (.cut [1,2,3] [] (.seq .d (.blk (.loop [1,2,3,26,27] [] .d))) .d))))),⟨[(150,F150.c),(190,F190.c)],gl,false⟩,[],f149⟩
def t6(w a:List LB)(b f g:Int)(h:LB)(k:Bool)(m:Int)(n:LB)(o:LX)(p:LB)(v:Int)(u:List LB):S:=⟨[(1, .ptr 0 []),(2, .ptr 1 []),(3, .own 2),(26,vi (Ac (Axf w a))),(27,vi v)],[.box 141 (.agg [.agg [vi b,vi f],vi g,vs h, .own 3, .own 4, .val (.list (.list (.int .u8))) a, .own 5,vt k,vi m]), .box 141 (.agg [.agg [vi 0,vi 0],vi 0,vs ([]:LB), .nils, .nils, .nils, .nils,vt false,vi 0]), .arr 22 (.list (.int .u8)) u,Ab 5 n,Aw 21 o,Ab 5 p],[]⟩
def z6:Nat→S→Option R_:=H.i P_ [r,r,r,r,l,r,d]
def x8(b f g:Int)(h:LB)(a:List LB)(k:Bool)(m:Int)(u:List LB)(n:LB)(o:LX)(p:LB):Option R_:=H.e P_ [r,r,r,r,r] ⟨[(1, .ptr 0 []),(2, .ptr 1 []),(3, .own 2)],[.box 141 (.agg [.agg [vi b,vi f],vi g,vs h, .own 3, .own 4, .val (.list (.list (.int .u8))) a, .own 5,vt k,vi m]), .box 141 (.agg [.agg [vi 0,vi 0],vi 0,vs ([]:LB), .nils, .nils, .nils, .nils,vt false,vi 0]), .arr 22 (.list (.int .u8)) u,Ab 5 n,Aw 21 o,Ab 5 p],[]⟩
def x6(w a:List LB)(b f g:Int)(h:LB)(k:Bool)(m:Int)(n:LB)(o:LX)(p:LB)(v:Int)(u:List LB):Option R_:=H.e P_ [r,r,r,r,l,r,d] (t6 w a b f g h k m n o p v u)
def x5(b f g:Int)(h:LB)(a:List LB)(k:Bool)(m:Int)(n:LB)(o:LX)(p:LB):Option R_:=H.e P_ [r,r] ⟨[(1, .ptr 0 []),(2, .ptr 1 [])],[.box 141 (.agg [.agg [vi b,vi f],vi g,vs h, .own 2, .own 3, .val (.list (.list (.int .u8))) a, .own 4,vt k,vi m]), .box 141 (.agg [.agg [vi 0,vi 0],vi 0,vs ([]:LB), .nils, .nils, .nils, .nils,vt false,vi 0]),Ab 5 n,Aw 21 o,Ab 5 p],[]⟩
theorem e8:x8=Asl:=by kernel_rfl
theorem i6(w a:List LB)(b f g:Int)(h:LB)(k:Bool)(m:Int)(n:LB)(o:LX)(p:LB):∀(q:Nat) (v:Int) (u:List LB),z6 q (t6 w a b f g h k m n o p v u)=Ahh w a b f g h k m n o p q v u:=
 ind (fun _ _=>by kernel_rfl) fun q ih v u=>Eq.trans (b:=As4 x8 (fun v u=>(z6 q) (t6 w a b f g h k m n o p v u)) w a b f g h k m n o p v u) (by kernel_rfl) (by simp only[e8,ih]<;>rfl)
theorem e6:x6=Asn:=by funext w a b f g h k m n o p v u;exact Eq.trans (by kernel_rfl) ((i6 w a b f g h k m n o p Cv v u).trans (by rw[Ar];rfl))
theorem e5:x5=Asv:=Eq.trans (b:=Ast x6) (by kernel_rfl) (by simp only[e6]<;>rfl)
noncomputable def F:=u10 Aq5
theorem rn x:H.u P_ x=F x:=Eq.trans (b:=u10 (Ar7 x5) x) (by kernel_rfl) (by simp only[e5]<;>rfl)
noncomputable def c:Con:=⟨H.p,H.r,F⟩
theorem ok:ConOk P_ gl 149 c:=co H func149 (.cons F150.ok (.cons F190.ok .nil)) rn
end F149
namespace F140
abbrev R_:=(Int×Int×Int×LB×LB×LX×(List LB)×LB×Bool×Int×Int×Int)
noncomputable def H:Hd:=⟨[.agg [.agg [Si,Si],Si,Ss,Sb,Sw, .lf (.list (.list (.int .u8))) none,Sb,Sz,Si]],[.agg [.agg [Si,Si],Si,Ss,Ob 5,Ow 21, .lf (.list (.list (.int .u8))) (some 22),Ob 5,Sz,Si],Si,Si],(.seq .d (.seq .d (.seq .d (.cut [1,2,6,7] [] .d .d)))),⟨[(70,F70.c),(148,F148.c),(149,F149.c)],gl,false⟩,[],f140⟩
def x2(u g h b:Int)(k m:LB)(n:LX)(o:List LB)(p:LB)(f:Bool)(a v:Int):Option R_:=H.e P_ [r,r,r,r] ⟨[(1, .ptr 0 []),(2, .ptr 1 []),(6,vi u),(7,vi v)],[.box 141 (.agg [.agg [vi g,vi h],vi b,vs k,vb m,vw n, .val (.list (.list (.int .u8))) o,vb p,vt f,vi a]), .box 141 (.agg [.agg [vi 0,vi 0],vi 0,vs ([]:LB), .nils, .nils, .nils, .nils,vt false,vi 0])],[]⟩
theorem e2:x2=Ao7:=by kernel_rfl
noncomputable def F:=u10 Anq
theorem rn x:H.u P_ x=F x:=Eq.trans (b:=u10 (Apu x2) x) (by kernel_rfl) (by simp only[e2]<;>rfl)
noncomputable def c:Con:=⟨H.p,H.r,F⟩
theorem ok:ConOk P_ gl 140 c:=co H func140 (.cons F70.ok (.cons F148.ok (.cons F149.ok .nil))) rn
end F140
namespace F121
abbrev R_:=(LX×Int)
abbrev K_:=S→Option R_
noncomputable def H:Hd:=⟨[Si,Sb],[Ow 21,Si],(.seq .d (.seq .d (.seq .d (.seq .d (.seq .d (.seq .d (.cut [10] [] (.seq .d (.blk (.loop [0,1,9,10,11] [⟨10,[], .own 21 (.int .i32)⟩] (.seq .d (.cut [0,1,9,10,11] [] (.blk (.seq .d (.seq .d (.cut [0,1,9,10,11,12] [] (.seq .d (.blk (.loop [0,1,9,10,11,12,53,54] [] .d))) .d)))) .d))))) .d))))))),⟨[(120,F120.c)],gl,false⟩,[],f121⟩
def t25(a:Int)(b:LB)(f:Int)(g:LX)(h:Int32)(k:Int):S:=⟨[(0,vi a),(1,vb b),(9,vi (Bw a (8:Int))),(10, .own 0),(11,vi f),(12,vx h),(53,vi (Bw a (8:Int))),(54,vi k)],[Aw 21 g],[]⟩
def z25(kn16:K_):Nat→S→Option R_:=H.i P_ [r,r,r,r,r,r,l,r,d,(lp kn16),r,l,d,r,r,l,r,d]
def t16(a:Int)(b:LB)(f:Int)(g:LX):S:=⟨[(0,vi a),(1,vb b),(9,vi (Bw a (8:Int))),(10, .own 0),(11,vi f)],[Aw 21 g],[]⟩
def z16:Nat→S→Option R_:=H.i P_ [r,r,r,r,r,r,l,r,d]
def x30(g:LX):Option R_:=H.e P_ [r,r,r,r,r,r,r] ⟨[(10, .own 0)],[Aw 21 g],[]⟩
def x28(kn16:K_)(a:Int)(b:LB)(f:Int)(m:LX):Option R_:=H.e P_ [r,r,r,r,r,r,l,r,d,(lp kn16),r,r] ⟨[(0,vi a),(1,vb b),(9,vi (Bw a (8:Int))),(10, .own 0),(11,vi f)],[Aw 21 m],[]⟩
def x27(kn16:K_)(a:Int)(b:LB)(f:Int)(h:Int32)(g:LX):Option R_:=H.e P_ [r,r,r,r,r,r,l,r,d,(lp kn16),r,l,d,r,r,r] ⟨[(0,vi a),(1,vb b),(9,vi (Bw a (8:Int))),(10, .own 0),(11,vi f),(12,vx h)],[Aw 21 g],[]⟩
def x25(kn16:K_)(a:Int)(b:LB)(f:Int)(g:LX)(h:Int32)(k:Int):Option R_:=H.e P_ [r,r,r,r,r,r,l,r,d,(lp kn16),r,l,d,r,r,l,r,d] (t25 a b f g h k)
def x16(a:Int)(b:LB)(f:Int)(g:LX):Option R_:=H.e P_ [r,r,r,r,r,r,l,r,d] (t16 a b f g)
theorem e30:x30=Al7:=by kernel_rfl
theorem e28(kn16:K_)(a:Int)(b:LB):x28 kn16 a b=Acy (fun f g=>kn16 (t16 a b f g)) a b:=by kernel_rfl
theorem e27(kn16:K_)(a:Int)(b:LB):x27 kn16 a b=Amb (fun f g=>kn16 (t16 a b f g)) a b:=Eq.trans (b:=Amw (x28 kn16 a b) a b) (by kernel_rfl) (by simp only[e28]<;>rfl)
theorem i25(kn16:K_)(a:Int)(b:LB)(f:Int)(g:LX):∀(q:Nat) (h:Int32) (k:Int),z25 kn16 q (t25 a b f g h k)=Acq (fun f g=>kn16 (t16 a b f g)) a b f g q h k:=
 ind (fun _ _=>by kernel_rfl) fun q ih h k=>Eq.trans (b:=Amn (x27 kn16 a b) (fun h k=>(z25 kn16 q) (t25 a b f g h k)) a b f g h k) (by kernel_rfl) (by simp only[e27,ih]<;>rfl)
theorem e25(kn16:K_)(a:Int)(b:LB):x25 kn16 a b=Aml (fun f g=>kn16 (t16 a b f g)) a b:=by funext f g h k;exact Eq.trans (by kernel_rfl) ((i25 kn16 a b f g Cv h k).trans (by rw[Ar];rfl))
theorem i16(a:Int)(b:LB):∀(q:Nat) (f:Int) (g:LX),z16 q (t16 a b f g)=Sk a b q f g:=
 ind (fun _ _=>by kernel_rfl) fun q ih f g=>Eq.trans (b:=Amt (x28 (z16 q) a b) (x25 (z16 q) a b) x30 a b f g) (by kernel_rfl) (by simp only[e28,e25,e30,ih]<;>rfl)
theorem e16:x16=Am6:=by funext a b f g;exact Eq.trans (by kernel_rfl) ((i16 a b Cv f g).trans (by rw[Ar];rfl))
noncomputable def F:=u2 Axp
theorem rn x:H.u P_ x=F x:=Eq.trans (b:=u2 (Ao2 x16) x) (by kernel_rfl) (by simp only[e16]<;>rfl)
noncomputable def c:Con:=⟨H.p,H.r,F⟩
theorem ok:ConOk P_ gl 121 c:=co H func121 (.cons F120.ok .nil) rn
end F121
namespace F164
abbrev R_:=(UInt64×Int)
abbrev K_:=S→Option R_
noncomputable def H:Hd:=⟨[Sq,Sb],[Sq,Si],(.seq .d (.seq .d (.cut [4,5] [] (.keep [0,1,4,5,9,10,11,12] true) .d))),⟨[],gl,false⟩,[(197,(.seq .d (.cut [1] [] (.seq .d (.blk (.loop [0,1,9,10,11] [] .d))) .d))),(198,(.seq .d (.seq .d (.cut [1] [] (.seq .d (.blk (.loop [1,5] [] (.seq .d (.seq .d (.cut [1,5] [] (.blk (.seq .d (.seq .d (.cut [1,2,3,5] [] (.seq .d (.blk (.loop [1,2,3,5,11] [] .d))) .d)))) .d)))))) .d))))],f164⟩
def t27(a:LB)(b:UInt64)(f:LQ)(h:UInt64)(m:Int):S:=⟨[(0, .ptr 0 []),(1,vq h),(9,vb a),(10,vi (Ac a)),(11,vi m)],[.box 324 (.val (.vec 256 (.int .u64)) f)],[[(0,vq b),(1,vb a),(4,vq 0),(5,vi 0),(9, .ptr 0 []),(10,vq b),(11,vb a)]]⟩
def z27:Nat→S→Option R_:=H.i P_ [r,r,l,(call 3 197),r,l,r,d]
def t21(b:UInt64)(a:LB)(g:Int)(f:LQ)(k:UInt64)(n:Int):S:=⟨[(1, .ptr 0 []),(2,vi g),(3,vq k),(5,vi g),(11,vi n)],[.box 324 (.val (.vec 256 (.int .u64)) f)],[[(0,vq b),(1,vb a),(4,vq 0),(5,vi 0)]]⟩
def z21(kn16:K_):Nat→S→Option R_:=H.i P_ [r,r,l,(call 0 198),r,r,l,r,d,(lp kn16),r,r,l,d,r,r,l,r,d]
def t16(b:UInt64)(a:LB)(g:Int)(f:LQ):S:=⟨[(1, .ptr 0 []),(5,vi g)],[.box 324 (.val (.vec 256 (.int .u64)) f)],[[(0,vq b),(1,vb a),(4,vq 0),(5,vi 0)]]⟩
def z16:Nat→S→Option R_:=H.i P_ [r,r,l,(call 0 198),r,r,l,r,d]
def x30(h:UInt64):Option R_:=H.e P_ [r,r,r] ⟨[(4,vq h),(5,vi 0)],[],[]⟩
def x29(h b:UInt64)(a:LB)(f:LQ):Option R_:=H.e P_ [r,r,l,(call 3 197),r,r] ⟨[(1,vq h)],[.box 324 (.val (.vec 256 (.int .u64)) f)],[[(0,vq b),(1,vb a),(4,vq 0),(5,vi 0),(9, .ptr 0 []),(10,vq b),(11,vb a)]]⟩
def x27(a:LB)(b:UInt64)(f:LQ)(h:UInt64)(m:Int):Option R_:=H.e P_ [r,r,l,(call 3 197),r,l,r,d] (t27 a b f h m)
def x26(b:UInt64)(a:LB)(f:LQ):Option R_:=H.e P_ [r,r,l,(call 0 198),r,r,r] ⟨[(1, .ptr 0 [])],[.box 324 (.val (.vec 256 (.int .u64)) f)],[[(0,vq b),(1,vb a),(4,vq 0),(5,vi 0)]]⟩
def x24(kn16:K_)(b:UInt64)(a:LB)(g:Int)(o:LQ):Option R_:=H.e P_ [r,r,l,(call 0 198),r,r,l,r,d,(lp kn16),r,r,r] ⟨[(1, .ptr 0 []),(5,vi g)],[.box 324 (.val (.vec 256 (.int .u64)) o)],[[(0,vq b),(1,vb a),(4,vq 0),(5,vi 0)]]⟩
def x23(kn16:K_)(b:UInt64)(a:LB)(g:Int)(k:UInt64)(f:LQ):Option R_:=H.e P_ [r,r,l,(call 0 198),r,r,l,r,d,(lp kn16),r,r,l,d,r,r,r] ⟨[(1, .ptr 0 []),(2,vi g),(3,vq k),(5,vi g)],[.box 324 (.val (.vec 256 (.int .u64)) f)],[[(0,vq b),(1,vb a),(4,vq 0),(5,vi 0)]]⟩
def x21(kn16:K_)(b:UInt64)(a:LB)(g:Int)(f:LQ)(k:UInt64)(n:Int):Option R_:=H.e P_ [r,r,l,(call 0 198),r,r,l,r,d,(lp kn16),r,r,l,d,r,r,l,r,d] (t21 b a g f k n)
def x16(b:UInt64)(a:LB)(g:Int)(f:LQ):Option R_:=H.e P_ [r,r,l,(call 0 198),r,r,l,r,d] (t16 b a g f)
theorem e30:x30=Ak9:=by kernel_rfl
theorem e29:x29=Alo:=Eq.trans (b:=Ak5 x30) (by kernel_rfl) (by simp only[e30]<;>rfl)
theorem i27(a:LB)(b:UInt64)(f:LQ):∀(q:Nat) (h:UInt64) (m:Int),z27 q (t27 a b f h m)=Ox a b f q h m:=
 ind (fun _ _=>by kernel_rfl) fun q ih h m=>Eq.trans (b:=Abb x29 (fun h m=>(z27 q) (t27 a b f h m)) a b f h m) (by kernel_rfl) (by simp only[e29,ih]<;>rfl)
theorem e27:x27=Ali:=by funext a b f h m;exact Eq.trans (by kernel_rfl) ((i27 a b f Cv h m).trans (by rw[Ar];rfl))
theorem e26:x26=Acx:=Eq.trans (b:=Ajx x27) (by kernel_rfl) (by simp only[e27]<;>rfl)
theorem e24(kn16:K_)(b:UInt64)(a:LB):x24 kn16 b a=Als (fun g f=>kn16 (t16 b a g f)) b a:=by kernel_rfl
theorem e23(kn16:K_)(b:UInt64)(a:LB):x23 kn16 b a=Abl (fun g f=>kn16 (t16 b a g f)) b a:=Eq.trans (b:=Ajq (x24 kn16 b a) b a) (by kernel_rfl) (by simp only[e24]<;>rfl)
theorem i21(kn16:K_)(b:UInt64)(a:LB)(g:Int)(f:LQ):∀(q:Nat) (k:UInt64) (n:Int),z21 kn16 q (t21 b a g f k n)=Pf (fun g f=>kn16 (t16 b a g f)) b a g f q k n:=
 ind (fun _ _=>by kernel_rfl) fun q ih k n=>Eq.trans (b:=Acz (x23 kn16 b a) (fun k n=>(z21 kn16 q) (t21 b a g f k n)) b a g f k n) (by kernel_rfl) (by simp only[e23,ih]<;>rfl)
theorem e21(kn16:K_)(b:UInt64)(a:LB):x21 kn16 b a=All (fun g f=>kn16 (t16 b a g f)) b a:=by funext g f k n;exact Eq.trans (by kernel_rfl) ((i21 kn16 b a g f Cv k n).trans (by rw[Ar];rfl))
theorem i16(b:UInt64)(a:LB):∀(q:Nat) (g:Int) (f:LQ),z16 q (t16 b a g f)=Lu b a q g f:=
 ind (fun _ _=>by kernel_rfl) fun q ih g f=>Eq.trans (b:=Ac5 (x21 (z16 q) b a) x26 b a g f) (by kernel_rfl) (by simp only[e21,e26,ih]<;>rfl)
theorem e16:x16=Akg:=by funext b a g f;exact Eq.trans (by kernel_rfl) ((i16 b a Cv g f).trans (by rw[Ar];rfl))
noncomputable def F:=u2 Aqx
theorem rn x:H.u P_ x=F x:=Eq.trans (b:=u2 (An9 x16) x) (by kernel_rfl) (by simp only[e16]<;>rfl)
noncomputable def c:Con:=⟨H.p,H.r,F⟩
theorem ok:ConOk P_ gl 164 c:=cr H func164 .nil (AnsOk.cons ent197 (AnsOk.cons ent198 AnsOk.nil)) rn
end F164
namespace F112
noncomputable def H:Hd:=⟨[Sb],[Sq,Si], .d,⟨[(164,F164.c)],gl,false⟩,[],f112⟩
noncomputable def F:=Apk
theorem rn x:H.u P_ x=F x:=by kernel_rfl
noncomputable def c:Con:=⟨H.p,H.r,F⟩
theorem ok:ConOk P_ gl 112 c:=co H func112 (.cons F164.ok .nil) rn
end F112
namespace F113
abbrev R_:=LX
noncomputable def H:Hd:=⟨[Sq],[.lf (.vec 16 (.int .i32)) none],(.seq .d (.seq .d (.cut [2,3] [] (.seq .d (.blk (.loop [0,2,3,5] [] .d))) .d))),⟨[],gl,false⟩,[],f113⟩
def t4(f:UInt64)(b:Int)(a:LX):S:=⟨[(0,vq f),(2, .ptr 0 []),(3, .ptr 1 []),(5,vi b)],[.box 110 (.val (.vec 16 (.int .i32)) (List.replicate 16 (0:Int32))), .box 110 (.val (.vec 16 (.int .i32)) a)],[]⟩
def z4:Nat→S→Option R_:=H.i P_ [r,r,l,r,d]
def x6(a:LX):Option R_:=H.e P_ [r,r,r] ⟨[(2, .ptr 0 []),(3, .ptr 1 [])],[.box 110 (.val (.vec 16 (.int .i32)) (List.replicate 16 (0:Int32))), .box 110 (.val (.vec 16 (.int .i32)) a)],[]⟩
def x4(f:UInt64)(b:Int)(a:LX):Option R_:=H.e P_ [r,r,l,r,d] (t4 f b a)
theorem e6:x6=Bfs:=by kernel_rfl
theorem i4(f:UInt64):∀(q:Nat) (b:Int) (a:LX),z4 q (t4 f b a)=Aes f q b a:=
 ind (fun _ _=>by kernel_rfl) fun q ih b a=>Eq.trans (b:=Arc x6 (fun b a=>(z4 q) (t4 f b a)) f b a) (by kernel_rfl) (by simp only[e6,ih]<;>rfl)
theorem e4:x4=Bev:=by funext f b a;exact Eq.trans (by kernel_rfl) ((i4 f Cv b a).trans (by rw[Ar];rfl))
noncomputable def F:=Bk6
theorem rn x:H.u P_ x=F x:=Eq.trans (b:=Bf0 x4 x) (by kernel_rfl) (by simp only[e4]<;>rfl)
noncomputable def c:Con:=⟨H.p,H.r,F⟩
theorem ok:ConOk P_ gl 113 c:=co H func113 .nil rn
end F113
namespace F65
noncomputable def H:Hd:=⟨[Ss],[.lf (.vec 16 (.int .i32)) none,Si], .d,⟨[(112,F112.c),(113,F113.c)],gl,false⟩,[],f65⟩
noncomputable def F:=Rg
theorem rn x:H.u P_ x=F x:=by kernel_rfl
noncomputable def c:Con:=⟨H.p,H.r,F⟩
theorem ok:ConOk P_ gl 65 c:=co H func65 (.cons F112.ok (.cons F113.ok .nil)) rn
end F65
namespace F245
noncomputable def H:Hd:=⟨[.agg [Si,Si],Sw],[Si], .d,⟨[(67,F67.c),(114,F114.c)],gl,false⟩,[],f245⟩
noncomputable def F:=u3 Ax2
theorem rn x:H.u P_ x=F x:=by kernel_rfl
noncomputable def c:Con:=⟨H.p,H.r,F⟩
theorem ok:ConOk P_ gl 245 c:=co H func245 (.cons F67.ok (.cons F114.ok .nil)) rn
end F245
namespace F207
noncomputable def H:Hd:=⟨[Si,Sw],[Si], .d,⟨[],gl,false⟩,[],f207⟩
noncomputable def F:=u2 Ap4
theorem rn x:H.u P_ x=F x:=by kernel_rfl
noncomputable def c:Con:=⟨H.p,H.r,F⟩
theorem ok:ConOk P_ gl 207 c:=co H func207 .nil rn
end F207
namespace F246
abbrev R_:=(LX×Int)
abbrev K_:=S→Option R_
noncomputable def H:Hd:=⟨[Si,Sw],[Ow 21,Si],(.seq .d (.seq .d (.seq .d (.cut [7] [] (.seq .d (.blk (.loop [0,7,8] [] (.seq .d (.cut [0,7,8] [] (.blk (.keep [0,7,8,24,25,26,27,28,29] true)) .d))))) .d)))),⟨[(190,F190.c),(207,F207.c)],gl,true⟩,[(274,(.seq .d (.cut [0,2] [] (.seq .d (.blk (.loop [0,2,7,8] [] .d))) .d)))],f246⟩
def t17(b a h:Int)(g:LX):S:=⟨[(0, .view true 0 [] (.int .i32) a ((Ae a b)-a)),(2,vi (Ah ((Ae a b)-a) (1:Int))),(7,vi (Ah ((Ae a b)-a) (1:Int))),(8,vi h)],[Aw 21 g],[[(0,vi b),(7, .own 0),(8,vi a),(24, .own 0),(25,vi a),(26,vi a),(27,vi b),(28,vi (Ae a b)),(29, .view true 0 [] (.int .i32) a ((Ae a b)-a))]]⟩
def z17(kn12:K_):Nat→S→Option R_:=H.i P_ [r,r,r,l,r,d,(lp kn12),r,l,d,(call 6 274),r,l,r,d]
def t12(b a:Int)(f:LX):S:=⟨[(0,vi b),(7, .own 0),(8,vi a)],[Aw 21 f],[]⟩
def z12:Nat→S→Option R_:=H.i P_ [r,r,r,l,r,d]
def x22(f:LX):Option R_:=H.e P_ [r,r,r,r] ⟨[(7, .own 0)],[Aw 21 f],[]⟩
def x20(kn12:K_)(b a:Int)(k:LX):Option R_:=H.e P_ [r,r,r,l,r,d,(lp kn12),r,r] ⟨[(0,vi b),(7, .own 0),(8,vi a)],[Aw 21 k],[]⟩
def x19(kn12:K_)(b a:Int)(g:LX):Option R_:=H.e P_ [r,r,r,l,r,d,(lp kn12),r,l,d,(call 6 274),r,r] ⟨[(0, .view true 0 [] (.int .i32) a ((Ae a b)-a)),(2,vi (Ah ((Ae a b)-a) (1:Int)))],[Aw 21 g],[[(0,vi b),(7, .own 0),(8,vi a),(24, .own 0),(25,vi a),(26,vi a),(27,vi b),(28,vi (Ae a b)),(29, .view true 0 [] (.int .i32) a ((Ae a b)-a))]]⟩
def x17(kn12:K_)(b a h:Int)(g:LX):Option R_:=H.e P_ [r,r,r,l,r,d,(lp kn12),r,l,d,(call 6 274),r,l,r,d] (t17 b a h g)
def x12(b a:Int)(f:LX):Option R_:=H.e P_ [r,r,r,l,r,d] (t12 b a f)
theorem e22:x22=Bdr:=by kernel_rfl
theorem e20(kn12:K_)(b:Int):x20 kn12 b=Bcs (fun a f=>kn12 (t12 b a f)) b:=by kernel_rfl
theorem e19(kn12:K_)(b:Int):x19 kn12 b=Bc4 (fun a f=>kn12 (t12 b a f)) b:=Eq.trans (b:=Bcr (x20 kn12 b) b) (by kernel_rfl) (by simp only[e20]<;>rfl)
theorem i17(kn12:K_)(b a:Int):∀(q:Nat) (h:Int) (g:LX),z17 kn12 q (t17 b a h g)=Auj (fun a f=>kn12 (t12 b a f)) b a q h g:=
 ind (fun _ _=>by kernel_rfl) fun q ih h g=>Eq.trans (b:=Bcp (x19 kn12 b) (fun h g=>(z17 kn12 q) (t17 b a h g)) b a h g) (by kernel_rfl) (by simp only[e19,ih]<;>rfl)
theorem e17(kn12:K_)(b:Int):x17 kn12 b=Bc8 (fun a f=>kn12 (t12 b a f)) b:=by funext a h g;exact Eq.trans (by kernel_rfl) ((i17 kn12 b a Cv h g).trans (by rw[Ar];rfl))
theorem i12(b:Int):∀(q:Nat) (a:Int) (f:LX),z12 q (t12 b a f)=At1 b q a f:=
 ind (fun _ _=>by kernel_rfl) fun q ih a f=>Eq.trans (b:=Bdh (x17 (z12 q) b) x22 b a f) (by kernel_rfl) (by simp only[e17,e22,ih]<;>rfl)
theorem e12:x12=Bcy:=by funext b a f;exact Eq.trans (by kernel_rfl) ((i12 b Cv a f).trans (by rw[Ar];rfl))
noncomputable def F:=u2 Bso
theorem rn x:H.u P_ x=F x:=Eq.trans (b:=u2 (Bib x12) x) (by kernel_rfl) (by simp only[e12]<;>rfl)
noncomputable def c:Con:=⟨H.p,H.r,F⟩
theorem ok:ConOk P_ gl 246 c:=cr H func246 (.cons F190.ok (.cons F207.ok .nil)) (AnsOk.cons ent274 AnsOk.nil) rn
end F246
namespace F203
abbrev R_:=(Int×LX×LX×Int)
noncomputable def H:Hd:=⟨[Si, .lf (.vec 16 (.int .i32)) none],[.agg [Si, .lf (.vec 16 (.int .i32)) none, .lf (.vec 16 (.int .i32)) none],Si],(.seq .d (.seq .d (.seq (.seq .d (.blk (.cut [4,6,9,11] [] .d .d))) .d))),⟨[],gl,false⟩,[],f203⟩
def x2(a:Int)(b:LX)(f:Bool):Option R_:=H.e P_ [r,r,l,r,d,r] ⟨[(4, .ptr 0 []),(6, .ptr 1 []),(9,vi a),(11,vt f)],[.box 234 (.agg [vi 0, .val (.vec 16 (.int .i32)) (List.replicate 16 (0:Int32)), .val (.vec 16 (.int .i32)) (List.replicate 16 (0:Int32))]), .box 234 (.agg [vi 10, .val (.vec 16 (.int .i32)) b, .val (.vec 16 (.int .i32)) (List.replicate 16 (0:Int32))])],[]⟩
theorem e2:x2=Bcz:=by kernel_rfl
noncomputable def F:=u2 Azj
theorem rn x:H.u P_ x=F x:=Eq.trans (b:=u2 (Bdq x2) x) (by kernel_rfl) (by simp only[e2]<;>rfl)
noncomputable def c:Con:=⟨H.p,H.r,F⟩
theorem ok:ConOk P_ gl 203 c:=co H func203 .nil rn
end F203
namespace F170
noncomputable def H:Hd:=⟨[Si, .lf (.vec 16 (.int .i32)) none],[.agg [Si,Sx, .agg [Si, .lf (.vec 16 (.int .i32)) none, .lf (.vec 16 (.int .i32)) none]],Si], .d,⟨[(203,F203.c)],gl,false⟩,[],f170⟩
noncomputable def F:=u2 Bcb
theorem rn x:H.u P_ x=F x:=by kernel_rfl
noncomputable def c:Con:=⟨H.p,H.r,F⟩
theorem ok:ConOk P_ gl 170 c:=co H func170 (.cons F203.ok .nil) rn
end F170
namespace F204
noncomputable def H:Hd:=⟨[.agg [Si,Sx, .agg [Si, .lf (.vec 16 (.int .i32)) none, .lf (.vec 16 (.int .i32)) none]]],[Si], .d,⟨[(203,F203.c)],gl,false⟩,[],f204⟩
noncomputable def F:=u5 Tz
theorem rn x:H.u P_ x=F x:=by kernel_rfl
noncomputable def c:Con:=⟨H.p,H.r,F⟩
theorem ok:ConOk P_ gl 204 c:=co H func204 (.cons F203.ok .nil) rn
end F204
namespace F241
noncomputable def H:Hd:=⟨[Si],[Si,Si], .d,⟨[],gl,false⟩,[],f241⟩
noncomputable def F:=Auw
theorem rn x:H.u P_ x=F x:=by kernel_rfl
noncomputable def c:Con:=⟨H.p,H.r,F⟩
theorem ok:ConOk P_ gl 241 c:=co H func241 .nil rn
end F241
namespace F242
noncomputable def H:Hd:=⟨[Si,Sx],[Sx], .d,⟨[],gl,false⟩,[],f242⟩
noncomputable def F:=u2 Amk
theorem rn x:H.u P_ x=F x:=by kernel_rfl
noncomputable def c:Con:=⟨H.p,H.r,F⟩
theorem ok:ConOk P_ gl 242 c:=co H func242 .nil rn
end F242
namespace F205
noncomputable def H:Hd:=⟨[Si,Sx],[Sx,Si], .d,⟨[(241,F241.c),(242,F242.c)],gl,false⟩,[],f205⟩
noncomputable def F:=u2 Uz
theorem rn x:H.u P_ x=F x:=by kernel_rfl
noncomputable def c:Con:=⟨H.p,H.r,F⟩
theorem ok:ConOk P_ gl 205 c:=co H func205 (.cons F241.ok (.cons F242.ok .nil)) rn
end F205
namespace F271
noncomputable def H:Hd:=⟨[.agg [Si, .lf (.vec 16 (.int .i32)) none, .lf (.vec 16 (.int .i32)) none]],[Si], .d,⟨[],gl,false⟩,[],f271⟩
noncomputable def F:=u3 Aeh
theorem rn x:H.u P_ x=F x:=by kernel_rfl
noncomputable def c:Con:=⟨H.p,H.r,F⟩
theorem ok:ConOk P_ gl 271 c:=co H func271 .nil rn
end F271
namespace F243
abbrev R_:=(Int32×Int)
noncomputable def H:Hd:=⟨[.agg [Si, .lf (.vec 16 (.int .i32)) none, .lf (.vec 16 (.int .i32)) none]],[Sx,Si],(.seq .d (.seq .d (.seq .d (.cut [1,5] [] (.seq .d (.blk (.loop [1,5,18,19] [] .d))) .d)))),⟨[(271,F271.c)],gl,false⟩,[],f243⟩
def t4(b:LX)(a:Int)(f:LX)(g:Int32)(h:Int):S:=⟨[(1, .ptr 0 []),(5,vx g),(18, .val (.vec 16 (.int .i32)) b),(19,vi h)],[.box 234 (.agg [vi a, .val (.vec 16 (.int .i32)) b, .val (.vec 16 (.int .i32)) f])],[]⟩
def z4:Nat→S→Option R_:=H.i P_ [r,r,r,l,r,d]
def x6(g:Int32)(a:Int)(b f:LX):Option R_:=H.e P_ [r,r,r,r] ⟨[(1, .ptr 0 []),(5,vx g)],[.box 234 (.agg [vi a, .val (.vec 16 (.int .i32)) b, .val (.vec 16 (.int .i32)) f])],[]⟩
def x4(b:LX)(a:Int)(f:LX)(g:Int32)(h:Int):Option R_:=H.e P_ [r,r,r,l,r,d] (t4 b a f g h)
theorem e6:x6=Anl:=by kernel_rfl
theorem i4(b:LX)(a:Int)(f:LX):∀(q:Nat) (g:Int32) (h:Int),z4 q (t4 b a f g h)=Rh b a f q g h:=
 ind (fun _ _=>by kernel_rfl) fun q ih g h=>Eq.trans (b:=Aff x6 (fun g h=>(z4 q) (t4 b a f g h)) b a f g h) (by kernel_rfl) (by simp only[e6,ih]<;>rfl)
theorem e4:x4=Anu:=by funext b a f g h;exact Eq.trans (by kernel_rfl) ((i4 b a f Cv g h).trans (by rw[Ar];rfl))
noncomputable def F:=u3 Alh
theorem rn x:H.u P_ x=F x:=Eq.trans (b:=u3 (An5 x4) x) (by kernel_rfl) (by simp only[e4]<;>rfl)
noncomputable def c:Con:=⟨H.p,H.r,F⟩
theorem ok:ConOk P_ gl 243 c:=co H func243 (.cons F271.ok .nil) rn
end F243
namespace F295
noncomputable def H:Hd:=⟨[Si],[Sx], .d,⟨[],gl,false⟩,[],f295⟩
noncomputable def F:=Aoc
theorem rn x:H.u P_ x=F x:=by kernel_rfl
noncomputable def c:Con:=⟨H.p,H.r,F⟩
theorem ok:ConOk P_ gl 295 c:=co H func295 .nil rn
end F295
namespace F272
abbrev R_:=(Int×LX×LX×Int)
noncomputable def H:Hd:=⟨[.agg [Si, .lf (.vec 16 (.int .i32)) none, .lf (.vec 16 (.int .i32)) none],Sx],[.agg [Si, .lf (.vec 16 (.int .i32)) none, .lf (.vec 16 (.int .i32)) none],Si],(.seq .d (.seq .d (.seq .d (.cut [2,4] [] (.seq .d (.blk (.loop [1,2,4,19,20] [] .d))) .d)))),⟨[(271,F271.c),(295,F295.c)],gl,false⟩,[],f272⟩
def t4(h:Int32)(f:LX)(g a:Int)(b:LX):S:=⟨[(1,vx h),(2, .ptr 0 []),(4, .ptr 1 []),(19, .val (.vec 16 (.int .i32)) f),(20,vi a)],[.box 234 (.agg [vi g, .val (.vec 16 (.int .i32)) b, .val (.vec 16 (.int .i32)) f]), .box 234 (.agg [vi 0, .val (.vec 16 (.int .i32)) (List.replicate 16 (0:Int32)), .val (.vec 16 (.int .i32)) (List.replicate 16 (0:Int32))])],[]⟩
def z4:Nat→S→Option R_:=H.i P_ [r,r,r,l,r,d]
def x6(g:Int)(b f:LX):Option R_:=H.e P_ [r,r,r,r] ⟨[(2, .ptr 0 []),(4, .ptr 1 [])],[.box 234 (.agg [vi g, .val (.vec 16 (.int .i32)) b, .val (.vec 16 (.int .i32)) f]), .box 234 (.agg [vi 0, .val (.vec 16 (.int .i32)) (List.replicate 16 (0:Int32)), .val (.vec 16 (.int .i32)) (List.replicate 16 (0:Int32))])],[]⟩
def x4(h:Int32)(f:LX)(g a:Int)(b:LX):Option R_:=H.e P_ [r,r,r,l,r,d] (t4 h f g a b)
theorem e6:x6=Axi:=by kernel_rfl
theorem i4(h:Int32)(f:LX)(g:Int):∀(q:Nat) (a:Int) (b:LX),z4 q (t4 h f g a b)=Rj h f g q a b:=
 ind (fun _ _=>by kernel_rfl) fun q ih a b=>Eq.trans (b:=Afb x6 (fun a b=>(z4 q) (t4 h f g a b)) h f g a b) (by kernel_rfl) (by simp only[e6,ih]<;>rfl)
theorem e4:x4=Ax0:=by funext h f g a b;exact Eq.trans (by kernel_rfl) ((i4 h f g Cv a b).trans (by rw[Ar];rfl))
noncomputable def F:=u4 Arl
theorem rn x:H.u P_ x=F x:=Eq.trans (b:=u4 (Ans x4) x) (by kernel_rfl) (by simp only[e4]<;>rfl)
noncomputable def c:Con:=⟨H.p,H.r,F⟩
theorem ok:ConOk P_ gl 272 c:=co H func272 (.cons F271.ok (.cons F295.ok .nil)) rn
end F272
namespace F273
def Anb(j2:Int32→Int→LX→LX→Option (Int×LX×LX×Int))(b:Int)(f a:LX)(g:Int32):Option (Int×LX×LX×Int):=
(Aeh b f a).bind fun h=>
if(Ay h 0)then
some (0,(List.replicate 16 (0:Int32)),(List.replicate 16 (0:Int32)),h)
else
both (
(vwI 16 1 16).bind fun _=>
(vwI 16 0 16).bind fun _=>
j2 g b f a) [
(vwI 16 0 16).bind fun _=>
(vwI 16 1 16).bind fun _=>
j2 g b f a]
theorem Bbt: @Anb= @Ai5:=by
  unfold Anb Ai5
  repeat (refine funext fun _=>?_)
  repeat' first
    |with_reducible rfl
    |with_reducible refine Ly ?_ ?_
    |with_reducible refine Lq ?_ ?_ ?_
    |with_reducible refine Ll ?_ ?_ ?_ ?_
    |((with_reducible refine Qv ?_ ?_);focus (intro h;first|(subst h;rfl)|(simp only[h];rfl)|(simp[Cw,Ac,h];done)))
    |with_reducible refine Qj fun x=>?_
    |with_reducible refine Yg (fun _=>?_) (fun _=>?_)
    |(refine Gn (fun h=>by simp only[h,Qc,Ed,Dx,ite_self]) (fun x h=>?_);(try simp only[h,Ed]))
    |(refine Ja (fun h=>?_) (fun h=>?_)<;>simp only[h,if_true,if_false,Bool.false_eq_true])
abbrev R_:=(Int×LX×LX×Int)
noncomputable def H:Hd:=⟨[.agg [Si, .lf (.vec 16 (.int .i32)) none, .lf (.vec 16 (.int .i32)) none],Sx],[.agg [Si, .lf (.vec 16 (.int .i32)) none, .lf (.vec 16 (.int .i32)) none],Si],(.seq .d (.seq .d (.cut [1,2,4] [] .d .d))),⟨[(271,F271.c)],gl,false⟩,[],f273⟩
def x2(g:Int32)(b:Int)(f a:LX):Option R_:=H.e P_ [r,r,r] ⟨[(1,vx g),(2, .ptr 0 []),(4, .ptr 1 [])],[.box 234 (.agg [vi b, .val (.vec 16 (.int .i32)) f, .val (.vec 16 (.int .i32)) (Rn a (1:Int) ((16:Int)-(1:Int)) (Anh a (0:Int) ((16:Int)-(0:Int))))]), .box 234 (.agg [vi 0, .val (.vec 16 (.int .i32)) (List.replicate 16 (0:Int32)), .val (.vec 16 (.int .i32)) (List.replicate 16 (0:Int32))])],[]⟩
theorem e2:x2=Art:=by kernel_rfl
noncomputable def F:=u4 Awf
theorem rn x:H.u P_ x=F x:=Eq.trans (b:=u4 (Anb x2) x) (by kernel_rfl) (by unfold F;rw[Bbt];simp only[e2]<;>rfl)
noncomputable def c:Con:=⟨H.p,H.r,F⟩
theorem ok:ConOk P_ gl 273 c:=co H func273 (.cons F271.ok .nil) rn
end F273
namespace F244
noncomputable def H:Hd:=⟨[.agg [Si, .lf (.vec 16 (.int .i32)) none, .lf (.vec 16 (.int .i32)) none],Sx,Sx],[.agg [Si, .lf (.vec 16 (.int .i32)) none, .lf (.vec 16 (.int .i32)) none]], .d,⟨[(272,F272.c),(273,F273.c)],gl,false⟩,[],f244⟩
noncomputable def F:=u5 Aq2
theorem rn x:H.u P_ x=F x:=by kernel_rfl
noncomputable def c:Con:=⟨H.p,H.r,F⟩
theorem ok:ConOk P_ gl 244 c:=co H func244 (.cons F272.ok (.cons F273.ok .nil)) rn
end F244
namespace F275
noncomputable def H:Hd:=⟨[.agg [Si, .lf (.vec 16 (.int .i32)) none, .lf (.vec 16 (.int .i32)) none],Sx],[Sx, .agg [Si, .lf (.vec 16 (.int .i32)) none, .lf (.vec 16 (.int .i32)) none],Si], .d,⟨[(243,F243.c),(244,F244.c)],gl,false⟩,[],f275⟩
noncomputable def F:=u4 Auv
theorem rn x:H.u P_ x=F x:=by kernel_rfl
noncomputable def c:Con:=⟨H.p,H.r,F⟩
theorem ok:ConOk P_ gl 275 c:=co H func275 (.cons F243.ok (.cons F244.ok .nil)) rn
end F275
namespace F247
def Abe(a:Int)(b:Int32)(f:Int)(g h:LX)(k:Int32):Option (Int32×Int×Int32×Int×LX×LX×Int):=
(Tz a b f g h).bind fun m=>
if(Ay m 0)then
some (0,0,0,0,(List.replicate 16 (0:Int32)),(List.replicate 16 (0:Int32)),m)
else
(Uz a b).bind fun(n,y)=>
(Auv f g h (Ah k n)).bind fun(o,p,u,v,w)=>
bo (
some (o,a,k,p,u,v,w))
theorem Auu: @Abe= @Ae7:=by
  unfold Abe Ae7
  simp only[Ass,Ah0,Ag3]
noncomputable def H:Hd:=⟨[.agg [Si,Sx, .agg [Si, .lf (.vec 16 (.int .i32)) none, .lf (.vec 16 (.int .i32)) none]],Sx],[Sx, .agg [Si,Sx, .agg [Si, .lf (.vec 16 (.int .i32)) none, .lf (.vec 16 (.int .i32)) none]],Si],(.seq .d (.seq .d (.seq .d (.seq .d (.seq (.mode false) .d))))),⟨[(204,F204.c),(205,F205.c),(275,F275.c)],gl,false⟩,[],f247⟩
noncomputable def F:=u6 Ae7
theorem rn x:H.u P_ x=F x:=Eq.trans (b:=u6 Abe x) (by kernel_rfl) (by rw[Auu];rfl)
noncomputable def c:Con:=⟨H.p,H.r,F⟩
theorem ok:ConOk P_ gl 247 c:=co H func247 (.cons F204.ok (.cons F205.ok (.cons F275.ok .nil))) rn
end F247
namespace F248
noncomputable def H:Hd:=⟨[Sx],[Su], .d,⟨[],gl,false⟩,[],f248⟩
noncomputable def F:=Bki
theorem rn x:H.u P_ x=F x:=by kernel_rfl
noncomputable def c:Con:=⟨H.p,H.r,F⟩
theorem ok:ConOk P_ gl 248 c:=co H func248 .nil rn
end F248
namespace F211
abbrev R_:=(LU×Int)
noncomputable def H:Hd:=⟨[.agg [Si,Si], .lf (.vec 16 (.int .i32)) none,Sw],[Ov 154,Si],(.seq .d (.seq .d (.seq .d (.seq .d (.seq .d (.cut [3,9,11] [] (.seq .d (.blk (.loop [3,4,9,11,36] [] .d))) (.seq .d (.cut [13] [] (.seq .d (.blk (.loop [3,11,13,49,50,51] [⟨13,[], .own 154 (.int .u32)⟩] .d))) .d)))))))),⟨[(170,F170.c),(245,F245.c),(246,F246.c),(247,F247.c),(248,F248.c)],gl,false⟩,[],f211⟩
def t10(b:LX)(a f g:Int)(o:List (Int×Int32×(Int×LX×LX×Unit)×Unit))(k:LU):S:=⟨[(3, .ptr 0 []),(11, .ptr 1 []),(13, .own 2),(49, .own 3),(50,vi (Ac b)),(51,vi g)],[.box 60 (.agg [vi a,vi f]), .box 237 (.val (.vec 6 (.cons (.int .i64) (.cons (.int .i32) (.cons (.cons (.int .i64) (.cons (.vec 16 (.int .i32)) (.cons (.vec 16 (.int .i32)) .nil))) .nil)))) o),Av 154 k,Aw 21 b],[]⟩
def z10:Nat→S→Option R_:=H.i P_ [r,r,r,r,r,r,r,l,r,d]
def t7(a f:Int)(m b:LX)(n:Int)(h:List (Int×Int32×(Int×LX×LX×Unit)×Unit)):S:=⟨[(3, .ptr 0 []),(4, .ptr 1 []),(9, .own 2),(11, .ptr 3 []),(36,vi n)],[.box 60 (.agg [vi a,vi f]), .box 110 (.val (.vec 16 (.int .i32)) m),Aw 21 b, .box 237 (.val (.vec 6 (.cons (.int .i64) (.cons (.int .i32) (.cons (.cons (.int .i64) (.cons (.vec 16 (.int .i32)) (.cons (.vec 16 (.int .i32)) .nil))) .nil)))) h)],[]⟩
def z7:Nat→S→Option R_:=H.i P_ [r,r,r,r,r,l,r,d]
def x12(k:LU):Option R_:=H.e P_ [r,r,r,r,r,r,r,r] ⟨[(13, .own 0)],[Av 154 k],[]⟩
def x10(b:LX)(a f g:Int)(o:List (Int×Int32×(Int×LX×LX×Unit)×Unit))(k:LU):Option R_:=H.e P_ [r,r,r,r,r,r,r,l,r,d] (t10 b a f g o k)
def x9(a f:Int)(b:LX)(h:List (Int×Int32×(Int×LX×LX×Unit)×Unit)):Option R_:=H.e P_ [r,r,r,r,r,r] ⟨[(3, .ptr 0 []),(9, .own 1),(11, .ptr 2 [])],[.box 60 (.agg [vi a,vi f]),Aw 21 b, .box 237 (.val (.vec 6 (.cons (.int .i64) (.cons (.int .i32) (.cons (.cons (.int .i64) (.cons (.vec 16 (.int .i32)) (.cons (.vec 16 (.int .i32)) .nil))) .nil)))) h)],[]⟩
def x7(a f:Int)(m b:LX)(n:Int)(h:List (Int×Int32×(Int×LX×LX×Unit)×Unit)):Option R_:=H.e P_ [r,r,r,r,r,l,r,d] (t7 a f m b n h)
theorem e12:x12=Aj1:=by kernel_rfl
theorem i10(b:LX)(a f:Int):∀(q:Nat) (g:Int) (o:List (Int×Int32×(Int×LX×LX×Unit)×Unit)) (k:LU),z10 q (t10 b a f g o k)=Yo b a f q g o k:=
 ind (fun _ _ _=>by kernel_rfl) fun q ih g o k=>Eq.trans (b:=Ak0 x12 (fun g o k=>(z10 q) (t10 b a f g o k)) b a f g o k) (by kernel_rfl) (by simp only[e12,ih]<;>rfl)
theorem e10:x10=Ajp:=by funext b a f g o k;exact Eq.trans (by kernel_rfl) ((i10 b a f Cv g o k).trans (by rw[Ar];rfl))
theorem e9:x9=Al9:=Eq.trans (b:=Al6 x10) (by kernel_rfl) (by simp only[e10]<;>rfl)
theorem i7(a f:Int)(m b:LX):∀(q:Nat) (n:Int) (h:List (Int×Int32×(Int×LX×LX×Unit)×Unit)),z7 q (t7 a f m b n h)=Abm a f m b q n h:=
 ind (fun _ _=>by kernel_rfl) fun q ih n h=>Eq.trans (b:=Amr x9 (fun n h=>(z7 q) (t7 a f m b n h)) a f m b n h) (by kernel_rfl) (by simp only[e9,ih]<;>rfl)
theorem e7:x7=Am7:=by funext a f m b n h;exact Eq.trans (by kernel_rfl) ((i7 a f m b Cv n h).trans (by rw[Ar];rfl))
noncomputable def F:=u4 Avj
theorem rn x:H.u P_ x=F x:=Eq.trans (b:=u4 (Amm x7) x) (by kernel_rfl) (by simp only[e7]<;>rfl)
noncomputable def c:Con:=⟨H.p,H.r,F⟩
theorem ok:ConOk P_ gl 211 c:=co H func211 (.cons F170.ok (.cons F245.ok (.cons F246.ok (.cons F247.ok (.cons F248.ok .nil))))) rn
end F211
namespace F165
noncomputable def H:Hd:=⟨[],[.agg [Si,Si,Sq,Sq]], .d,⟨[],gl,false⟩,[],f165⟩
noncomputable def F(x:Unit):=Ay7
theorem rn x:H.u P_ x=F x:=by kernel_rfl
noncomputable def c:Con:=⟨H.p,H.r,F⟩
theorem ok:ConOk P_ gl 165 c:=co H func165 .nil rn
end F165
namespace F212
abbrev R_:=((List (Int×Int×UInt64×UInt64×Unit)))
noncomputable def H:Hd:=⟨[],[.lf (.vec 6 (.cons (.int .i64) (.cons (.int .i64) (.cons (.int .u64) (.cons (.int .u64) .nil))))) none],(.seq .d (.seq .d (.cut [0,1] [] (.seq .d (.blk (.loop [0,1,3] [] .d))) .d))),⟨[(165,F165.c)],gl,false⟩,[],f212⟩
def t4(b:Int)(a:List (Int×Int×UInt64×UInt64×Unit)):S:=⟨[(0, .ptr 0 []),(1, .ptr 1 []),(3,vi b)],[.box 226 (.val (.vec 6 (.cons (.int .i64) (.cons (.int .i64) (.cons (.int .u64) (.cons (.int .u64) .nil))))) (List.replicate 6 ((0:Int),(0:Int),(0:UInt64),(0:UInt64),()))), .box 226 (.val (.vec 6 (.cons (.int .i64) (.cons (.int .i64) (.cons (.int .u64) (.cons (.int .u64) .nil))))) a)],[]⟩
def z4:Nat→S→Option R_:=H.i P_ [r,r,l,r,d]
def x6(a:List (Int×Int×UInt64×UInt64×Unit)):Option R_:=H.e P_ [r,r,r] ⟨[(0, .ptr 0 []),(1, .ptr 1 [])],[.box 226 (.val (.vec 6 (.cons (.int .i64) (.cons (.int .i64) (.cons (.int .u64) (.cons (.int .u64) .nil))))) (List.replicate 6 ((0:Int),(0:Int),(0:UInt64),(0:UInt64),()))), .box 226 (.val (.vec 6 (.cons (.int .i64) (.cons (.int .i64) (.cons (.int .u64) (.cons (.int .u64) .nil))))) a)],[]⟩
def x4(b:Int)(a:List (Int×Int×UInt64×UInt64×Unit)):Option R_:=H.e P_ [r,r,l,r,d] (t4 b a)
theorem e6:x6=Amj:=by kernel_rfl
theorem i4:∀(q:Nat) (b:Int) (a:List (Int×Int×UInt64×UInt64×Unit)),z4 q (t4 b a)=Abc q b a:=
 ind (fun _ _=>by kernel_rfl) fun q ih b a=>Eq.trans (b:=Amq x6 (fun b a=>(z4 q) (t4 b a)) b a) (by kernel_rfl) (by simp only[e6,ih]<;>rfl)
theorem e4:x4=Am1:=by funext b a;exact Eq.trans (by kernel_rfl) ((i4 Cv b a).trans (by rw[Ar];rfl))
noncomputable def F(x:Unit):=Aut
theorem rn x:H.u P_ x=F x:=Eq.trans (b:=Am3 x4) (by kernel_rfl) (by simp only[e4]<;>rfl)
noncomputable def c:Con:=⟨H.p,H.r,F⟩
theorem ok:ConOk P_ gl 212 c:=co H func212 (.cons F165.ok .nil) rn
end F212
namespace F168
noncomputable def H:Hd:=⟨[.agg [Sb,Si]],[Si], .d,⟨[],gl,false⟩,[],f168⟩
noncomputable def F:=u2 Jg
theorem rn x:H.u P_ x=F x:=by kernel_rfl
noncomputable def c:Con:=⟨H.p,H.r,F⟩
theorem ok:ConOk P_ gl 168 c:=co H func168 .nil rn
end F168
namespace F200
def Ajv(j4:Int→Int→UInt64→UInt64→Option Int)(a b:Int)(f g:UInt64):Option Int:=
both (
bo (
j4 a b f g)) [
j4 a b f g]
theorem Bag: @Ajv= @Afd:=by
  unfold Ajv Afd
  repeat (refine funext fun _=>?_)
  repeat' first
    |with_reducible rfl
    |with_reducible refine Ly ?_ ?_
    |with_reducible refine Lq ?_ ?_ ?_
    |with_reducible refine Ll ?_ ?_ ?_ ?_
    |((with_reducible refine Qv ?_ ?_);focus (intro h;first|(subst h;rfl)|(simp only[h];rfl)|(simp[Cw,Ac,h];done)))
    |with_reducible refine Qj fun x=>?_
    |with_reducible refine Yg (fun _=>?_) (fun _=>?_)
    |(refine Gn (fun h=>by simp only[h,Qc,Ed,Dx,ite_self]) (fun x h=>?_);(try simp only[h,Ed]))
    |(refine Ja (fun h=>?_) (fun h=>?_)<;>simp only[h,if_true,if_false,Bool.false_eq_true])
def Aj2(j3:Int→Int→UInt64→UInt64→Option Int)(a b:Int)(f g:UInt64):Option Int:=
both (
bo (
j3 a b f g)) [
j3 a b f g]
theorem Baw: @Aj2= @Ae8:=by
  unfold Aj2 Ae8
  repeat (refine funext fun _=>?_)
  repeat' first
    |with_reducible rfl
    |with_reducible refine Ly ?_ ?_
    |with_reducible refine Lq ?_ ?_ ?_
    |with_reducible refine Ll ?_ ?_ ?_ ?_
    |((with_reducible refine Qv ?_ ?_);focus (intro h;first|(subst h;rfl)|(simp only[h];rfl)|(simp[Cw,Ac,h];done)))
    |with_reducible refine Qj fun x=>?_
    |with_reducible refine Yg (fun _=>?_) (fun _=>?_)
    |(refine Gn (fun h=>by simp only[h,Qc,Ed,Dx,ite_self]) (fun x h=>?_);(try simp only[h,Ed]))
    |(refine Ja (fun h=>?_) (fun h=>?_)<;>simp only[h,if_true,if_false,Bool.false_eq_true])
abbrev R_:=Int
noncomputable def H:Hd:=⟨[.agg [Si,Si,Sq,Sq]],[Si],(.seq .d (.seq .d (.cut [1,3] [] (.mode false) (.cut [1,3] [] (.mode false) .d)))),⟨[],gl,false⟩,[],f200⟩
def x4(a b:Int)(f g:UInt64):Option R_:=H.e P_ [r,r,r,r] ⟨[(1, .ptr 0 []),(3, .ptr 1 [])],[.box 225 (.agg [vi a,vi b,vq f,vq g]), .box 225 (.agg [vi (Ec (Aw5 a (0:Int)) (24:Int)),vi (Ec (Aw5 b (0:Int)) (24:Int)),vq (Ec f (68719476735:UInt64)),vq (Ec g (68719476735:UInt64))])],[]⟩
def x3(a b:Int)(f g:UInt64):Option R_:=H.e P_ [r,r,r] ⟨[(1, .ptr 0 []),(3, .ptr 1 [])],[.box 225 (.agg [vi a,vi b,vq f,vq g]), .box 225 (.agg [vi (Ec (Aw5 a (0:Int)) (24:Int)),vi (Ec (Aw5 b (0:Int)) (24:Int)),vq f,vq g])],[]⟩
theorem e4:x4=An6:=by kernel_rfl
theorem e3:x3=Anx:=Eq.trans (b:=Ajv x4) (by kernel_rfl) (by rw[Bag];simp only[e4]<;>rfl)
noncomputable def F:=u4 Aj7
theorem rn x:H.u P_ x=F x:=Eq.trans (b:=u4 (Aj2 x3) x) (by kernel_rfl) (by unfold F;rw[Baw];simp only[e3]<;>rfl)
noncomputable def c:Con:=⟨H.p,H.r,F⟩
theorem ok:ConOk P_ gl 200 c:=co H func200 .nil rn
end F200
namespace F240
noncomputable def H:Hd:=⟨[.agg [Si,Si,Sq,Sq],Su],[Si,Su], .d,⟨[],gl,false⟩,[],f240⟩
noncomputable def F:=u5 Aeu
theorem rn x:H.u P_ x=F x:=by kernel_rfl
noncomputable def c:Con:=⟨H.p,H.r,F⟩
theorem ok:ConOk P_ gl 240 c:=co H func240 .nil rn
end F240
namespace F276
noncomputable def H:Hd:=⟨[.agg [Sb,Si]],[.agg [Ob 5,Si]], .d,⟨[(150,F150.c)],gl,false⟩,[],f276⟩
noncomputable def F:=u2 Bbj
theorem rn x:H.u P_ x=F x:=by kernel_rfl
noncomputable def c:Con:=⟨H.p,H.r,F⟩
theorem ok:ConOk P_ gl 276 c:=co H func276 (.cons F150.ok .nil) rn
end F276
namespace F249
abbrev R_:=(LB×Int×Int)
abbrev K_:=S→Option R_
noncomputable def H:Hd:=⟨[.agg [Sb,Si],Sq,Si],[.agg [Ob 5,Si],Si],(.seq .d (.seq .d (.seq .d (.cut [3,6] [] (.keep [1,2,3,6,40,41] true) .d)))),⟨[(168,F168.c),(276,F276.c)],gl,false⟩,[(199,(.blk (.loop [0,1,2] [] (.seq .d (.blk (.cut [0,1,2] [] .d (.seq .d (.cut [0,1,2,7] [] .d .d))))))))],f249⟩
def t15(b:UInt64)(a:Int)(m:UInt64)(h f:Int)(o:LB):S:=⟨[(0, .ptr 0 []),(1,vq m),(2,vi h)],[.box 170 (.agg [.own 2,vi f]), .box 170 (.agg [.nils,vi 0]),Ab 5 o],[[(1,vq b),(2,vi a),(3, .ptr 0 []),(6, .ptr 1 []),(40,vq b),(41,vi a)]]⟩
def z15:Nat→S→Option R_:=H.i P_ [r,r,r,l,(call 2 199),d]
def t22(b:UInt64)(a:Int)(n:UInt64)(k g:Int)(p:LB):S:=⟨[(0, .ptr 0 []),(1,vq n),(2,vi k)],[.box 170 (.agg [.own 2,vi g]), .box 170 (.agg [.nils,vi 0]),Ab 5 p],[[(1,vq b),(2,vi a),(3, .ptr 0 []),(6, .ptr 1 []),(40,vq b),(41,vi a)]]⟩
def z22:Nat→S→Option R_:=H.i P_ [r,r,r,l,(call 2 199),d]
def x21(f:Int)(o:LB):Option R_:=H.e P_ [r,r,r,r] ⟨[(3, .ptr 0 []),(6, .ptr 1 [])],[.box 170 (.agg [.own 2,vi f]), .box 170 (.agg [.nils,vi 0]),Ab 5 o],[]⟩
def x19(kn15:K_)(b:UInt64)(a:Int)(m:UInt64)(h f:Int)(w:LB):Option R_:=H.e P_ [r,r,r,l,(call 2 199),d,(lp kn15),r,d,r,r,r] ⟨[(0, .ptr 0 []),(1,vq m),(2,vi h),(7,vi (Ec h (Ah (8:Int) (Dq f (7:Int)))))],[.box 170 (.agg [.own 2,vi f]), .box 170 (.agg [.nils,vi 0]),Ab 5 w],[[(1,vq b),(2,vi a),(3, .ptr 0 []),(6, .ptr 1 []),(40,vq b),(41,vi a)]]⟩
def x18(kn15:K_)(b:UInt64)(a:Int)(m:UInt64)(h f:Int)(u:LB):Option R_:=H.e P_ [r,r,r,l,(call 2 199),d,(lp kn15),r,d,r] ⟨[(0, .ptr 0 []),(1,vq m),(2,vi h)],[.box 170 (.agg [.own 2,vi f]), .box 170 (.agg [.nils,vi 0]),Ab 5 u],[[(1,vq b),(2,vi a),(3, .ptr 0 []),(6, .ptr 1 []),(40,vq b),(41,vi a)]]⟩
def x15(b:UInt64)(a:Int)(m:UInt64)(h f:Int)(o:LB):Option R_:=H.e P_ [r,r,r,l,(call 2 199),d] (t15 b a m h f o)
def x28(g:Int)(p:LB):Option R_:=H.e P_ [r,r,r,r] ⟨[(3, .ptr 0 []),(6, .ptr 1 [])],[.box 170 (.agg [.own 2,vi g]), .box 170 (.agg [.nils,vi 0]),Ab 5 p],[]⟩
def x26(kn22:K_)(b:UInt64)(a:Int)(n:UInt64)(k g:Int)(y:LB):Option R_:=H.e P_ [r,r,r,l,(call 2 199),d,(lp kn22),r,d,r,r,r] ⟨[(0, .ptr 0 []),(1,vq n),(2,vi k),(7,vi (Ec k (Ah (8:Int) (Dq g (7:Int)))))],[.box 170 (.agg [.own 2,vi g]), .box 170 (.agg [.nils,vi 0]),Ab 5 y],[[(1,vq b),(2,vi a),(3, .ptr 0 []),(6, .ptr 1 []),(40,vq b),(41,vi a)]]⟩
def x25(kn22:K_)(b:UInt64)(a:Int)(n:UInt64)(k g:Int)(v:LB):Option R_:=H.e P_ [r,r,r,l,(call 2 199),d,(lp kn22),r,d,r] ⟨[(0, .ptr 0 []),(1,vq n),(2,vi k)],[.box 170 (.agg [.own 2,vi g]), .box 170 (.agg [.nils,vi 0]),Ab 5 v],[[(1,vq b),(2,vi a),(3, .ptr 0 []),(6, .ptr 1 []),(40,vq b),(41,vi a)]]⟩
def x22(b:UInt64)(a:Int)(n:UInt64)(k g:Int)(p:LB):Option R_:=H.e P_ [r,r,r,l,(call 2 199),d] (t22 b a n k g p)
theorem e21:x21=Bbd:=by kernel_rfl
theorem e19(kn15:K_)(b:UInt64)(a:Int):x19 kn15 b a=Az3 (fun m h f o=>kn15 (t15 b a m h f o)) b a:=by kernel_rfl
theorem e18(kn15:K_)(b:UInt64)(a:Int):x18 kn15 b a=Az0 (fun m h f o=>kn15 (t15 b a m h f o)) b a:=Eq.trans (b:=Azs (x19 kn15 b a) b a) (by kernel_rfl) (by simp only[e19]<;>rfl)
theorem i15(b:UInt64)(a:Int):∀(q:Nat) (m:UInt64) (h f:Int) (o:LB),z15 q (t15 b a m h f o)=Arh b a q m h f o:=
 ind (fun _ _ _ _=>by kernel_rfl) fun q ih m h f o=>Eq.trans (b:=Ba4 (x18 (z15 q) b a) x21 b a m h f o) (by kernel_rfl) (by simp only[e18,e21,ih]<;>rfl)
theorem e15:x15=Bax:=by funext b a m h f o;exact Eq.trans (by kernel_rfl) ((i15 b a Cv m h f o).trans (by rw[Ar];rfl))
theorem e28:x28=Az2:=by kernel_rfl
theorem e26(kn22:K_)(b:UInt64)(a:Int):x26 kn22 b a=Azy (fun n k g p=>kn22 (t22 b a n k g p)) b a:=by kernel_rfl
theorem e25(kn22:K_)(b:UInt64)(a:Int):x25 kn22 b a=Azn (fun n k g p=>kn22 (t22 b a n k g p)) b a:=Eq.trans (b:=Azl (x26 kn22 b a) b a) (by kernel_rfl) (by simp only[e26]<;>rfl)
theorem i22(b:UInt64)(a:Int):∀(q:Nat) (n:UInt64) (k g:Int) (p:LB),z22 q (t22 b a n k g p)=Arr b a q n k g p:=
 ind (fun _ _ _ _=>by kernel_rfl) fun q ih n k g p=>Eq.trans (b:=Baj (x25 (z22 q) b a) x28 b a n k g p) (by kernel_rfl) (by simp only[e25,e28,ih]<;>rfl)
theorem e22:x22=Az9:=by funext b a n k g p;exact Eq.trans (by kernel_rfl) ((i22 b a Cv n k g p).trans (by rw[Ar];rfl))
noncomputable def F:=u4 Av3
theorem rn x:H.u P_ x=F x:=Eq.trans (b:=u4 (Bdc x15 x22) x) (by kernel_rfl) (by simp only[e15,e22]<;>rfl)
noncomputable def c:Con:=⟨H.p,H.r,F⟩
theorem ok:ConOk P_ gl 249 c:=cr H func249 (.cons F168.ok (.cons F276.ok .nil)) (AnsOk.cons ent199 AnsOk.nil) rn
end F249
namespace F238
noncomputable def H:Hd:=⟨[Su,Si],[Sz], .d,⟨[],gl,false⟩,[],f238⟩
noncomputable def F:=u2 Ajb
theorem rn x:H.u P_ x=F x:=by kernel_rfl
noncomputable def c:Con:=⟨H.p,H.r,F⟩
theorem ok:ConOk P_ gl 238 c:=co H func238 .nil rn
end F238
namespace F296
noncomputable def H:Hd:=⟨[Si],[Si,Si], .d,⟨[],gl,false⟩,[],f296⟩
noncomputable def F:=Bae
theorem rn x:H.u P_ x=F x:=by kernel_rfl
noncomputable def c:Con:=⟨H.p,H.r,F⟩
theorem ok:ConOk P_ gl 296 c:=co H func296 .nil rn
end F296
namespace F277
noncomputable def H:Hd:=⟨[.agg [Sb,Si],Si],[.agg [Ob 5,Si],Si], .d,⟨[(168,F168.c),(249,F249.c),(296,F296.c)],gl,false⟩,[],f277⟩
noncomputable def F:=u3 Bcx
theorem rn x:H.u P_ x=F x:=by kernel_rfl
noncomputable def c:Con:=⟨H.p,H.r,F⟩
theorem ok:ConOk P_ gl 277 c:=co H func277 (.cons F168.ok (.cons F249.ok (.cons F296.ok .nil))) rn
end F277
namespace F250
abbrev R_:=(LB×Int×Int)
noncomputable def H:Hd:=⟨[.agg [Sb,Si],Su,Si],[.agg [Ob 5,Si],Si],(.seq .d (.seq .d (.seq .d (.seq .d (.cut [3,6,9,10,11] [] .d .d))))),⟨[(168,F168.c),(238,F238.c),(249,F249.c),(277,F277.c)],gl,false⟩,[],f250⟩
def x2(b:LB)(f h:Int)(k:UInt32)(m:Int):Option R_:=H.e P_ [r,r,r,r,r] ⟨[(3, .ptr 0 []),(6, .ptr 1 []),(9,vi h),(10,vu k),(11,vi m)],[.box 170 (.agg [vb b,vi f]), .box 170 (.agg [.nils,vi 0])],[]⟩
theorem e2:x2=Axg:=by kernel_rfl
noncomputable def F:=u4 Bey
theorem rn x:H.u P_ x=F x:=Eq.trans (b:=u4 (Axb x2) x) (by kernel_rfl) (by simp only[e2]<;>rfl)
noncomputable def c:Con:=⟨H.p,H.r,F⟩
theorem ok:ConOk P_ gl 250 c:=co H func250 (.cons F168.ok (.cons F238.ok (.cons F249.ok (.cons F277.ok .nil)))) rn
end F250
namespace F213
def Ahe(k u n:Int)(a:UInt64)(b:UInt32)(o:UInt64)(m:LB):Option (LB×Int×Int×Int×UInt64×UInt64×Int):=
(fun af:Option (LB×Int×Int×Int×UInt64×UInt64×Int)=>
both (
bo (
af)) [
af]) (
some (m,k,u,n,(Ae a (Ah (Ad b:UInt64) (Bv a (GI.toZ (4:UInt64)).toNat))),o,0))
theorem Aym: @Ahe= @Akb:=by
  unfold Ahe Akb
  try simp only[Ass,Ah0,Ag3]
  all_goals
    repeat (refine funext fun _=>?_)
    repeat' first
      |with_reducible rfl
      |with_reducible refine Ly ?_ ?_
      |with_reducible refine Lq ?_ ?_ ?_
      |with_reducible refine Ll ?_ ?_ ?_ ?_
      |((with_reducible refine Qv ?_ ?_);focus (intro h;first|(subst h;rfl)|(simp only[h];rfl)|(simp[Cw,Ac,h];done)))
      |with_reducible refine Qj fun x=>?_
      |with_reducible refine Yg (fun _=>?_) (fun _=>?_)
      |(refine Gn (fun h=>by simp only[h,Qc,Ed,Dx,ite_self]) (fun x h=>?_);(try simp only[h,Ed]))
      |(refine Ja (fun h=>?_) (fun h=>?_)<;>simp only[h,if_true,if_false,Bool.false_eq_true])
abbrev R_:=(LB×Int×Int×Int×UInt64×UInt64×Int)
noncomputable def H:Hd:=⟨[.agg [Sb,Si], .agg [Si,Si,Sq,Sq],Su],[.agg [Ob 5,Si], .agg [Si,Si,Sq,Sq],Si],(.seq .d (.cut [2,3,4,6,7] [] .d (.seq .d (.seq .d (.cut [2,3,4,6,7,11] [] .d (.seq .d (.cut [3,4,6,7] [] (.keep [2,3,4,6,7,65] true) (.seq (.mode false) .d)))))))),⟨[(168,F168.c),(200,F200.c),(240,F240.c),(249,F249.c),(250,F250.c)],gl,false⟩,[(202,(.seq .d (.seq .d (.seq .d (.blk (.cut [0,1,4] [] (.blk (.seq .d (.keep [0,1,4,6,18,19,20,21,22,23,24,25] true))) (.cut [] [] (.keep [0,1,4,27,28,29,30,31,32,33,34] true) .d))))))),(239, .d)],f213⟩
def x10(k u n:Int)(a:UInt64)(b:UInt32)(o:UInt64)(m:LB):Option R_:=H.e P_ [r,r,r,r,r,r,r] ⟨[(3, .ptr 0 []),(4, .ptr 1 []),(6, .ptr 2 []),(7, .ptr 3 [])],[.box 170 (.agg [.own 4,vi k]), .box 225 (.agg [vi u,vi n,vq (Ae a (Ah (Ad b:UInt64) (Bv a (GI.toZ (4:UInt64)).toNat))),vq o]), .box 170 (.agg [.nils,vi 0]), .box 225 (.agg [vi 0,vi 0,vq 0,vq 0]),Ab 5 m],[]⟩
def x9(b:UInt32)(k n:Int)(a o:UInt64)(m:LB)(u:Int):Option R_:=H.e P_ [r,r,r,r,r,r,l,(call 1 202),r,r,r,d,r,r] ⟨[],[.box 170 (.agg [.own 4,vi k]), .box 225 (.agg [vi u,vi n,vq (Ae a (Ah (Ad b:UInt64) (Bv a (GI.toZ (4:UInt64)).toNat))),vq o]), .box 170 (.agg [.nils,vi 0]), .box 225 (.agg [vi 0,vi 0,vq 0,vq 0]),Ab 5 m],[[(2,vu b),(3, .ptr 0 []),(4, .ptr 1 []),(6, .ptr 2 []),(7, .ptr 3 []),(65,vu b)]]⟩
def x8(b:UInt32)(f:Int)(a:UInt64)(k:Int)(m:LB)(n:Int)(o:UInt64):Option R_:=H.e P_ [r,r,r,r,r,r,l,(call 1 202),r,r,r,d,r] ⟨[(0, .ptr 0 []),(1,vu b),(4, .fn 239 [])],[.box 225 (.agg [vi f,vi n,vq a,vq o]), .box 170 (.agg [.own 4,vi k]), .box 170 (.agg [.nils,vi 0]), .box 225 (.agg [vi 0,vi 0,vq 0,vq 0]),Ab 5 m],[[(2,vu b),(3, .ptr 1 []),(4, .ptr 0 []),(6, .ptr 2 []),(7, .ptr 3 []),(65,vu b)]]⟩
def x7(b:UInt32)(f h:Int)(a g:UInt64)(y k:Int)(m:LB):Option R_:=H.e P_ [r,r,r,r,r] ⟨[(2,vu b),(3, .ptr 0 []),(4, .ptr 1 []),(6, .ptr 2 []),(7, .ptr 3 []),(11,vi y)],[.box 170 (.agg [.own 4,vi k]), .box 225 (.agg [vi f,vi h,vq a,vq g]), .box 170 (.agg [.nils,vi 0]), .box 225 (.agg [vi 0,vi 0,vq 0,vq 0]),Ab 5 m],[]⟩
def x6(b:UInt32)(v:LB)(w f h:Int)(a g:UInt64):Option R_:=H.e P_ [r,r] ⟨[(2,vu b),(3, .ptr 0 []),(4, .ptr 1 []),(6, .ptr 2 []),(7, .ptr 3 [])],[.box 170 (.agg [vb v,vi w]), .box 225 (.agg [vi f,vi h,vq a,vq g]), .box 170 (.agg [.nils,vi 0]), .box 225 (.agg [vi 0,vi 0,vq 0,vq 0])],[]⟩
theorem e10:x10=Atx:=Eq.trans (b:=Ahe) (by kernel_rfl) (by rw[Aym];rfl)
theorem e9:x9=Axo:=Eq.trans (b:=Ax5 x10) (by kernel_rfl) (by simp only[e10]<;>rfl)
theorem e8:x8=Ax4:=Eq.trans (b:=Axq x9) (by kernel_rfl) (by simp only[e9]<;>rfl)
theorem e7:x7=Axh:=Eq.trans (b:=Axc x8) (by kernel_rfl) (by simp only[e8]<;>rfl)
theorem e6:x6=Axt:=Eq.trans (b:=Axr x7) (by kernel_rfl) (by simp only[e7]<;>rfl)
noncomputable def F:=u7 Bgr
theorem rn x:H.u P_ x=F x:=Eq.trans (b:=u7 (Axy x6) x) (by kernel_rfl) (by simp only[e6]<;>rfl)
noncomputable def c:Con:=⟨H.p,H.r,F⟩
theorem ok:ConOk P_ gl 213 c:=cr H func213 (.cons F168.ok (.cons F200.ok (.cons F240.ok (.cons F249.ok (.cons F250.ok .nil))))) (AnsOk.cons ent202 (AnsOk.cons ent239 AnsOk.nil)) rn
end F213
namespace F155
abbrev R_:=(UInt32×Int)
abbrev K_:=S→Option R_
noncomputable def H:Hd:=⟨[Su,Sb],[Su,Si],(.seq .d (.seq .d (.cut [0,1,6] [] (.keep [0,1,6,12] true) (.cut [0] [] (.seq .d (.blk (.loop [0,6,13,14,15] [] .d))) .d)))),⟨[],gl,false⟩,[(193,(.seq .d (.seq .d (.cut [1] [] (.seq .d (.blk (.loop [1,5] [] (.seq .d (.seq .d (.cut [1,5] [] (.blk (.seq .d (.seq .d (.cut [1,2,3,5] [] (.seq .d (.blk (.loop [1,2,3,5,10] [] .d))) .d)))) .d)))))) .d))))],f155⟩
def t28(a:LB)(b:LU)(h:UInt32)(m:Int):S:=⟨[(0,vu h),(6, .ptr 0 []),(13,vb a),(14,vi (Ac a)),(15,vi m)],[.box 318 (.val (.vec 256 (.int .u32)) b)],[]⟩
def z28:Nat→S→Option R_:=H.i P_ [r,r,r,l,r,d]
def t21(f:UInt32)(a:LB)(g:Int)(b:LU)(k:UInt32)(n:Int):S:=⟨[(1, .ptr 0 []),(2,vi g),(3,vu k),(5,vi g),(10,vi n)],[.box 318 (.val (.vec 256 (.int .u32)) b)],[[(0,vu f),(1,vb a)]]⟩
def z21(kn16:K_):Nat→S→Option R_:=H.i P_ [r,r,l,(call 0 193),r,r,l,r,d,(lp kn16),r,r,l,d,r,r,l,r,d]
def t16(f:UInt32)(a:LB)(g:Int)(b:LU):S:=⟨[(1, .ptr 0 []),(5,vi g)],[.box 318 (.val (.vec 256 (.int .u32)) b)],[[(0,vu f),(1,vb a)]]⟩
def z16:Nat→S→Option R_:=H.i P_ [r,r,l,(call 0 193),r,r,l,r,d]
def x30(h:UInt32):Option R_:=H.e P_ [r,r,r,r] ⟨[(0,vu h)],[],[]⟩
def x28(a:LB)(b:LU)(h:UInt32)(m:Int):Option R_:=H.e P_ [r,r,r,l,r,d] (t28 a b h m)
def x27(f:UInt32)(a:LB)(b:LU):Option R_:=H.e P_ [r,r,r] ⟨[(0,vu f),(1,vb a),(6, .ptr 0 [])],[.box 318 (.val (.vec 256 (.int .u32)) b)],[]⟩
def x26(f:UInt32)(a:LB)(b:LU):Option R_:=H.e P_ [r,r,l,(call 0 193),r,r,r] ⟨[(1, .ptr 0 [])],[.box 318 (.val (.vec 256 (.int .u32)) b)],[[(0,vu f),(1,vb a)]]⟩
def x24(kn16:K_)(f:UInt32)(a:LB)(g:Int)(o:LU):Option R_:=H.e P_ [r,r,l,(call 0 193),r,r,l,r,d,(lp kn16),r,r,r] ⟨[(1, .ptr 0 []),(5,vi g)],[.box 318 (.val (.vec 256 (.int .u32)) o)],[[(0,vu f),(1,vb a)]]⟩
def x23(kn16:K_)(f:UInt32)(a:LB)(g:Int)(k:UInt32)(b:LU):Option R_:=H.e P_ [r,r,l,(call 0 193),r,r,l,r,d,(lp kn16),r,r,l,d,r,r,r] ⟨[(1, .ptr 0 []),(2,vi g),(3,vu k),(5,vi g)],[.box 318 (.val (.vec 256 (.int .u32)) b)],[[(0,vu f),(1,vb a)]]⟩
def x21(kn16:K_)(f:UInt32)(a:LB)(g:Int)(b:LU)(k:UInt32)(n:Int):Option R_:=H.e P_ [r,r,l,(call 0 193),r,r,l,r,d,(lp kn16),r,r,l,d,r,r,l,r,d] (t21 f a g b k n)
def x16(f:UInt32)(a:LB)(g:Int)(b:LU):Option R_:=H.e P_ [r,r,l,(call 0 193),r,r,l,r,d] (t16 f a g b)
theorem e30:x30=Ald:=by kernel_rfl
theorem i28(a:LB)(b:LU):∀(q:Nat) (h:UInt32) (m:Int),z28 q (t28 a b h m)=Po a b q h m:=
 ind (fun _ _=>by kernel_rfl) fun q ih h m=>Eq.trans (b:=Ac0 x30 (fun h m=>(z28 q) (t28 a b h m)) a b h m) (by kernel_rfl) (by simp only[e30,ih]<;>rfl)
theorem e28:x28=Alc:=by funext a b h m;exact Eq.trans (by kernel_rfl) ((i28 a b Cv h m).trans (by rw[Ar];rfl))
theorem e27:x27=Aj6:=Eq.trans (b:=Ajw x28) (by kernel_rfl) (by simp only[e28]<;>rfl)
theorem e26:x26=Ab7:=Eq.trans (b:=Akh x27) (by kernel_rfl) (by simp only[e27]<;>rfl)
theorem e24(kn16:K_)(f:UInt32)(a:LB):x24 kn16 f a=Akv (fun g b=>kn16 (t16 f a g b)) f a:=by kernel_rfl
theorem e23(kn16:K_)(f:UInt32)(a:LB):x23 kn16 f a=Abw (fun g b=>kn16 (t16 f a g b)) f a:=Eq.trans (b:=Alm (x24 kn16 f a) f a) (by kernel_rfl) (by simp only[e24]<;>rfl)
theorem i21(kn16:K_)(f:UInt32)(a:LB)(g:Int)(b:LU):∀(q:Nat) (k:UInt32) (n:Int),z21 kn16 q (t21 f a g b k n)=Ou (fun g b=>kn16 (t16 f a g b)) f a g b q k n:=
 ind (fun _ _=>by kernel_rfl) fun q ih k n=>Eq.trans (b:=Ada (x23 kn16 f a) (fun k n=>(z21 kn16 q) (t21 f a g b k n)) f a g b k n) (by kernel_rfl) (by simp only[e23,ih]<;>rfl)
theorem e21(kn16:K_)(f:UInt32)(a:LB):x21 kn16 f a=Ak3 (fun g b=>kn16 (t16 f a g b)) f a:=by funext g b k n;exact Eq.trans (by kernel_rfl) ((i21 kn16 f a g b Cv k n).trans (by rw[Ar];rfl))
theorem i16(f:UInt32)(a:LB):∀(q:Nat) (g:Int) (b:LU),z16 q (t16 f a g b)=Lw f a q g b:=
 ind (fun _ _=>by kernel_rfl) fun q ih g b=>Eq.trans (b:=Aay (x21 (z16 q) f a) x26 f a g b) (by kernel_rfl) (by simp only[e21,e26,ih]<;>rfl)
theorem e16:x16=Alr:=by funext f a g b;exact Eq.trans (by kernel_rfl) ((i16 f a Cv g b).trans (by rw[Ar];rfl))
noncomputable def F:=u2 Aqq
theorem rn x:H.u P_ x=F x:=Eq.trans (b:=u2 (Anj x16) x) (by kernel_rfl) (by simp only[e16]<;>rfl)
noncomputable def c:Con:=⟨H.p,H.r,F⟩
theorem ok:ConOk P_ gl 155 c:=cr H func155 .nil (AnsOk.cons ent193 AnsOk.nil) rn
end F155
namespace F102
noncomputable def H:Hd:=⟨[Sb],[Su,Si], .d,⟨[(155,F155.c)],gl,false⟩,[],f102⟩
noncomputable def F:=Vk
theorem rn x:H.u P_ x=F x:=by kernel_rfl
noncomputable def c:Con:=⟨H.p,H.r,F⟩
theorem ok:ConOk P_ gl 102 c:=co H func102 (.cons F155.ok .nil) rn
end F102
namespace F194
noncomputable def H:Hd:=⟨[Sq,Si],[Sz], .d,⟨[],gl,false⟩,[],f194⟩
noncomputable def F:=u2 Beq
theorem rn x:H.u P_ x=F x:=by kernel_rfl
noncomputable def c:Con:=⟨H.p,H.r,F⟩
theorem ok:ConOk P_ gl 194 c:=co H func194 .nil rn
end F194
namespace F157
abbrev R_:=(LB×Int)
noncomputable def H:Hd:=⟨[Sq,Si],[Ob 5,Si],(.seq .d (.seq .d (.seq .d (.seq .d (.cut [6] [] (.seq .d (.blk (.loop [0,6,21,22] [] .d))) .d))))),⟨[(194,F194.c)],gl,false⟩,[],f157⟩
def t4(f:UInt64)(g:LB)(b:Int)(a:LB):S:=⟨[(0,vq f),(6, .own 0),(21,vi (Ac g)),(22,vi b)],[Ab 5 a],[]⟩
def z4:Nat→S→Option R_:=H.i P_ [r,r,r,r,l,r,d]
def x6(a:LB):Option R_:=H.e P_ [r,r,r,r,r] ⟨[(6, .own 0)],[Ab 5 a],[]⟩
def x4(f:UInt64)(g:LB)(b:Int)(a:LB):Option R_:=H.e P_ [r,r,r,r,l,r,d] (t4 f g b a)
theorem e6:x6=Aun:=by kernel_rfl
theorem i4(f:UInt64)(g:LB):∀(q:Nat) (b:Int) (a:LB),z4 q (t4 f g b a)=Zc f g q b a:=
 ind (fun _ _=>by kernel_rfl) fun q ih b a=>Eq.trans (b:=Amd x6 (fun b a=>(z4 q) (t4 f g b a)) f g b a) (by kernel_rfl) (by simp only[e6,ih]<;>rfl)
theorem e4:x4=Auh:=by funext f g b a;exact Eq.trans (by kernel_rfl) ((i4 f g Cv b a).trans (by rw[Ar];rfl))
noncomputable def F:=u2 Xm
theorem rn x:H.u P_ x=F x:=Eq.trans (b:=u2 (Aud x4) x) (by kernel_rfl) (by simp only[e4]<;>rfl)
noncomputable def c:Con:=⟨H.p,H.r,F⟩
theorem ok:ConOk P_ gl 157 c:=co H func157 (.cons F194.ok .nil) rn
end F157
namespace F188
abbrev R_:=LB
noncomputable def H:Hd:=⟨[.lf (.list (.list (.int .u8))) none],[Ob 5],(.seq .d (.seq .d (.cut [0,3] [] (.seq .d (.blk (.loop [0,3,9,10,11] [] .d))) (.cut [0,6] [⟨6,[], .own 5 (.int .u8)⟩] (.keep [0,3,6,23,24] true) (.cut [6] [] (.seq .d (.blk (.loop [6,25,26,27] [] .d))) .d))))),⟨[],gl,true⟩,[(229,(.seq .d (.cut [0,1] [] .d .d)))],f188⟩
def t14(a:List LB)(g:Int)(f:LB):S:=⟨[(6, .own 0),(25, .val (.list (.list (.int .u8))) a),(26,vi (Ac a)),(27,vi g)],[Ab 5 f],[]⟩
def z14:Nat→S→Option R_:=H.i P_ [r,r,r,r,l,r,d]
def t9(a:List LB)(b h:Int):S:=⟨[(0, .val (.list (.list (.int .u8))) a),(3,vi b),(9, .val (.list (.list (.int .u8))) a),(10,vi (Ac a)),(11,vi h)],[],[]⟩
def z9:Nat→S→Option R_:=H.i P_ [r,r,l,r,d]
def x16(f:LB):Option R_:=H.e P_ [r,r,r,r,r] ⟨[(6, .own 0)],[Ab 5 f],[]⟩
def x14(a:List LB)(g:Int)(f:LB):Option R_:=H.e P_ [r,r,r,r,l,r,d] (t14 a g f)
def x13(a:List LB)(k:LB):Option R_:=H.e P_ [r,r,r,r] ⟨[(0, .val (.list (.list (.int .u8))) a),(6, .own 0)],[Ab 5 k],[]⟩
def x12(b:Int)(a:List LB):Option R_:=H.e P_ [r,r,r,l,(call 1 229),r,r] ⟨[(0, .nils),(1,vi b)],[],[[(0, .val (.list (.list (.int .u8))) a),(3,vi b),(23,vi b)]]⟩
def x11(a:List LB)(b:Int):Option R_:=H.e P_ [r,r,r] ⟨[(0, .val (.list (.list (.int .u8))) a),(3,vi b)],[],[]⟩
def x9(a:List LB)(b h:Int):Option R_:=H.e P_ [r,r,l,r,d] (t9 a b h)
theorem e16:x16=Sg:=by kernel_rfl
theorem i14(a:List LB):∀(q:Nat) (g:Int) (f:LB),z14 q (t14 a g f)=Kz a q g f:=
 ind (fun _ _=>by kernel_rfl) fun q ih g f=>Eq.trans (b:=Ti x16 (fun g f=>(z14 q) (t14 a g f)) a g f) (by kernel_rfl) (by simp only[e16,ih]<;>rfl)
theorem e14:x14=Tm:=by funext a g f;exact Eq.trans (by kernel_rfl) ((i14 a Cv g f).trans (by rw[Ar];rfl))
theorem e13:x13=Te:=Eq.trans (b:=Sr x14) (by kernel_rfl) (by simp only[e14]<;>rfl)
theorem e12:x12=Tf:=Eq.trans (b:=Sy x13) (by kernel_rfl) (by simp only[e13]<;>rfl)
theorem e11:x11=Th:=Eq.trans (b:=Tk x12) (by kernel_rfl) (by simp only[e12]<;>rfl)
theorem i9(a:List LB):∀(q:Nat) (b h:Int),z9 q (t9 a b h)=Lt a q b h:=
 ind (fun _ _=>by kernel_rfl) fun q ih b h=>Eq.trans (b:=Ui x11 (fun b h=>(z9 q) (t9 a b h)) a b h) (by kernel_rfl) (by simp only[e11,ih]<;>rfl)
theorem e9:x9=Vb:=by funext a b h;exact Eq.trans (by kernel_rfl) ((i9 a Cv b h).trans (by rw[Ar];rfl))
noncomputable def F:=Jy
theorem rn x:H.u P_ x=F x:=Eq.trans (b:=Uf x9 x) (by kernel_rfl) (by simp only[e9]<;>rfl)
noncomputable def c:Con:=⟨H.p,H.r,F⟩
theorem ok:ConOk P_ gl 188 c:=cr H func188 .nil (AnsOk.cons ent229 AnsOk.nil) rn
end F188
namespace F176
abbrev R_:=(LB×Int)
abbrev K_:=S→Option R_
noncomputable def H:Hd:=⟨[.agg [Si,Si], .lf (.vec 16 (.int .i32)) none,Sw],[Ob 5,Si],(.seq .d (.seq .d (.seq .d (.seq .d (.seq .d (.cut [11] [] (.seq .d (.blk (.loop [3,10,11,30,31,32] [⟨11,[0], .own 5 (.int .u8)⟩] (.seq .d (.seq .d (.cut [3,10,11,30,31,32] [] (.blk (.seq .d (.seq .d (.seq .d (.seq .d (.keep [3,10,11,14,30,31,32,59] true)))))) .d)))))) .d)))))),⟨[(102,F102.c),(157,F157.c),(188,F188.c),(211,F211.c),(212,F212.c),(213,F213.c)],gl,false⟩,[(214,(.seq .d (.seq .d (.blk (.loop [0,3,7,8] [] (.seq .d (.seq .d (.seq (.blk (.seq .d (.cut [0,3,4,7,8] [] .d (.seq .d (.cut [0,3,7,8] [] .d .d))))) .d))))))))],f176⟩
def t44(a:LU)(b f h g:Int)(k:List (Int×Int×UInt64×UInt64×Unit))(m:LB)(o n:Int)(v:LB):S:=⟨[(0, .ptr 0 []),(3, .ptr 1 []),(7,vi h),(8,vi o)],[.box 170 (.agg [.own 7,vi n]), .box 170 (.agg [.own 6,vi h]), .box 60 (.agg [vi b,vi f]), .box 226 (.val (.vec 6 (.cons (.int .i64) (.cons (.int .i64) (.cons (.int .u64) (.cons (.int .u64) .nil))))) k), .box 170 (.agg [.own 6,vi h]),Av 154 a,Ab 5 m,Ab 5 v],[[(3, .ptr 2 []),(10, .ptr 3 []),(11, .ptr 0 []),(14, .ptr 4 []),(30, .own 5),(31,vi (Ac a)),(32,vi g),(59, .agg [.own 6,vi h])]]⟩
def z44(kn27:K_):Nat→S→Option R_:=H.i P_ [r,r,r,r,r,l,r,d,(lp kn27),r,r,l,d,r,r,r,r,(call 1 214),r,r,d]
def t27(a:LU)(b f g:Int)(w:List (Int×Int×UInt64×UInt64×Unit))(u:Int)(p:LB):S:=⟨[(3, .ptr 0 []),(10, .ptr 1 []),(11, .ptr 2 []),(30, .own 3),(31,vi (Ac a)),(32,vi g)],[.box 60 (.agg [vi b,vi f]), .box 226 (.val (.vec 6 (.cons (.int .i64) (.cons (.int .i64) (.cons (.int .u64) (.cons (.int .u64) .nil))))) w), .box 170 (.agg [.own 4,vi u]),Av 154 a,Ab 5 p],[]⟩
def z27:Nat→S→Option R_:=H.i P_ [r,r,r,r,r,l,r,d]
def x52(u:Int)(p:LB):Option R_:=H.e P_ [r,r,r,r,r,r] ⟨[(11, .ptr 0 [])],[.box 170 (.agg [.own 1,vi u]),Ab 5 p],[]⟩
def x50(kn27:K_)(a:LU)(b f g:Int)(k:List (Int×Int×UInt64×UInt64×Unit))(n:Int)(v:LB):Option R_:=H.e P_ [r,r,r,r,r,l,r,d,(lp kn27),r,r,r] ⟨[(3, .ptr 0 []),(10, .ptr 1 []),(11, .ptr 2 []),(30, .own 3),(31,vi (Ac a)),(32,vi g)],[.box 60 (.agg [vi b,vi f]), .box 226 (.val (.vec 6 (.cons (.int .i64) (.cons (.int .i64) (.cons (.int .u64) (.cons (.int .u64) .nil))))) k), .box 170 (.agg [.own 4,vi n]),Av 154 a,Ab 5 v],[]⟩
def x48(kn27 kn44:K_)(h:Int)(a:LU)(g b f:Int)(k:List (Int×Int×UInt64×UInt64×Unit))(m:LB)(o n:Int)(aa:LB):Option R_:=H.e P_ [r,r,r,r,r,l,r,d,(lp kn27),r,r,l,d,r,r,r,r,(call 1 214),r,r,d,(lp kn44),r,r,l,d,r,r,r,r] ⟨[(0, .ptr 0 []),(3, .ptr 1 []),(7,vi h),(8,vi o)],[.box 170 (.agg [.own 7,vi n]), .box 170 (.agg [.own 6,vi h]), .box 60 (.agg [vi b,vi f]), .box 226 (.val (.vec 6 (.cons (.int .i64) (.cons (.int .i64) (.cons (.int .u64) (.cons (.int .u64) .nil))))) k), .box 170 (.agg [.own 6,vi h]),Av 154 a,Ab 5 m,Ab 5 aa],[[(3, .ptr 2 []),(10, .ptr 3 []),(11, .ptr 0 []),(14, .ptr 4 []),(30, .own 5),(31,vi (Ac a)),(32,vi g),(59, .agg [.own 6,vi h])]]⟩
def x47(kn27 kn44:K_)(h:Int)(a:LU)(g b f:Int)(k:List (Int×Int×UInt64×UInt64×Unit))(m:LB)(o n:Int)(y:LB):Option R_:=H.e P_ [r,r,r,r,r,l,r,d,(lp kn27),r,r,l,d,r,r,r,r,(call 1 214),r,r,d,(lp kn44),r,r,l,d,r,r] ⟨[(0, .ptr 0 []),(3, .ptr 1 []),(4,vi o),(7,vi h),(8,vi o)],[.box 170 (.agg [.own 7,vi n]), .box 170 (.agg [.own 6,vi h]), .box 60 (.agg [vi b,vi f]), .box 226 (.val (.vec 6 (.cons (.int .i64) (.cons (.int .i64) (.cons (.int .u64) (.cons (.int .u64) .nil))))) k), .box 170 (.agg [.own 6,vi h]),Av 154 a,Ab 5 m,Ab 5 y],[[(3, .ptr 2 []),(10, .ptr 3 []),(11, .ptr 0 []),(14, .ptr 4 []),(30, .own 5),(31,vi (Ac a)),(32,vi g),(59, .agg [.own 6,vi h])]]⟩
def x44(kn27:K_)(a:LU)(b f h g:Int)(k:List (Int×Int×UInt64×UInt64×Unit))(m:LB)(o n:Int)(v:LB):Option R_:=H.e P_ [r,r,r,r,r,l,r,d,(lp kn27),r,r,l,d,r,r,r,r,(call 1 214),r,r,d] (t44 a b f h g k m o n v)
def x27(a:LU)(b f g:Int)(w:List (Int×Int×UInt64×UInt64×Unit))(u:Int)(p:LB):Option R_:=H.e P_ [r,r,r,r,r,l,r,d] (t27 a b f g w u p)
theorem e52:x52=Akn:=by kernel_rfl
theorem e50(kn27:K_)(a:LU)(b f:Int):x50 kn27 a b f=Ajm (fun g w u p=>kn27 (t27 a b f g w u p)) a b f:=by kernel_rfl
theorem e48(kn27 kn44:K_)(a:LU)(b f h g:Int)(k:List (Int×Int×UInt64×UInt64×Unit))(m:LB):x48 kn27 kn44 h a g b f k m=Alf (fun o n v=>kn44 (t44 a b f h g k m o n v)) h a g b f k m:=by kernel_rfl
theorem e47(kn27 kn44:K_)(a:LU)(b f h g:Int)(k:List (Int×Int×UInt64×UInt64×Unit))(m:LB):x47 kn27 kn44 h a g b f k m=Aj9 (fun o n v=>kn44 (t44 a b f h g k m o n v)) h a g b f k m:=Eq.trans (b:=Akd (x48 kn27 kn44 h a g b f k m) h a g b f k m) (by kernel_rfl) (by simp only[e48]<;>rfl)
theorem i44(kn27:K_)(a:LU)(b f h g:Int)(k:List (Int×Int×UInt64×UInt64×Unit))(m:LB):∀(q:Nat) (o n:Int) (v:LB),z44 kn27 q (t44 a b f h g k m o n v)=Yu (fun g w u p=>kn27 (t27 a b f g w u p)) a b f h g k m q o n v:=
 ind (fun _ _ _=>by kernel_rfl) fun q ih o n v=>Eq.trans (b:=Ale (x47 kn27 (z44 kn27 q) h a g b f k m) (x50 kn27 a b f) a b f h g k m o n v) (by kernel_rfl) (by simp only[e47,e50,ih]<;>rfl)
theorem e44(kn27:K_)(a:LU)(b f:Int):x44 kn27 a b f=Ala (fun g w u p=>kn27 (t27 a b f g w u p)) a b f:=by funext h g k m o n v;exact Eq.trans (by kernel_rfl) ((i44 kn27 a b f h g k m Cv o n v).trans (by rw[Ar];rfl))
theorem i27(a:LU)(b f:Int):∀(q:Nat) (g:Int) (w:List (Int×Int×UInt64×UInt64×Unit)) (u:Int) (p:LB),z27 q (t27 a b f g w u p)=Za a b f q g w u p:=
 ind (fun _ _ _ _=>by kernel_rfl) fun q ih g w u p=>Eq.trans (b:=Akp (x44 (z27 q) a b f) x52 a b f g w u p) (by kernel_rfl) (by simp only[e44,e52,ih]<;>rfl)
theorem e27:x27=Alj:=by funext a b f g w u p;exact Eq.trans (by kernel_rfl) ((i27 a b f Cv g w u p).trans (by rw[Ar];rfl))
noncomputable def F:=u4 Aks
theorem rn x:H.u P_ x=F x:=Eq.trans (b:=u4 (Am5 x27) x) (by kernel_rfl) (by simp only[e27]<;>rfl)
noncomputable def c:Con:=⟨H.p,H.r,F⟩
theorem ok:ConOk P_ gl 176 c:=cr H func176 (.cons F102.ok (.cons F157.ok (.cons F188.ok (.cons F211.ok (.cons F212.ok (.cons F213.ok .nil)))))) (AnsOk.cons ent214 AnsOk.nil) rn
end F176
namespace F146
noncomputable def H:Hd:=⟨[.agg [.agg [Si,Si],Si,Ss,Sb,Sw, .lf (.list (.list (.int .u8))) none,Sb,Sz,Si],Si],[.agg [.agg [Si,Si],Si,Ss,Ob 5,Ow 21, .lf (.list (.list (.int .u8))) (some 22),Ob 5,Sz,Si],Si], .d,⟨[],gl,false⟩,[],f146⟩
noncomputable def F:=u11 Aa1
theorem rn x:H.u P_ x=F x:=by kernel_rfl
noncomputable def c:Con:=⟨H.p,H.r,F⟩
theorem ok:ConOk P_ gl 146 c:=co H func146 .nil rn
end F146
namespace F95
abbrev R_:=(Int×Int×Int×LB×LB×LX×(List LB)×LB×Bool×Int×Int)
abbrev K_:=S→Option R_
noncomputable def H:Hd:=⟨[.agg [.agg [Si,Si],Si,Ss,Sb,Sw, .lf (.list (.list (.int .u8))) none,Sb,Sz,Si],Sb],[.agg [.agg [Si,Si],Si,Ss,Ob 5,Ow 21, .lf (.list (.list (.int .u8))) (some 22),Ob 5,Sz,Si],Si],(.seq .d (.seq .d (.seq .d (.seq .d (.seq .d (.cut [2,4] [] (.seq .d (.blk (.loop [2,4,8,9,27,28,29] [] (.seq .d (.seq .d (.cut [2,4,8,9,27,28,29] [] (.blk (.seq .d (.seq .d (.seq .d (.cut [2,4,8,9,12,27,28,29] [⟨2,[3], .own 5 (.int .u8)⟩,⟨2,[4], .own 21 (.int .i32)⟩,⟨9,[0,3], .own 5 (.int .u8)⟩,⟨9,[0,4], .own 21 (.int .i32)⟩] (.keep [2,4,8,9,12,27,28,29,45] true) .d))))) .d)))))) .d)))))),⟨[(65,F65.c),(121,F121.c),(140,F140.c),(141,F141.c),(143,F143.c),(144,F144.c),(146,F146.c),(176,F176.c)],gl,false⟩,[(142,(.seq .d (.cut [0,1] [] .d (.seq .d (.seq .d (.seq .d (.seq .d (.cut [2] [] (.keep [2,43] true) .d)))))))),(145, .d)],f95⟩
def t14(p:Int)(n:LB)(a b g:Int)(f:LB)(h:Bool)(k o:Int)(m:LB)(u:Int)(y:LB)(w:LX)(v:List LB):S:=⟨[(2, .ptr 0 []),(4, .ptr 1 []),(8,vi p),(9, .fn 142 [.ptr 0 [], .ptr 2 []]),(27,vb n),(28,vi (Ac n)),(29,vi u)],[.box 141 (.agg [.agg [vi a,vi b],vi g,vs f, .own 3, .own 4, .own 5, .own 6,vt h,vi k]), .box 141 (.agg [.agg [vi 0,vi 0],vi 0,vs ([]:LB), .nils, .nils, .nils, .nils,vt false,vi 0]), .box 3 (vi o),Ab 5 y,Aw 21 w, .arr 22 (.list (.int .u8)) v,Ab 5 m],[]⟩
def z14:Nat→S→Option R_:=H.i P_ [r,r,r,r,r,l,r,d]
def x26(a b g:Int)(f:LB)(h:Bool)(k:Int)(y:LB)(w:LX)(v:List LB)(m:LB):Option R_:=H.e P_ [r,r,r,r,r,r] ⟨[(2, .ptr 0 []),(4, .ptr 1 [])],[.box 141 (.agg [.agg [vi a,vi b],vi g,vs f, .own 2, .own 3, .own 4, .own 5,vt h,vi k]), .box 141 (.agg [.agg [vi 0,vi 0],vi 0,vs ([]:LB), .nils, .nils, .nils, .nils,vt false,vi 0]),Ab 5 y,Aw 21 w, .arr 22 (.list (.int .u8)) v,Ab 5 m],[]⟩
def x24(kn14:K_)(p:Int)(n:LB)(a b g:Int)(f:LB)(h:Bool)(k o:Int)(m:LB)(u:Int)(ah:LB)(ai:LX)(aj:List LB):Option R_:=H.e P_ [r,r,r,r,r,l,r,d,(lp kn14),r,r,r] ⟨[(2, .ptr 0 []),(4, .ptr 1 []),(8,vi p),(9, .fn 142 [.ptr 0 [], .ptr 2 []]),(27,vb n),(28,vi (Ac n)),(29,vi u)],[.box 141 (.agg [.agg [vi a,vi b],vi g,vs f, .own 3, .own 4, .own 5, .own 6,vt h,vi k]), .box 141 (.agg [.agg [vi 0,vi 0],vi 0,vs ([]:LB), .nils, .nils, .nils, .nils,vt false,vi 0]), .box 3 (vi o),Ab 5 ah,Aw 21 ai, .arr 22 (.list (.int .u8)) aj,Ab 5 m],[]⟩
def x23(kn14:K_)(p:Int)(n:LB)(a b g:Int)(f:LB)(h:Bool)(k o:Int)(m:LB)(u ad:Int)(ae:LB)(af:LX)(ag:List LB):Option R_:=H.e P_ [r,r,r,r,r,l,r,d,(lp kn14),r,r,l,d,r,r,r,r] ⟨[(2, .ptr 0 []),(4, .ptr 1 []),(8,vi p),(9, .fn 142 [.ptr 0 [], .ptr 2 []]),(12,vi ad),(27,vb n),(28,vi (Ac n)),(29,vi u)],[.box 141 (.agg [.agg [vi a,vi b],vi g,vs f, .own 3, .own 4, .own 5, .own 6,vt h,vi k]), .box 141 (.agg [.agg [vi 0,vi 0],vi 0,vs ([]:LB), .nils, .nils, .nils, .nils,vt false,vi 0]), .box 3 (vi o),Ab 5 ae,Aw 21 af, .arr 22 (.list (.int .u8)) ag,Ab 5 m],[]⟩
def x21(kn14:K_)(p:Int)(n:LB)(a b g:Int)(f:LB)(h:Bool)(k o:Int)(m:LB)(u:Int)(ab:LX)(v:List LB)(ak:Int):Option R_:=H.e P_ [r,r,r,r,r,l,r,d,(lp kn14),r,r,l,d,r,r,r,l,(call 1 142),r,r,r,r,r,r,r] ⟨[(2,vi ak)],[.box 141 (.agg [.agg [vi a,vi b],vi g,vs f, .nils, .own 3, .own 4, .own 5,vt h,vi k]), .box 141 (.agg [.agg [vi 0,vi 0],vi 0,vs ([]:LB), .nils, .nils, .nils, .nils,vt false,vi 0]), .box 3 (vi o),Aw 21 ab, .arr 22 (.list (.int .u8)) v,Ab 5 m],[[(2, .ptr 0 []),(4, .ptr 1 []),(8,vi p),(9, .fn 142 [.ptr 0 [], .ptr 2 []]),(27,vb n),(28,vi (Ac n)),(29,vi u)]]⟩
def x22(kn14:K_)(p:Int)(n:LB)(a b g:Int)(f:LB)(h:Bool)(k o:Int)(m:LB)(u:Int)(ac:List LB):Option R_:=H.e P_ [r,r,r,r,r,l,r,d,(lp kn14),r,r,l,d,r,r,r,l,(call 1 142),r,r,r,r,r,r,r] ⟨[(2,vi 0)],[.box 141 (.agg [.agg [vi a,vi b],vi g,vs f, .nils, .nils, .own 3, .own 4,vt h,vi k]), .box 141 (.agg [.agg [vi 0,vi 0],vi 0,vs ([]:LB), .nils, .nils, .nils, .nils,vt false,vi 0]), .box 3 (vi o), .arr 22 (.list (.int .u8)) ac,Ab 5 m],[[(2, .ptr 0 []),(4, .ptr 1 []),(8,vi p),(9, .fn 142 [.ptr 0 [], .ptr 2 []]),(27,vb n),(28,vi (Ac n)),(29,vi u)]]⟩
def x20(kn14:K_)(p:Int)(n:LB)(a b g:Int)(f:LB)(h:Bool)(k o:Int)(m:LB)(u:Int)(aa:LB)(w:LX)(v:List LB):Option R_:=H.e P_ [r,r,r,r,r,l,r,d,(lp kn14),r,r,l,d,r,r,r,l,(call 1 142),r,r] ⟨[(0, .ptr 0 []),(1, .ptr 1 [])],[.box 141 (.agg [.agg [vi a,vi b],vi g,vs f, .own 3, .own 4, .own 5, .own 6,vt h,vi k]), .box 3 (vi o), .box 141 (.agg [.agg [vi 0,vi 0],vi 0,vs ([]:LB), .nils, .nils, .nils, .nils,vt false,vi 0]),Ab 5 aa,Aw 21 w, .arr 22 (.list (.int .u8)) v,Ab 5 m],[[(2, .ptr 0 []),(4, .ptr 2 []),(8,vi p),(9, .fn 142 [.ptr 0 [], .ptr 1 []]),(27,vb n),(28,vi (Ac n)),(29,vi u)]]⟩
def x14(p:Int)(n:LB)(a b g:Int)(f:LB)(h:Bool)(k o:Int)(m:LB)(u:Int)(y:LB)(w:LX)(v:List LB):Option R_:=H.e P_ [r,r,r,r,r,l,r,d] (t14 p n a b g f h k o m u y w v)
theorem e26:x26=Apn:=by kernel_rfl
theorem e24(kn14:K_)(p:Int)(n:LB)(a b g:Int)(f:LB)(h:Bool)(k o:Int)(m:LB):x24 kn14 p n a b g f h k o m=Ae1 (fun u y w v=>kn14 (t14 p n a b g f h k o m u y w v)) p n a b g f h k o m:=by kernel_rfl
theorem e23(kn14:K_)(p:Int)(n:LB)(a b g:Int)(f:LB)(h:Bool)(k o:Int)(m:LB):x23 kn14 p n a b g f h k o m=Pd (fun u y w v=>kn14 (t14 p n a b g f h k o m u y w v)) p n a b g f h k o m:=Eq.trans (b:=Ao5 (x24 kn14 p n a b g f h k o m) p n a b g f h k o m) (by kernel_rfl) (by simp only[e24]<;>rfl)
theorem e21(kn14:K_)(p:Int)(n:LB)(a b g:Int)(f:LB)(h:Bool)(k o:Int)(m:LB):x21 kn14 p n a b g f h k o m=Apz (fun u y w v=>kn14 (t14 p n a b g f h k o m u y w v)) p n a b g f h k o m:=Eq.trans (b:=Aoo (x23 kn14 p n a b g f h k o m) p n a b g f h k o m) (by kernel_rfl) (by simp only[e23]<;>rfl)
theorem e22(kn14:K_)(p:Int)(n:LB)(a b g:Int)(f:LB)(h:Bool)(k o:Int)(m:LB):x22 kn14 p n a b g f h k o m=Aop (fun u y w v=>kn14 (t14 p n a b g f h k o m u y w v)) p n a b g f h k o m:=Eq.trans (b:=Aog (x23 kn14 p n a b g f h k o m) p n a b g f h k o m) (by kernel_rfl) (by simp only[e23]<;>rfl)
theorem e20(kn14:K_)(p:Int)(n:LB)(a b g:Int)(f:LB)(h:Bool)(k o:Int)(m:LB):x20 kn14 p n a b g f h k o m=Apo (fun u y w v=>kn14 (t14 p n a b g f h k o m u y w v)) p n a b g f h k o m:=Eq.trans (b:=Aon (x23 kn14 p n a b g f h k o m) (x21 kn14 p n a b g f h k o m) (x22 kn14 p n a b g f h k o m) p n a b g f h k o m) (by kernel_rfl) (by simp only[e23,e21,e22]<;>rfl)
theorem i14(p:Int)(n:LB)(a b g:Int)(f:LB)(h:Bool)(k o:Int)(m:LB):∀(q:Nat) (u:Int) (y:LB) (w:LX) (v:List LB),z14 q (t14 p n a b g f h k o m u y w v)=Pg p n a b g f h k o m q u y w v:=
 ind (fun _ _ _ _=>by kernel_rfl) fun q ih u y w v=>Eq.trans (b:=Apg (x24 (z14 q) p n a b g f h k o m) (x23 (z14 q) p n a b g f h k o m) (x20 (z14 q) p n a b g f h k o m) x26 p n a b g f h k o m u y w v) (by kernel_rfl) (by simp only[e24,e23,e20,e26,ih]<;>rfl)
theorem e14:x14=Aoz:=by funext p n a b g f h k o m u y w v;exact Eq.trans (by kernel_rfl) ((i14 p n a b g f h k o m Cv u y w v).trans (by rw[Ar];rfl))
noncomputable def F:=u11 Azr
theorem rn x:H.u P_ x=F x:=Eq.trans (b:=u11 (Asq x14) x) (by kernel_rfl) (by simp only[e14]<;>rfl)
noncomputable def c:Con:=⟨H.p,H.r,F⟩
theorem ok:ConOk P_ gl 95 c:=cr H func95 (.cons F65.ok (.cons F121.ok (.cons F140.ok (.cons F141.ok (.cons F143.ok (.cons F144.ok (.cons F146.ok (.cons F176.ok .nil)))))))) (AnsOk.cons ent142 (AnsOk.cons ent145 AnsOk.nil)) rn
end F95
namespace F187
noncomputable def H:Hd:=⟨[Ss],[Si,Si], .d,⟨[],gl,false⟩,[],f187⟩
noncomputable def F:=Ax7
theorem rn x:H.u P_ x=F x:=by kernel_rfl
noncomputable def c:Con:=⟨H.p,H.r,F⟩
theorem ok:ConOk P_ gl 187 c:=co H func187 .nil rn
end F187
namespace F103
abbrev R_:=Bool
noncomputable def H:Hd:=⟨[.agg [Si,Si,Si,Si,Si]],[Sz],(.seq .d (.cut [1] [] .d .d)),⟨[],gl,false⟩,[],f103⟩
def x2(b f a g h:Int):Option R_:=H.e P_ [r,r] ⟨[(1, .ptr 0 [])],[.box 27 (.agg [vi b,vi f,vi a,vi g,vi h])],[]⟩
theorem e2:x2=Li:=by kernel_rfl
noncomputable def F:=u5 Nv
theorem rn x:H.u P_ x=F x:=Eq.trans (b:=u5 (Vl x2) x) (by kernel_rfl) (by simp only[e2]<;>rfl)
noncomputable def c:Con:=⟨H.p,H.r,F⟩
theorem ok:ConOk P_ gl 103 c:=co H func103 .nil rn
end F103
namespace F69
noncomputable def H:Hd:=⟨[Si,Si],[Si,Si], .d,⟨[(70,F70.c)],gl,false⟩,[],f69⟩
noncomputable def F:=u2 Xh
theorem rn x:H.u P_ x=F x:=by kernel_rfl
noncomputable def c:Con:=⟨H.p,H.r,F⟩
theorem ok:ConOk P_ gl 69 c:=co H func69 (.cons F70.ok .nil) rn
end F69
namespace F104
noncomputable def H:Hd:=⟨[.agg [Si,Si,Si,Si,Si]],[Sz], .d,⟨[(69,F69.c)],gl,false⟩,[],f104⟩
noncomputable def F:=u5 Afy
theorem rn x:H.u P_ x=F x:=by kernel_rfl
noncomputable def c:Con:=⟨H.p,H.r,F⟩
theorem ok:ConOk P_ gl 104 c:=co H func104 (.cons F69.ok .nil) rn
end F104
namespace F106
noncomputable def H:Hd:=⟨[.agg [Si,Si,Si,Si,Si]],[Si], .d,⟨[(103,F103.c),(104,F104.c)],gl,false⟩,[],f106⟩
noncomputable def F:=u5 Qr
theorem rn x:H.u P_ x=F x:=by kernel_rfl
noncomputable def c:Con:=⟨H.p,H.r,F⟩
theorem ok:ConOk P_ gl 106 c:=co H func106 (.cons F103.ok (.cons F104.ok .nil)) rn
end F106
namespace F125
abbrev R_:=(LB×Int)
noncomputable def H:Hd:=⟨[.agg [Si,Si,Si,Si,Si]],[Ob 5,Si],(.seq .d (.seq .d (.seq .d (.cut [5] [] (.seq .d (.blk (.loop [5,31,32] [] .d))) .d)))),⟨[(102,F102.c),(106,F106.c),(157,F157.c)],gl,false⟩,[],f125⟩
def t4(b f g h k m:Int)(a:LB):S:=⟨[(5, .own 0),(31, .val (.vec 5 (.int .i64)) ([b,f,g,h,k]:LI)),(32,vi m)],[Ab 5 a],[]⟩
def z4:Nat→S→Option R_:=H.i P_ [r,r,r,l,r,d]
def x6(a:LB):Option R_:=H.e P_ [r,r,r,r] ⟨[(5, .own 0)],[Ab 5 a],[]⟩
def x4(b f g h k m:Int)(a:LB):Option R_:=H.e P_ [r,r,r,l,r,d] (t4 b f g h k m a)
theorem e6:x6=As5:=by kernel_rfl
theorem i4(b f g h k:Int):∀(q:Nat) (m:Int) (a:LB),z4 q (t4 b f g h k m a)=Ag5 b f g h k q m a:=
 ind (fun _ _=>by kernel_rfl) fun q ih m a=>Eq.trans (b:=Asg x6 (fun m a=>(z4 q) (t4 b f g h k m a)) b f g h k m a) (by kernel_rfl) (by simp only[e6,ih]<;>rfl)
theorem e4:x4=Asc:=by funext b f g h k m a;exact Eq.trans (by kernel_rfl) ((i4 b f g h k Cv m a).trans (by rw[Ar];rfl))
noncomputable def F:=u5 Ba2
theorem rn x:H.u P_ x=F x:=Eq.trans (b:=u5 (Ar6 x4) x) (by kernel_rfl) (by simp only[e4]<;>rfl)
noncomputable def c:Con:=⟨H.p,H.r,F⟩
theorem ok:ConOk P_ gl 125 c:=co H func125 (.cons F102.ok (.cons F106.ok (.cons F157.ok .nil))) rn
end F125
namespace F156
noncomputable def H:Hd:=⟨[Ss],[Sq,Si], .d,⟨[(112,F112.c)],gl,false⟩,[],f156⟩
noncomputable def F:=Bcn
theorem rn x:H.u P_ x=F x:=by kernel_rfl
noncomputable def c:Con:=⟨H.p,H.r,F⟩
theorem ok:ConOk P_ gl 156 c:=co H func156 (.cons F112.ok .nil) rn
end F156
namespace F105
noncomputable def H:Hd:=⟨[Ss],[Ob 5,Si], .d,⟨[(156,F156.c),(157,F157.c)],gl,false⟩,[],f105⟩
noncomputable def F:=Ac2
theorem rn x:H.u P_ x=F x:=by kernel_rfl
noncomputable def c:Con:=⟨H.p,H.r,F⟩
theorem ok:ConOk P_ gl 105 c:=co H func105 (.cons F156.ok (.cons F157.ok .nil)) rn
end F105
namespace F85
abbrev R_:=Int
noncomputable def H:Hd:=⟨[Sl],[Si],(.seq .d (.seq .d (.seq .d (.cut [] [] (.seq .d (.blk (.loop [3,14,15,16] [] .d))) .d)))),⟨[],gl,false⟩,[],f85⟩
def t4(a:LI)(f b:Int):S:=⟨[(3,vi f),(14,vl a),(15,vi (Ac a)),(16,vi b)],[],[]⟩
def z4:Nat→S→Option R_:=H.i P_ [r,r,r,l,r,d]
def x6:Option R_:=H.e P_ [r,r,r,r] ⟨[],[],[]⟩
def x4(a:LI)(f b:Int):Option R_:=H.e P_ [r,r,r,l,r,d] (t4 a f b)
theorem e6:x6=Avp:=by kernel_rfl
theorem i4(a:LI):∀(q:Nat) (f b:Int),z4 q (t4 a f b)=Pp a q f b:=
 ind (fun _ _=>by kernel_rfl) fun q ih f b=>Eq.trans (b:=Abx x6 (fun f b=>(z4 q) (t4 a f b)) a f b) (by kernel_rfl) (by simp only[e6,ih]<;>rfl)
theorem e4:x4=Alk:=by funext a f b;exact Eq.trans (by kernel_rfl) ((i4 a Cv f b).trans (by rw[Ar];rfl))
noncomputable def F:=Nk
theorem rn x:H.u P_ x=F x:=Eq.trans (b:=Acm x4 x) (by kernel_rfl) (by simp only[e4]<;>rfl)
noncomputable def c:Con:=⟨H.p,H.r,F⟩
theorem ok:ConOk P_ gl 85 c:=co H func85 .nil rn
end F85
namespace F126
abbrev R_:=(LB×Int)
abbrev K_:=S→Option R_
noncomputable def H:Hd:=⟨[Sl],[Ob 5,Si],(.seq .d (.seq .d (.seq .d (.seq .d (.cut [5,6] [] (.seq .d (.blk (.loop [5,6,17,18,19] [⟨5,[], .own 5 (.int .u8)⟩,⟨6,[0], .own 5 (.int .u8)⟩] (.seq .d (.seq .d (.cut [5,6,17,18,19] [] (.blk (.seq .d (.keep [5,6,8,17,18,19,23,24,25] true))) .d)))))) (.seq .d (.cut [5] [] (.keep [5,6,9,33,34,35] true) .d))))))),⟨[(85,F85.c),(102,F102.c),(157,F157.c)],gl,false⟩,[(178, .d)],f126⟩
def t8(a:LI)(f:Int)(b:LB):S:=⟨[(5, .ptr 0 []),(6, .fn 178 [.ptr 0 []]),(17,vl a),(18,vi (Ac a)),(19,vi f)],[.box 22 (.own 1),Ab 5 b],[]⟩
def z8:Nat→S→Option R_:=H.i P_ [r,r,r,r,l,r,d]
def x14(g:LB):Option R_:=H.e P_ [r,r,r,r,r,r,r] ⟨[(5, .ptr 0 [])],[.box 22 (.own 1),Ab 5 g],[]⟩
def x13(b:LB):Option R_:=H.e P_ [r,r,r,r,r] ⟨[(5, .ptr 0 []),(6, .fn 178 [.ptr 0 []])],[.box 22 (.own 1),Ab 5 b],[]⟩
def x11(kn8:K_)(a:LI)(f:Int)(h:LB):Option R_:=H.e P_ [r,r,r,r,l,r,d,(lp kn8),r,r,r] ⟨[(5, .ptr 0 []),(6, .fn 178 [.ptr 0 []]),(17,vl a),(18,vi (Ac a)),(19,vi f)],[.box 22 (.own 1),Ab 5 h],[]⟩
def x8(a:LI)(f:Int)(b:LB):Option R_:=H.e P_ [r,r,r,r,l,r,d] (t8 a f b)
theorem e14:x14=Ar8:=by kernel_rfl
theorem e13:x13=Asm:=Eq.trans (b:=Asf x14) (by kernel_rfl) (by simp only[e14]<;>rfl)
theorem e11(kn8:K_)(a:LI):x11 kn8 a=Asr (fun f b=>kn8 (t8 a f b)) a:=by kernel_rfl
theorem i8(a:LI):∀(q:Nat) (f:Int) (b:LB),z8 q (t8 a f b)=Ajo a q f b:=
 ind (fun _ _=>by kernel_rfl) fun q ih f b=>Eq.trans (b:=Auk (x11 (z8 q) a) x13 a f b) (by kernel_rfl) (by simp only[e11,e13,ih]<;>rfl)
theorem e8:x8=Aum:=by funext a f b;exact Eq.trans (by kernel_rfl) ((i8 a Cv f b).trans (by rw[Ar];rfl))
noncomputable def F:=Av1
theorem rn x:H.u P_ x=F x:=Eq.trans (b:=Au4 x8 x) (by kernel_rfl) (by simp only[e8]<;>rfl)
noncomputable def c:Con:=⟨H.p,H.r,F⟩
theorem ok:ConOk P_ gl 126 c:=cr H func126 (.cons F85.ok (.cons F102.ok (.cons F157.ok .nil))) (AnsOk.cons ent178 AnsOk.nil) rn
end F126
namespace F147
def Ad4(f g h:Int)(b k:LB)(m:LX)(a:List LB)(n:LB)(o:Bool)(p:Int)(u:LB)(v:LI):Option (LB×Int):=
(Av1 v).bind fun(aa,y)=>
if(Ay y 0)then
some (([]:LB),y)
else
(fun ao:Option (LB×Int)=>
bo (
ao)) (
(Cw u aa).bind fun ab=>
(Jy a).bind fun ac=>
(Cw ab ac).bind fun ad=>
some (ad,0))
theorem Aw6: @Ad4= @Ahm:=by
  unfold Ad4 Ahm
  simp only[Ass,Ah0,Ag3]
abbrev R_:=(LB×Int)
noncomputable def H:Hd:=⟨[.agg [.agg [Si,Si],Si,Ss,Sb,Sw, .lf (.list (.list (.int .u8))) none,Sb,Sz,Si],Si],[Ob 5,Si],(.seq .d (.seq .d (.seq .d (.seq .d (.seq .d (.cut [2,8] [] .d (.seq .d (.cut [2,8,11] [] (.seq .d (.blk (.loop [2,8,11,58,59,60] [⟨11,[], .own 3 (.int .i64)⟩] .d))) (.seq .d (.seq .d (.seq (.mode false) .d))))))))))),⟨[(105,F105.c),(125,F125.c),(126,F126.c),(187,F187.c),(188,F188.c)],gl,false⟩,[],f147⟩
def t6(a:List LB)(f g h:Int)(b k:LB)(m:LX)(n:LB)(o:Bool)(p:Int)(u:LB)(w:Int)(v:LI):S:=⟨[(2, .ptr 0 []),(8, .own 1),(11, .own 2),(58, .val (.list (.list (.int .u8))) a),(59,vi (Ac a)),(60,vi w)],[.box 141 (.agg [.agg [vi f,vi g],vi h,vs b,vb k,vw m, .val (.list (.list (.int .u8))) a,vb n,vt o,vi p]),Ab 5 u,Ai 3 v],[]⟩
def z6:Nat→S→Option R_:=H.i P_ [r,r,r,r,r,r,r,l,r,d]
def x8(f g h:Int)(b k:LB)(m:LX)(a:List LB)(n:LB)(o:Bool)(p:Int)(u:LB)(v:LI):Option R_:=H.e P_ [r,r,r,r,r,r,r,r] ⟨[(2, .ptr 0 []),(8, .own 1),(11, .own 2)],[.box 141 (.agg [.agg [vi f,vi g],vi h,vs b,vb k,vw m, .val (.list (.list (.int .u8))) a,vb n,vt o,vi p]),Ab 5 u,Ai 3 v],[]⟩
def x6(a:List LB)(f g h:Int)(b k:LB)(m:LX)(n:LB)(o:Bool)(p:Int)(u:LB)(w:Int)(v:LI):Option R_:=H.e P_ [r,r,r,r,r,r,r,l,r,d] (t6 a f g h b k m n o p u w v)
def x5(f g h:Int)(b k:LB)(m:LX)(a:List LB)(n:LB)(o:Bool)(p:Int)(u:LB):Option R_:=H.e P_ [r,r,r,r,r,r] ⟨[(2, .ptr 0 []),(8, .own 1)],[.box 141 (.agg [.agg [vi f,vi g],vi h,vs b,vb k,vw m, .val (.list (.list (.int .u8))) a,vb n,vt o,vi p]),Ab 5 u],[]⟩
theorem e8:x8=As7:=Eq.trans (b:=Ad4) (by kernel_rfl) (by rw[Aw6];rfl)
theorem i6(a:List LB)(f g h:Int)(b k:LB)(m:LX)(n:LB)(o:Bool)(p:Int)(u:LB):∀(q:Nat) (w:Int) (v:LI),z6 q (t6 a f g h b k m n o p u w v)=Ahf a f g h b k m n o p u q w v:=
 ind (fun _ _=>by kernel_rfl) fun q ih w v=>Eq.trans (b:=Asp x8 (fun w v=>(z6 q) (t6 a f g h b k m n o p u w v)) a f g h b k m n o p u w v) (by kernel_rfl) (by simp only[e8,ih]<;>rfl)
theorem e6:x6=Asd:=by funext a f g h b k m n o p u w v;exact Eq.trans (by kernel_rfl) ((i6 a f g h b k m n o p u Cv w v).trans (by rw[Ar];rfl))
theorem e5:x5=Ash:=Eq.trans (b:=Asu x6) (by kernel_rfl) (by simp only[e6]<;>rfl)
noncomputable def F:=u11 Az8
theorem rn x:H.u P_ x=F x:=Eq.trans (b:=u11 (Asy x5) x) (by kernel_rfl) (by simp only[e5]<;>rfl)
noncomputable def c:Con:=⟨H.p,H.r,F⟩
theorem ok:ConOk P_ gl 147 c:=co H func147 (.cons F105.ok (.cons F125.ok (.cons F126.ok (.cons F187.ok (.cons F188.ok .nil))))) rn
end F147
namespace F96
abbrev R_:=(Int×Int×Int×LB×LB×LX×(List LB)×LB×Bool×Int×Int)
noncomputable def H:Hd:=⟨[.agg [.agg [Si,Si],Si,Ss,Sb,Sw, .lf (.list (.list (.int .u8))) none,Sb,Sz,Si]],[.agg [.agg [Si,Si],Si,Ss,Ob 5,Ow 21, .lf (.list (.list (.int .u8))) (some 22),Ob 5,Sz,Si],Si],(.seq .d (.seq .d (.seq .d (.seq .d (.seq .d (.cut [1,2,6] [] (.seq .d (.cond (.cut [1,2,6,7] [⟨1,[4], .own 21 (.int .i32)⟩] (.keep [1,2,6,7,38] true) .d) .d)) .d)))))),⟨[(65,F65.c),(140,F140.c),(144,F144.c),(146,F146.c),(147,F147.c),(176,F176.c)],gl,false⟩,[(145, .d)],f96⟩
def x4(o a b g:Int)(f:LB)(k:Bool)(m:Int)(h n:LB)(v:LX)(w:List LB):Option R_:=H.e P_ [r,r,r,r,r,r] ⟨[(1, .ptr 0 []),(2, .ptr 1 []),(6,vi o)],[.box 141 (.agg [.agg [vi a,vi b],vi g,vs f, .own 2, .own 3, .own 4, .own 5,vt k,vi m]), .box 141 (.agg [.agg [vi 0,vi 0],vi 0,vs ([]:LB), .nils, .nils, .nils, .nils,vt false,vi 0]),Ab 5 h,Aw 21 v, .arr 22 (.list (.int .u8)) w,Ab 5 n],[]⟩
def x3(o a b g:Int)(f:LB)(k:Bool)(m:Int)(h n:LB)(aa:Int)(ab:LX)(ac:List LB):Option R_:=H.e P_ [r,r,r,r,r,l,r,l,r] ⟨[(1, .ptr 0 []),(2, .ptr 1 []),(6,vi o),(7,vi aa)],[.box 141 (.agg [.agg [vi a,vi b],vi g,vs f, .own 2, .own 3, .own 4, .own 5,vt k,vi m]), .box 141 (.agg [.agg [vi 0,vi 0],vi 0,vs ([]:LB), .nils, .nils, .nils, .nils,vt false,vi 0]),Ab 5 h,Aw 21 ab, .arr 22 (.list (.int .u8)) ac,Ab 5 n],[]⟩
theorem e4:x4=Ack:=by kernel_rfl
theorem e3:x3=Al5:=Eq.trans (b:=Am2 x4) (by kernel_rfl) (by simp only[e4]<;>rfl)
noncomputable def F:=u10 Ava
theorem rn x:H.u P_ x=F x:=Eq.trans (b:=u10 (Am0 x3 x4) x) (by kernel_rfl) (by simp only[e3,e4]<;>rfl)
noncomputable def c:Con:=⟨H.p,H.r,F⟩
theorem ok:ConOk P_ gl 96 c:=cr H func96 (.cons F65.ok (.cons F140.ok (.cons F144.ok (.cons F146.ok (.cons F147.ok (.cons F176.ok .nil)))))) (AnsOk.cons ent145 AnsOk.nil) rn
end F96
namespace F97
noncomputable def H:Hd:=⟨[.agg [.agg [Si,Si],Si,Ss,Sb,Sw, .lf (.list (.list (.int .u8))) none,Sb,Sz,Si],Si],[.agg [.agg [Si,Si],Si,Ss,Ob 5,Ow 21, .lf (.list (.list (.int .u8))) (some 22),Sb,Sz,Si],Ob 5,Si], .d,⟨[(148,F148.c),(149,F149.c),(150,F150.c)],gl,false⟩,[],f97⟩
noncomputable def F:=u11 Axx
theorem rn x:H.u P_ x=F x:=by kernel_rfl
noncomputable def c:Con:=⟨H.p,H.r,F⟩
theorem ok:ConOk P_ gl 97 c:=co H func97 (.cons F148.ok (.cons F149.ok (.cons F150.ok .nil))) rn
end F97
namespace F48
abbrev R_:=(LB×Int)
abbrev K_:=S→Option R_
noncomputable def H:Hd:=⟨[.agg [Si,Si],Si,Ss,Sb,Sq],[Ob 5,Si],(.seq .d (.seq .d (.seq .d (.seq .d (.seq .d (.cut [14] [] (.seq .d (.blk (.loop [3,14,39,40,41] [] (.seq .d (.seq .d (.seq (.blk (.seq .d (.seq (.cut [3,13,14,16,39,40,41] [] (.mode false) .d) .d))) .d)))))) .d)))))),⟨[(93,F93.c),(94,F94.c),(95,F95.c),(96,F96.c),(97,F97.c)],gl,false⟩,[],f48⟩
def t6(a:LI)(f:LB)(b g h k:Int)(m:LB)(n:Bool)(o:Int)(p:LB)(u:LX)(v:List LB)(w:LB):S:=⟨[(3,vb f),(14, .ptr 0 []),(39, .own 1),(40,vi (Ac a)),(41,vi b)],[.box 141 (.agg [.agg [vi g,vi h],vi k,vs m, .own 2, .own 3, .own 4, .own 5,vt n,vi o]),Ai 3 a,Ab 5 p,Aw 21 u, .arr 22 (.list (.int .u8)) v,Ab 5 w],[]⟩
def z6:Nat→S→Option R_:=H.i P_ [r,r,r,r,r,l,r,d]
def x10(g h k:Int)(m:LB)(n:Bool)(o:Int)(p:LB)(u:LX)(v:List LB)(w:LB):Option R_:=H.e P_ [r,r,r,r,r,r] ⟨[(14, .ptr 0 [])],[.box 141 (.agg [.agg [vi g,vi h],vi k,vs m, .own 1, .own 2, .own 3, .own 4,vt n,vi o]),Ab 5 p,Aw 21 u, .arr 22 (.list (.int .u8)) v,Ab 5 w],[]⟩
def x8(kn6:K_)(a:LI)(f:LB)(ac ae b y af ag:Int)(ah:LB)(ai:Bool)(ad:Int)(aa:LB)(ab:LX)(aj:List LB)(ak:LB):Option R_:=H.e P_ [r,r,r,r,r,l,r,d,(lp kn6),r,r,l,d,r,l,r] ⟨[(3,vb f),(13,vi ac),(14, .ptr 0 []),(16,vi ae),(39, .own 1),(40,vi (Ac a)),(41,vi b)],[.box 141 (.agg [.agg [vi y,vi af],vi ag,vs ah, .own 2, .own 3, .own 4, .own 5,vt ai,vi ad]),Ai 3 a,Ab 5 aa,Aw 21 ab, .arr 22 (.list (.int .u8)) aj,Ab 5 ak],[]⟩
def x6(a:LI)(f:LB)(b g h k:Int)(m:LB)(n:Bool)(o:Int)(p:LB)(u:LX)(v:List LB)(w:LB):Option R_:=H.e P_ [r,r,r,r,r,l,r,d] (t6 a f b g h k m n o p u v w)
theorem e10:x10=Amo:=by kernel_rfl
theorem e8(kn6:K_)(a:LI):x8 kn6 a=Aom (fun f b g h k m n o p u v w=>kn6 (t6 a f b g h k m n o p u v w)) a:=by kernel_rfl
theorem i6(a:LI):∀(q:Nat) (f:LB) (b g h k:Int) (m:LB) (n:Bool) (o:Int) (p:LB) (u:LX) (v:List LB) (w:LB),z6 q (t6 a f b g h k m n o p u v w)=Aen a q f b g h k m n o p u v w:=
 ind (fun _ _ _ _ _ _ _ _ _ _ _ _=>by kernel_rfl) fun q ih f b g h k m n o p u v w=>Eq.trans (b:=Api (x8 (z6 q) a) x10 a f b g h k m n o p u v w) (by kernel_rfl) (by simp only[e8,e10,ih]<;>rfl)
theorem e6:x6=Aow:=by funext a f b g h k m n o p u v w;exact Eq.trans (by kernel_rfl) ((i6 a Cv f b g h k m n o p u v w).trans (by rw[Ar];rfl))
noncomputable def F:=u6 Axv
theorem rn x:H.u P_ x=F x:=Eq.trans (b:=u6 (Apl x6) x) (by kernel_rfl) (by simp only[e6]<;>rfl)
noncomputable def c:Con:=⟨H.p,H.r,F⟩
theorem ok:ConOk P_ gl 48 c:=co H func48 (.cons F93.ok (.cons F94.ok (.cons F95.ok (.cons F96.ok (.cons F97.ok .nil))))) rn
end F48
namespace F11
noncomputable def H:Hd:=⟨[Ss],[.agg [Ss,Ob 5, .agg [Si,Si,Si,Si,Si],Ol 3,Si,Ob 5,Sz,Si],Si], .d,⟨[],gl,false⟩,[],f11⟩
noncomputable def F:=Aaa
theorem rn x:H.u P_ x=F x:=by kernel_rfl
noncomputable def c:Con:=⟨H.p,H.r,F⟩
theorem ok:ConOk P_ gl 11 c:=co H func11 .nil rn
end F11
namespace F42
def Ahc(a:LB):Option (LB):=
Bgd a (
some ([]:LB)) (
(Cw ([]:LB) a).bind fun b=>
some b)
theorem Ayb: @Ahc= @Jq:=by
  unfold Ahc Jq
  repeat (refine funext fun _=>?_)
  repeat' first
    |with_reducible rfl
    |with_reducible refine Ly ?_ ?_
    |with_reducible refine Lq ?_ ?_ ?_
    |with_reducible refine Ll ?_ ?_ ?_ ?_
    |((with_reducible refine Qv ?_ ?_);focus (intro h;first|(subst h;rfl)|(simp only[h];rfl)|(simp[Cw,Ac,h];done)))
    |with_reducible refine Qj fun x=>?_
    |with_reducible refine Yg (fun _=>?_) (fun _=>?_)
    |(refine Gn (fun h=>by simp only[h,Qc,Ed,Dx,ite_self]) (fun x h=>?_);(try simp only[h,Ed]))
    |(refine Ja (fun h=>?_) (fun h=>?_)<;>simp only[h,if_true,if_false,Bool.false_eq_true])
noncomputable def H:Hd:=⟨[Sb],[Ob 5], .d,⟨[],gl,false⟩,[],f42⟩
noncomputable def F:=Jq
theorem rn x:H.u P_ x=F x:=Eq.trans (b:=Ahc x) (by kernel_rfl) (by rw[Ayb];rfl)
noncomputable def c:Con:=⟨H.p,H.r,F⟩
theorem ok:ConOk P_ gl 42 c:=co H func42 .nil rn
end F42
namespace F83
def Nu(a:LI):Option (LI):=
Bgd a (
some ([]:LI)) (
(Cw ([]:LI) a).bind fun b=>
some b)
theorem Ai9: @Nu= @Fj:=by
  unfold Nu Fj
  repeat (refine funext fun _=>?_)
  repeat' first
    |with_reducible rfl
    |with_reducible refine Ly ?_ ?_
    |with_reducible refine Lq ?_ ?_ ?_
    |with_reducible refine Ll ?_ ?_ ?_ ?_
    |((with_reducible refine Qv ?_ ?_);focus (intro h;first|(subst h;rfl)|(simp only[h];rfl)|(simp[Cw,Ac,h];done)))
    |with_reducible refine Qj fun x=>?_
    |with_reducible refine Yg (fun _=>?_) (fun _=>?_)
    |(refine Gn (fun h=>by simp only[h,Qc,Ed,Dx,ite_self]) (fun x h=>?_);(try simp only[h,Ed]))
    |(refine Ja (fun h=>?_) (fun h=>?_)<;>simp only[h,if_true,if_false,Bool.false_eq_true])
noncomputable def H:Hd:=⟨[Sl],[Ol 3], .d,⟨[],gl,false⟩,[],f83⟩
noncomputable def F:=Fj
theorem rn x:H.u P_ x=F x:=Eq.trans (b:=Nu x) (by kernel_rfl) (by rw[Ai9];rfl)
noncomputable def c:Con:=⟨H.p,H.r,F⟩
theorem ok:ConOk P_ gl 83 c:=co H func83 .nil rn
end F83
namespace F39
noncomputable def H:Hd:=⟨[.agg [Ss,Sb, .agg [Si,Si,Si,Si,Si],Sl,Si,Sb,Sz,Si]],[.agg [Ss,Ob 5, .agg [Si,Si,Si,Si,Si],Ol 3,Si,Ob 5,Sz,Si]], .d,⟨[(42,F42.c),(83,F83.c)],gl,false⟩,[],f39⟩
noncomputable def F:=u12 De
theorem rn x:H.u P_ x=F x:=by kernel_rfl
noncomputable def c:Con:=⟨H.p,H.r,F⟩
theorem ok:ConOk P_ gl 39 c:=co H func39 (.cons F42.ok (.cons F83.ok .nil)) rn
end F39
namespace F235
noncomputable def H:Hd:=⟨[Sq,Sq],[Sq,Sq], .d,⟨[],gl,false⟩,[],f235⟩
noncomputable def F:=u2 Ahl
theorem rn x:H.u P_ x=F x:=by kernel_rfl
noncomputable def c:Con:=⟨H.p,H.r,F⟩
theorem ok:ConOk P_ gl 235 c:=co H func235 .nil rn
end F235
namespace F195
noncomputable def H:Hd:=⟨[Sq,Sq],[Sq,Sq], .d,⟨[(235,F235.c)],gl,false⟩,[],f195⟩
noncomputable def F:=u2 Ae3
theorem rn x:H.u P_ x=F x:=by kernel_rfl
noncomputable def c:Con:=⟨H.p,H.r,F⟩
theorem ok:ConOk P_ gl 195 c:=co H func195 (.cons F235.ok .nil) rn
end F195
namespace F158
def Mr(j10:LI→Option (LI))(bk8:Int→LI→Option (LI))(b:Int)(a:LI):Option (LI):=
if(Bs b (Ac a))then
both (
(vwI (Ac a) b (Ac a)).bind fun _=>
(vwI (Ac a) 0 b).bind fun _=>
bk8 (Ae b (Aki ((Ac a)-b) (Anh a 0 (b-(0:Int))).length)) (Rn a b ((Ac a)-b) (Anh a 0 (b-(0:Int))))) [
(vwI (Ac a) 0 b).bind fun _=>
(vwI (Ac a) b (Ac a)).bind fun _=>
bk8 (Ae b (Aki ((Ac a)-b) (Anh a 0 (b-(0:Int))).length)) (Rn a b ((Ac a)-b) (Anh a 0 (b-(0:Int))))]
else
j10 a
theorem Ag2: @Mr= @Ge:=by
  unfold Mr Ge
  repeat (refine funext fun _=>?_)
  repeat' first
    |with_reducible rfl
    |with_reducible refine Ly ?_ ?_
    |with_reducible refine Lq ?_ ?_ ?_
    |with_reducible refine Ll ?_ ?_ ?_ ?_
    |((with_reducible refine Qv ?_ ?_);focus (intro h;first|(subst h;rfl)|(simp only[h];rfl)|(simp[Cw,Ac,h];done)))
    |with_reducible refine Qj fun x=>?_
    |with_reducible refine Yg (fun _=>?_) (fun _=>?_)
    |(refine Gn (fun h=>by simp only[h,Qc,Ed,Dx,ite_self]) (fun x h=>?_);(try simp only[h,Ed]))
    |(refine Ja (fun h=>?_) (fun h=>?_)<;>simp only[h,if_true,if_false,Bool.false_eq_true])
abbrev R_:=LI
noncomputable def H:Hd:=⟨[Sl,Si],[Ol 3],(.seq .d (.cut [0,1] [] .d (.seq .d (.cut [0,6] [] .d (.seq .d (.seq .d (.cut [7] [] (.blk (.loop [7,8] [] (.seq .d (.blk (.mode false))))) .d))))))),⟨[(195,F195.c)],gl,true⟩,[],f158⟩
def t8(b:Int)(a:LI):S:=⟨[(7, .own 0),(8,vi b)],[Ai 3 a],[]⟩
def z8:Nat→S→Option R_:=H.i P_ [r,r,r,r,r,r,l,d]
def x10(a:LI):Option R_:=H.e P_ [r,r,r,r,r,r,r] ⟨[(7, .own 0)],[Ai 3 a],[]⟩
def x8(b:Int)(a:LI):Option R_:=H.e P_ [r,r,r,r,r,r,l,d] (t8 b a)
def x7(f:LI)(g:UInt64):Option R_:=H.e P_ [r,r,r,r] ⟨[(0,vl f),(6,vq g)],[],[]⟩
def x6(f:LI)(h:Int):Option R_:=H.e P_ [r,r] ⟨[(0,vl f),(1,vi h)],[],[]⟩
theorem e10:x10=Ik:=by kernel_rfl
theorem i8:∀(q:Nat) (b:Int) (a:LI),z8 q (t8 b a)=Eg q b a:=
 ind (fun _ _=>by kernel_rfl) fun q ih b a=>Eq.trans (b:=Mr x10 (fun b a=>(z8 q) (t8 b a)) b a) (by kernel_rfl) (by rw[Ag2];simp only[e10,ih]<;>rfl)
theorem e8:x8=Ny:=by funext b a;exact Eq.trans (by kernel_rfl) ((i8 Cv b a).trans (by rw[Ar];rfl))
theorem e7:x7=Nq:=Eq.trans (b:=Oc x8) (by kernel_rfl) (by simp only[e8]<;>rfl)
theorem e6:x6=Ns:=Eq.trans (b:=Nr x7) (by kernel_rfl) (by simp only[e7]<;>rfl)
noncomputable def F:=u2 Me
theorem rn x:H.u P_ x=F x:=Eq.trans (b:=u2 (Oa x6) x) (by kernel_rfl) (by simp only[e6]<;>rfl)
noncomputable def c:Con:=⟨H.p,H.r,F⟩
theorem ok:ConOk P_ gl 158 c:=co H func158 (.cons F195.ok .nil) rn
end F158
namespace F196
abbrev R_:=LI
noncomputable def H:Hd:=⟨[.lf (.list (.list (.int .i64))) none],[Ol 3],(.seq .d (.seq .d (.cut [0,3] [] (.seq .d (.blk (.loop [0,3,9,10,11] [] .d))) (.cut [0,6] [⟨6,[], .own 3 (.int .i64)⟩] (.keep [0,3,6,23,24] true) (.cut [6] [] (.seq .d (.blk (.loop [6,25,26,27] [] .d))) .d))))),⟨[],gl,true⟩,[(236,(.seq .d (.cut [0,1] [] .d .d)))],f196⟩
def t14(a:List LI)(g:Int)(f:LI):S:=⟨[(6, .own 0),(25, .val (.list (.list (.int .i64))) a),(26,vi (Ac a)),(27,vi g)],[Ai 3 f],[]⟩
def z14:Nat→S→Option R_:=H.i P_ [r,r,r,r,l,r,d]
def t9(a:List LI)(b h:Int):S:=⟨[(0, .val (.list (.list (.int .i64))) a),(3,vi b),(9, .val (.list (.list (.int .i64))) a),(10,vi (Ac a)),(11,vi h)],[],[]⟩
def z9:Nat→S→Option R_:=H.i P_ [r,r,l,r,d]
def x16(f:LI):Option R_:=H.e P_ [r,r,r,r,r] ⟨[(6, .own 0)],[Ai 3 f],[]⟩
def x14(a:List LI)(g:Int)(f:LI):Option R_:=H.e P_ [r,r,r,r,l,r,d] (t14 a g f)
def x13(a:List LI)(k:LI):Option R_:=H.e P_ [r,r,r,r] ⟨[(0, .val (.list (.list (.int .i64))) a),(6, .own 0)],[Ai 3 k],[]⟩
def x12(b:Int)(a:List LI):Option R_:=H.e P_ [r,r,r,l,(call 1 236),r,r] ⟨[(0, .nils),(1,vi b)],[],[[(0, .val (.list (.list (.int .i64))) a),(3,vi b),(23,vi b)]]⟩
def x11(a:List LI)(b:Int):Option R_:=H.e P_ [r,r,r] ⟨[(0, .val (.list (.list (.int .i64))) a),(3,vi b)],[],[]⟩
def x9(a:List LI)(b h:Int):Option R_:=H.e P_ [r,r,l,r,d] (t9 a b h)
theorem e16:x16=Vv:=by kernel_rfl
theorem i14(a:List LI):∀(q:Nat) (g:Int) (f:LI),z14 q (t14 a g f)=Dv a q g f:=
 ind (fun _ _=>by kernel_rfl) fun q ih g f=>Eq.trans (b:=Fu x16 (fun g f=>(z14 q) (t14 a g f)) a g f) (by kernel_rfl) (by simp only[e16,ih]<;>rfl)
theorem e14:x14=Ms:=by funext a g f;exact Eq.trans (by kernel_rfl) ((i14 a Cv g f).trans (by rw[Ar];rfl))
theorem e13:x13=Ii:=Eq.trans (b:=Mn x14) (by kernel_rfl) (by simp only[e14]<;>rfl)
theorem e12:x12=Mp:=Eq.trans (b:=Mt x13) (by kernel_rfl) (by simp only[e13]<;>rfl)
theorem e11:x11=Mu:=Eq.trans (b:=Mo x12) (by kernel_rfl) (by simp only[e12]<;>rfl)
theorem i9(a:List LI):∀(q:Nat) (b h:Int),z9 q (t9 a b h)=Ef a q b h:=
 ind (fun _ _=>by kernel_rfl) fun q ih b h=>Eq.trans (b:=Gg x11 (fun b h=>(z9 q) (t9 a b h)) a b h) (by kernel_rfl) (by simp only[e11,ih]<;>rfl)
theorem e9:x9=Oe:=by funext a b h;exact Eq.trans (by kernel_rfl) ((i9 a Cv b h).trans (by rw[Ar];rfl))
noncomputable def F:=Md
theorem rn x:H.u P_ x=F x:=Eq.trans (b:=Nt x9 x) (by kernel_rfl) (by simp only[e9]<;>rfl)
noncomputable def c:Con:=⟨H.p,H.r,F⟩
theorem ok:ConOk P_ gl 196 c:=cr H func196 .nil (AnsOk.cons ent236 AnsOk.nil) rn
end F196
namespace F159
noncomputable def H:Hd:=⟨[Sl,Sl],[Ol 3], .d,⟨[(196,F196.c)],gl,false⟩,[],f159⟩
noncomputable def F:=u2 Ajn
theorem rn x:H.u P_ x=F x:=by kernel_rfl
noncomputable def c:Con:=⟨H.p,H.r,F⟩
theorem ok:ConOk P_ gl 159 c:=co H func159 (.cons F196.ok .nil) rn
end F159
namespace F107
noncomputable def H:Hd:=⟨[Si,Si],[Ol 3,Si], .d,⟨[(69,F69.c),(70,F70.c),(158,F158.c),(159,F159.c)],gl,false⟩,[],f107⟩
noncomputable def F:=u2 Amp
theorem rn x:H.u P_ x=F x:=by kernel_rfl
noncomputable def c:Con:=⟨H.p,H.r,F⟩
theorem ok:ConOk P_ gl 107 c:=co H func107 (.cons F69.ok (.cons F70.ok (.cons F158.ok (.cons F159.ok .nil)))) rn
end F107
namespace F58
noncomputable def H:Hd:=⟨[.agg [Si,Si,Si,Si,Si]],[Ol 3,Si], .d,⟨[(106,F106.c),(107,F107.c)],gl,false⟩,[],f58⟩
noncomputable def F:=u5 Dk
theorem rn x:H.u P_ x=F x:=by kernel_rfl
noncomputable def c:Con:=⟨H.p,H.r,F⟩
theorem ok:ConOk P_ gl 58 c:=co H func58 (.cons F106.ok (.cons F107.ok .nil)) rn
end F58
namespace F84
noncomputable def H:Hd:=⟨[.agg [Si,Si,Si,Si,Si],Ss],[Si], .d,⟨[],gl,false⟩,[],f84⟩
noncomputable def F:=u6 Lm
theorem rn x:H.u P_ x=F x:=by kernel_rfl
noncomputable def c:Con:=⟨H.p,H.r,F⟩
theorem ok:ConOk P_ gl 84 c:=co H func84 .nil rn
end F84
namespace F43
abbrev R_:=Bool
noncomputable def H:Hd:=⟨[.agg [Ss,Sb, .agg [Si,Si,Si,Si,Si],Sl,Si,Sb,Sz,Si]],[Sz],(.seq .d (.seq .d (.seq .d (.cut [1,3] [] .d (.seq .d (.seq .d (.seq .d (.cut [1,5] [] (.seq .d (.blk (.loop [1,5,83,84,85] [] .d))) .d)))))))),⟨[(58,F58.c),(84,F84.c),(85,F85.c)],gl,false⟩,[],f43⟩
def t6(y:LI)(o p:LB)(h b f k m:Int)(g:LI)(a:Int)(n:LB)(u:Bool)(v w aa:Int):S:=⟨[(1, .ptr 0 []),(5,vi w),(83,vl y),(84,vi (Ac y)),(85,vi aa)],[.box 30 (.agg [vs o,vb p, .agg [vi h,vi b,vi f,vi k,vi m],vl g,vi a,vb n,vt u,vi v])],[]⟩
def z6:Nat→S→Option R_:=H.i P_ [r,r,r,r,r,r,r,l,r,d]
def x8(w:Int)(o p:LB)(h b f k m:Int)(g:LI)(a:Int)(n:LB)(u:Bool)(v:Int):Option R_:=H.e P_ [r,r,r,r,r,r,r,r] ⟨[(1, .ptr 0 []),(5,vi w)],[.box 30 (.agg [vs o,vb p, .agg [vi h,vi b,vi f,vi k,vi m],vl g,vi a,vb n,vt u,vi v])],[]⟩
def x6(y:LI)(o p:LB)(h b f k m:Int)(g:LI)(a:Int)(n:LB)(u:Bool)(v w aa:Int):Option R_:=H.e P_ [r,r,r,r,r,r,r,l,r,d] (t6 y o p h b f k m g a n u v w aa)
def x5(o p:LB)(h b f k m:Int)(g:LI)(a:Int)(n:LB)(u:Bool)(v:Int)(ab:LI):Option R_:=H.e P_ [r,r,r,r] ⟨[(1, .ptr 0 []),(3, .own 1)],[.box 30 (.agg [vs o,vb p, .agg [vi h,vi b,vi f,vi k,vi m],vl g,vi a,vb n,vt u,vi v]),Ai 3 ab],[]⟩
theorem e8:x8=Ahq:=by kernel_rfl
theorem i6(y:LI)(o p:LB)(h b f k m:Int)(g:LI)(a:Int)(n:LB)(u:Bool)(v:Int):∀(q:Nat) (w aa:Int),z6 q (t6 y o p h b f k m g a n u v w aa)=Nb y o p h b f k m g a n u v q w aa:=
 ind (fun _ _=>by kernel_rfl) fun q ih w aa=>Eq.trans (b:=Ya x8 (fun w aa=>(z6 q) (t6 y o p h b f k m g a n u v w aa)) y o p h b f k m g a n u v w aa) (by kernel_rfl) (by simp only[e8,ih]<;>rfl)
theorem e6:x6=Ahp:=by funext y o p h b f k m g a n u v w aa;exact Eq.trans (by kernel_rfl) ((i6 y o p h b f k m g a n u v Cv w aa).trans (by rw[Ar];rfl))
theorem e5:x5=Ahr:=Eq.trans (b:=Ag4 x6) (by kernel_rfl) (by simp only[e6]<;>rfl)
noncomputable def F:=u12 Vr
theorem rn x:H.u P_ x=F x:=Eq.trans (b:=u12 (Ahk x5) x) (by kernel_rfl) (by simp only[e5]<;>rfl)
noncomputable def c:Con:=⟨H.p,H.r,F⟩
theorem ok:ConOk P_ gl 43 c:=co H func43 (.cons F58.ok (.cons F84.ok (.cons F85.ok .nil))) rn
end F43
namespace F52
noncomputable def H:Hd:=⟨[Sb,Sb],[Sz], .d,⟨[],gl,false⟩,[],f52⟩
noncomputable def F:=u2 Ff
theorem rn x:H.u P_ x=F x:=by kernel_rfl
noncomputable def c:Con:=⟨H.p,H.r,F⟩
theorem ok:ConOk P_ gl 52 c:=co H func52 .nil rn
end F52
namespace F161
noncomputable def H:Hd:=⟨[Sb,Sb],[Sz], .d,⟨[(52,F52.c)],gl,false⟩,[],f161⟩
noncomputable def F:=u2 Kl
theorem rn x:H.u P_ x=F x:=by kernel_rfl
noncomputable def c:Con:=⟨H.p,H.r,F⟩
theorem ok:ConOk P_ gl 161 c:=co H func161 (.cons F52.ok .nil) rn
end F161
namespace F232
abbrev R_:=(Int×Int)
noncomputable def H:Hd:=⟨[Sb],[Si,Si],(.seq .d (.seq .d (.seq .d (.cut [4] [] (.seq .d (.blk (.loop [4,10,11,12] [] .d))) .d)))),⟨[],gl,false⟩,[],f232⟩
def t4(a:LB)(b f:Int):S:=⟨[(4,vi b),(10,vb a),(11,vi (Ac a)),(12,vi f)],[],[]⟩
def z4:Nat→S→Option R_:=H.i P_ [r,r,r,l,r,d]
def x6(b:Int):Option R_:=H.e P_ [r,r,r,r] ⟨[(4,vi b)],[],[]⟩
def x4(a:LB)(b f:Int):Option R_:=H.e P_ [r,r,r,l,r,d] (t4 a b f)
theorem e6:x6=Apf:=by kernel_rfl
theorem i4(a:LB):∀(q:Nat) (b f:Int),z4 q (t4 a b f)=Lg a q b f:=
 ind (fun _ _=>by kernel_rfl) fun q ih b f=>Eq.trans (b:=Vm x6 (fun b f=>(z4 q) (t4 a b f)) a b f) (by kernel_rfl) (by simp only[e6,ih]<;>rfl)
theorem e4:x4=Aer:=by funext a b f;exact Eq.trans (by kernel_rfl) ((i4 a Cv b f).trans (by rw[Ar];rfl))
noncomputable def F:=Afg
theorem rn x:H.u P_ x=F x:=Eq.trans (b:=Aex x4 x) (by kernel_rfl) (by simp only[e4]<;>rfl)
noncomputable def c:Con:=⟨H.p,H.r,F⟩
theorem ok:ConOk P_ gl 232 c:=co H func232 .nil rn
end F232
namespace F191
def Ael(j5:LB→UInt8→UInt8→Option (Int×Int))(a:LB):Option (Int×Int):=
(Kl a ([(73:UInt8),(68:UInt8),(51:UInt8)]:LB)).bind fun n=>
if(!n)then
some (0,6)
else
if(Bs (Ac a) 10)then
some (0,24)
else
(Ak a 3).bind fun f=>
(Ak a 5).bind fun b=>
(fun o:Option (Int×Int)=>
(fun p:Option (Int×Int)=>
both (
both (
bo (
j5 a f b)) [
o,
o]) [
bo2 (
bo (
j5 a f b)),
p,
p]) (
both (
o) [
bo (
j5 a f b),
both (
bo (
j5 a f b)) [
j5 a f b]])) (
both (
j5 a f b) [
bo (
j5 a f b)])
theorem Aw0: @Ael= @Xr:=by
  unfold Ael Xr
  try simp only[Ass,Ah0,Ag3]
  all_goals
    repeat (refine funext fun _=>?_)
    repeat' first
      |with_reducible rfl
      |with_reducible refine Ly ?_ ?_
      |with_reducible refine Lq ?_ ?_ ?_
      |with_reducible refine Ll ?_ ?_ ?_ ?_
      |((with_reducible refine Qv ?_ ?_);focus (intro h;first|(subst h;rfl)|(simp only[h];rfl)|(simp[Cw,Ac,h];done)))
      |with_reducible refine Qj fun x=>?_
      |with_reducible refine Yg (fun _=>?_) (fun _=>?_)
      |(refine Gn (fun h=>by simp only[h,Qc,Ed,Dx,ite_self]) (fun x h=>?_);(try simp only[h,Ed]))
      |(refine Ja (fun h=>?_) (fun h=>?_)<;>simp only[h,if_true,if_false,Bool.false_eq_true])
abbrev R_:=(Int×Int)
noncomputable def H:Hd:=⟨[Sb],[Si,Si],(.seq .d (.seq .d (.seq .d (.cut [0,4,5] [] (.mode false) (.seq .d (.seq .d (.cut [0,5,6] [] (.cut [0,5,6,43] [] (.keep [0,5,6,7,8,31,32,33,34,35,36,37,38,39,40,41,42,43] true) .d) (.seq .d (.cut [0,5,6] [] .d .d))))))))),⟨[(52,F52.c),(161,F161.c),(232,F232.c)],gl,false⟩,[(233, .d)],f191⟩
def x8(a:LB)(b:UInt8)(h:Int):Option R_:=H.e P_ [r,r,r,r,r,r,r,r,r] ⟨[(0,vb a),(5, .ptr 0 []),(6,vi h)],[.box 5 (vc b)],[]⟩
def x7(a:LB)(g:Int)(b:UInt8):Option R_:=H.e P_ [r,r,r,r,r,r,r] ⟨[(0,vb a),(5, .ptr 0 []),(6,vi g)],[.box 5 (vc b)],[]⟩
def x6(a:LB)(g:Int)(b:UInt8)(m:Bool):Option R_:=H.e P_ [r,r,r,r,r,r,l,r] ⟨[(0,vb a),(5, .ptr 0 []),(6,vi g),(43,vt m)],[.box 5 (vc b)],[]⟩
def x5(a:LB)(f b:UInt8):Option R_:=H.e P_ [r,r,r,r] ⟨[(0,vb a),(4, .ptr 0 []),(5, .ptr 1 [])],[.box 5 (vc f), .box 5 (vc b)],[]⟩
theorem e8:x8=Xt:=by kernel_rfl
theorem e7:x7=Xu:=Eq.trans (b:=Ahi x8) (by kernel_rfl) (by simp only[e8]<;>rfl)
theorem e6:x6=Ag7:=Eq.trans (b:=Ahb x7) (by kernel_rfl) (by simp only[e7]<;>rfl)
theorem e5:x5=Ahw:=Eq.trans (b:=Ahv x6) (by kernel_rfl) (by simp only[e6]<;>rfl)
noncomputable def F:=Aja
theorem rn x:H.u P_ x=F x:=Eq.trans (b:=Ael x5 x) (by kernel_rfl) (by unfold F;rw[Aw0];simp only[e5]<;>rfl)
noncomputable def c:Con:=⟨H.p,H.r,F⟩
theorem ok:ConOk P_ gl 191 c:=cr H func191 (.cons F52.ok (.cons F161.ok (.cons F232.ok .nil))) (AnsOk.cons ent233 AnsOk.nil) rn
end F191
namespace F154
abbrev R_:=(UInt64×Int)
noncomputable def H:Hd:=⟨[Sb],[Sq,Si],(.seq .d (.seq .d (.seq .d (.cut [4] [] (.seq .d (.blk (.loop [4,15,16,17] [] .d))) .d)))),⟨[],gl,false⟩,[],f154⟩
def t4(a:LB)(b:UInt64)(f:Int):S:=⟨[(4,vq b),(15,vb a),(16,vi (Ac a)),(17,vi f)],[],[]⟩
def z4:Nat→S→Option R_:=H.i P_ [r,r,r,l,r,d]
def x6(b:UInt64):Option R_:=H.e P_ [r,r,r,r] ⟨[(4,vq b)],[],[]⟩
def x4(a:LB)(b:UInt64)(f:Int):Option R_:=H.e P_ [r,r,r,l,r,d] (t4 a b f)
theorem e6:x6=Bdp:=by kernel_rfl
theorem i4(a:LB):∀(q:Nat) (b:UInt64) (f:Int),z4 q (t4 a b f)=Zj a q b f:=
 ind (fun _ _=>by kernel_rfl) fun q ih b f=>Eq.trans (b:=Am4 x6 (fun b f=>(z4 q) (t4 a b f)) a b f) (by kernel_rfl) (by simp only[e6,ih]<;>rfl)
theorem e4:x4=Auf:=by funext a b f;exact Eq.trans (by kernel_rfl) ((i4 a Cv b f).trans (by rw[Ar];rfl))
noncomputable def F:=Auy
theorem rn x:H.u P_ x=F x:=Eq.trans (b:=Au6 x4 x) (by kernel_rfl) (by simp only[e4]<;>rfl)
noncomputable def c:Con:=⟨H.p,H.r,F⟩
theorem ok:ConOk P_ gl 154 c:=co H func154 .nil rn
end F154
namespace F101
noncomputable def H:Hd:=⟨[Sb,Si,Si],[Sq,Si], .d,⟨[(154,F154.c)],gl,false⟩,[],f101⟩
noncomputable def F:=u3 Ap5
theorem rn x:H.u P_ x=F x:=by kernel_rfl
noncomputable def c:Con:=⟨H.p,H.r,F⟩
theorem ok:ConOk P_ gl 101 c:=co H func101 (.cons F154.ok .nil) rn
end F101
namespace F163
abbrev R_:=LB
noncomputable def H:Hd:=⟨[Si,Si,Sq],[Ob 5],(.seq .d (.seq .d (.cut [7] [] (.seq .d (.blk (.loop [7,20,21,22] [] .d))) .d))),⟨[(157,F157.c)],gl,false⟩,[],f163⟩
def t4(a b:Int)(f:UInt64)(h:Int)(g:LB):S:=⟨[(7, .own 0),(20, .own 1),(21,vi (Ac ([(2000:UInt64),(Ad (Ae a (32:Int)):UInt64),(Ad b:UInt64),f,(0:UInt64),(0:UInt64)]:LQ))),(22,vi h)],[Ab 5 g, .arr 87 (.int .u64) ([(2000:UInt64),(Ad (Ae a (32:Int)):UInt64),(Ad b:UInt64),f,(0:UInt64),(0:UInt64)]:LQ)],[]⟩
def z4:Nat→S→Option R_:=H.i P_ [r,r,l,r,d]
def x6(g:LB):Option R_:=H.e P_ [r,r,r] ⟨[(7, .own 0)],[Ab 5 g],[]⟩
def x4(a b:Int)(f:UInt64)(h:Int)(g:LB):Option R_:=H.e P_ [r,r,l,r,d] (t4 a b f h g)
theorem e6:x6=Ayq:=by kernel_rfl
theorem i4(a b:Int)(f:UInt64):∀(q:Nat) (h:Int) (g:LB),z4 q (t4 a b f h g)=Yx a b f q h g:=
 ind (fun _ _=>by kernel_rfl) fun q ih h g=>Eq.trans (b:=Arx x6 (fun h g=>(z4 q) (t4 a b f h g)) a b f h g) (by kernel_rfl) (by simp only[e6,ih]<;>rfl)
theorem e4:x4=Ay0:=by funext a b f h g;exact Eq.trans (by kernel_rfl) ((i4 a b f Cv h g).trans (by rw[Ar];rfl))
noncomputable def F:=u3 Awl
theorem rn x:H.u P_ x=F x:=Eq.trans (b:=u3 (Aza x4) x) (by kernel_rfl) (by simp only[e4]<;>rfl)
noncomputable def c:Con:=⟨H.p,H.r,F⟩
theorem ok:ConOk P_ gl 163 c:=co H func163 (.cons F157.ok .nil) rn
end F163
namespace F162
noncomputable def H:Hd:=⟨[Sb,Sq],[.agg [Si,Si],Sz], .d,⟨[(52,F52.c),(101,F101.c),(163,F163.c)],gl,false⟩,[],f162⟩
noncomputable def F:=u2 Ajg
theorem rn x:H.u P_ x=F x:=by kernel_rfl
noncomputable def c:Con:=⟨H.p,H.r,F⟩
theorem ok:ConOk P_ gl 162 c:=co H func162 (.cons F52.ok (.cons F101.ok (.cons F163.ok .nil))) rn
end F162
namespace F192
noncomputable def H:Hd:=⟨[Sb],[Si,Si], .d,⟨[(52,F52.c),(161,F161.c),(162,F162.c),(163,F163.c)],gl,false⟩,[],f192⟩
noncomputable def F:=Aws
theorem rn x:H.u P_ x=F x:=by kernel_rfl
noncomputable def c:Con:=⟨H.p,H.r,F⟩
theorem ok:ConOk P_ gl 192 c:=co H func192 (.cons F52.ok (.cons F161.ok (.cons F162.ok (.cons F163.ok .nil)))) rn
end F192
namespace F152
noncomputable def H:Hd:=⟨[Sb],[Si,Si], .d,⟨[(191,F191.c),(192,F192.c)],gl,false⟩,[],f152⟩
noncomputable def F:=Vd
theorem rn x:H.u P_ x=F x:=by kernel_rfl
noncomputable def c:Con:=⟨H.p,H.r,F⟩
theorem ok:ConOk P_ gl 152 c:=co H func152 (.cons F191.ok (.cons F192.ok .nil)) rn
end F152
theorem Aju:ConOk Tryz.prog gl 55 Xi:=Bfp ent55 F152.ok
namespace F82
noncomputable def H:Hd:=⟨[Si],[.agg [Sz,Si]], .d,⟨[],gl,false⟩,[],f82⟩
noncomputable def F:=Ag
theorem rn x:H.u P_ x=F x:=by kernel_rfl
noncomputable def c:Con:=⟨H.p,H.r,F⟩
theorem ok:ConOk P_ gl 82 c:=co H func82 .nil rn
end F82
namespace F153
noncomputable def H:Hd:=⟨[Ss,Ss],[Sz], .d,⟨[],gl,false⟩,[],f153⟩
noncomputable def F:=u2 Fo
theorem rn x:H.u P_ x=F x:=by kernel_rfl
noncomputable def c:Con:=⟨H.p,H.r,F⟩
theorem ok:ConOk P_ gl 153 c:=co H func153 .nil rn
end F153
namespace F100
noncomputable def H:Hd:=⟨[Ss,Ss],[Sz], .d,⟨[(153,F153.c)],gl,false⟩,[],f100⟩
noncomputable def F:=u2 Hs
theorem rn x:H.u P_ x=F x:=by kernel_rfl
noncomputable def c:Con:=⟨H.p,H.r,F⟩
theorem ok:ConOk P_ gl 100 c:=co H func100 (.cons F153.ok .nil) rn
end F100
namespace F130
abbrev R_:=Bool
noncomputable def H:Hd:=⟨[Sb],[Sz],(.seq .d (.cut [] [] (.seq .d (.blk (.loop [0,5,6] [] .d))) .d)),⟨[(100,F100.c)],gl,false⟩,[],f130⟩
def t4(a:LB)(b:Int):S:=⟨[(0,vb a),(5, .val (.vec 2 .str) ([([73,68,51]:LB),([65,80,69,84,65,71,69,88]:LB)]:List LB)),(6,vi b)],[],[]⟩
def z4:Nat→S→Option R_:=H.i P_ [r,l,r,d]
def x6:Option R_:=H.e P_ [r,r] ⟨[],[],[]⟩
def x4(a:LB)(b:Int):Option R_:=H.e P_ [r,l,r,d] (t4 a b)
theorem e6:x6=As6:=by kernel_rfl
theorem i4(a:LB):∀(q:Nat) (b:Int),z4 q (t4 a b)=If a q b:=
 ind (fun _=>by kernel_rfl) fun q ih b=>Eq.trans (b:=Qx x6 (fun b=>(z4 q) (t4 a b)) a b) (by kernel_rfl) (by simp only[e6,ih]<;>rfl)
theorem e4:x4=Ahx:=by funext a b;exact Eq.trans (by kernel_rfl) ((i4 a Cv b).trans (by rw[Ar];rfl))
noncomputable def F:=Nm
theorem rn x:H.u P_ x=F x:=Eq.trans (b:=Aho x4 x) (by kernel_rfl) (by simp only[e4]<;>rfl)
noncomputable def c:Con:=⟨H.p,H.r,F⟩
theorem ok:ConOk P_ gl 130 c:=co H func130 (.cons F100.ok .nil) rn
end F130
namespace F56
abbrev R_:=(Int×Int×Int×Int×Int×Int)
noncomputable def H:Hd:=⟨[Sb],[.agg [Si,Si,Si,Si,Si],Si],(.seq .d (.seq .d (.seq .d (.seq .d (.seq .d (.seq .d (.seq .d (.cut [2,8] [] (.seq .d (.blk (.loop [0,2,8,9,44,45] [] .d))) .d)))))))),⟨[(100,F100.c),(101,F101.c),(102,F102.c),(103,F103.c),(104,F104.c)],gl,false⟩,[],f56⟩
def t4(b:LB)(g f:Int)(a:LI):S:=⟨[(0,vb b),(2, .ptr 0 []),(8, .ptr 1 []),(9,vi g),(44, .val (.vec 5 (.int .i64)) ([(2:Int),(2:Int),(2:Int),(4:Int),(4:Int)]:LI)),(45,vi f)],[.box 27 (.agg [vi 0,vi 0,vi 0,vi 0,vi 0]), .box 157 (.val (.vec 5 (.int .i64)) a)],[]⟩
def z4:Nat→S→Option R_:=H.i P_ [r,r,r,r,r,r,r,l,r,d]
def x6(a:LI):Option R_:=H.e P_ [r,r,r,r,r,r,r,r] ⟨[(2, .ptr 0 []),(8, .ptr 1 [])],[.box 27 (.agg [vi 0,vi 0,vi 0,vi 0,vi 0]), .box 157 (.val (.vec 5 (.int .i64)) a)],[]⟩
def x4(b:LB)(g f:Int)(a:LI):Option R_:=H.e P_ [r,r,r,r,r,r,r,l,r,d] (t4 b g f a)
theorem e6:x6=Ac6:=by kernel_rfl
theorem i4(b:LB):∀(q:Nat) (g f:Int) (a:LI),z4 q (t4 b g f a)=Ma b q g f a:=
 ind (fun _ _ _=>by kernel_rfl) fun q ih g f a=>Eq.trans (b:=Aa0 x6 (fun g f a=>(z4 q) (t4 b g f a)) b g f a) (by kernel_rfl) (by simp only[e6,ih]<;>rfl)
theorem e4:x4=Ab3:=by funext b g f a;exact Eq.trans (by kernel_rfl) ((i4 b Cv g f a).trans (by rw[Ar];rfl))
noncomputable def F:=Nh
theorem rn x:H.u P_ x=F x:=Eq.trans (b:=Alg x4 x) (by kernel_rfl) (by simp only[e4]<;>rfl)
noncomputable def c:Con:=⟨H.p,H.r,F⟩
theorem ok:ConOk P_ gl 56 c:=co H func56 (.cons F100.ok (.cons F101.ok (.cons F102.ok (.cons F103.ok (.cons F104.ok .nil))))) rn
end F56
namespace F57
noncomputable def H:Hd:=⟨[Sb,Ss],[Sz,Si], .d,⟨[(52,F52.c),(105,F105.c)],gl,false⟩,[],f57⟩
noncomputable def F:=u2 Acu
theorem rn x:H.u P_ x=F x:=by kernel_rfl
noncomputable def c:Con:=⟨H.p,H.r,F⟩
theorem ok:ConOk P_ gl 57 c:=co H func57 (.cons F52.ok (.cons F105.ok .nil)) rn
end F57
namespace F59
abbrev R_:=(LI×Int)
noncomputable def H:Hd:=⟨[Sb,Si],[Ol 3,Si],(.seq .d (.seq .d (.seq .d (.seq .d (.seq .d (.seq .d (.cut [10] [] (.seq .d (.blk (.loop [0,10,48,49] [] .d))) .d))))))),⟨[(85,F85.c),(101,F101.c),(102,F102.c)],gl,false⟩,[],f59⟩
def t4(b:LB)(f:LI)(g:Int)(a:LI):S:=⟨[(0,vb b),(10, .own 0),(48,vi (Ac f)),(49,vi g)],[Ai 3 a],[]⟩
def z4:Nat→S→Option R_:=H.i P_ [r,r,r,r,r,r,l,r,d]
def x6(a:LI):Option R_:=H.e P_ [r,r,r,r,r,r,r] ⟨[(10, .own 0)],[Ai 3 a],[]⟩
def x4(b:LB)(f:LI)(g:Int)(a:LI):Option R_:=H.e P_ [r,r,r,r,r,r,l,r,d] (t4 b f g a)
theorem e6:x6=Ae6:=by kernel_rfl
theorem i4(b:LB)(f:LI):∀(q:Nat) (g:Int) (a:LI),z4 q (t4 b f g a)=Ri b f q g a:=
 ind (fun _ _=>by kernel_rfl) fun q ih g a=>Eq.trans (b:=Afe x6 (fun g a=>(z4 q) (t4 b f g a)) b f g a) (by kernel_rfl) (by simp only[e6,ih]<;>rfl)
theorem e4:x4=Ani:=by funext b f g a;exact Eq.trans (by kernel_rfl) ((i4 b f Cv g a).trans (by rw[Ar];rfl))
noncomputable def F:=u2 Akk
theorem rn x:H.u P_ x=F x:=Eq.trans (b:=u2 (An8 x4) x) (by kernel_rfl) (by simp only[e4]<;>rfl)
noncomputable def c:Con:=⟨H.p,H.r,F⟩
theorem ok:ConOk P_ gl 59 c:=co H func59 (.cons F85.ok (.cons F101.ok (.cons F102.ok .nil))) rn
end F59
namespace F131
noncomputable def H:Hd:=⟨[.agg [Si,Si,Si,Si,Si]],[.agg [Si,Si]], .d,⟨[],gl,false⟩,[],f131⟩
noncomputable def F:=u5 Xk
theorem rn x:H.u P_ x=F x:=by kernel_rfl
noncomputable def c:Con:=⟨H.p,H.r,F⟩
theorem ok:ConOk P_ gl 131 c:=co H func131 .nil rn
end F131
namespace F115
noncomputable def H:Hd:=⟨[Sb],[Sb,Si], .d,⟨[(102,F102.c),(154,F154.c)],gl,false⟩,[],f115⟩
noncomputable def F:=Abz
theorem rn x:H.u P_ x=F x:=by kernel_rfl
noncomputable def c:Con:=⟨H.p,H.r,F⟩
theorem ok:ConOk P_ gl 115 c:=co H func115 (.cons F102.ok (.cons F154.ok .nil)) rn
end F115
namespace F116
noncomputable def H:Hd:=⟨[Sb],[.agg [Ob 5,Si],Si], .d,⟨[(150,F150.c)],gl,false⟩,[],f116⟩
noncomputable def F:=Blb
theorem rn x:H.u P_ x=F x:=by kernel_rfl
noncomputable def c:Con:=⟨H.p,H.r,F⟩
theorem ok:ConOk P_ gl 116 c:=co H func116 (.cons F150.ok .nil) rn
end F116
namespace F169
abbrev R_:=UInt64
noncomputable def H:Hd:=⟨[.agg [Sb,Si],Si,Si],[Sq],(.seq .d (.seq .d (.cut [7] [] (.blk (.loop [1,2,3,7,8] [] .d)) .d))),⟨[],gl,false⟩,[],f169⟩
def t4(b f:Int)(h:LB)(k:Int)(g:UInt64)(a:Int):S:=⟨[(1,vi b),(2,vi f),(3, .ptr 0 []),(7,vq g),(8,vi a)],[.box 170 (.agg [vb h,vi k])],[]⟩
def z4:Nat→S→Option R_:=H.i P_ [r,r,l,d]
def x6(g:UInt64):Option R_:=H.e P_ [r,r,r] ⟨[(7,vq g)],[],[]⟩
def x4(b f:Int)(h:LB)(k:Int)(g:UInt64)(a:Int):Option R_:=H.e P_ [r,r,l,d] (t4 b f h k g a)
theorem e6:x6=Bc6:=by kernel_rfl
theorem i4(b f:Int)(h:LB)(k:Int):∀(q:Nat) (g:UInt64) (a:Int),z4 q (t4 b f h k g a)=Afm b f h k q g a:=
 ind (fun _ _=>by kernel_rfl) fun q ih g a=>Eq.trans (b:=Atz x6 (fun g a=>(z4 q) (t4 b f h k g a)) b f h k g a) (by kernel_rfl) (by simp only[e6,ih]<;>rfl)
theorem e4:x4=Bdk:=by funext b f h k g a;exact Eq.trans (by kernel_rfl) ((i4 b f h k Cv g a).trans (by rw[Ar];rfl))
noncomputable def F:=u4 Bas
theorem rn x:H.u P_ x=F x:=Eq.trans (b:=u4 (Bdd x4) x) (by kernel_rfl) (by simp only[e4]<;>rfl)
noncomputable def c:Con:=⟨H.p,H.r,F⟩
theorem ok:ConOk P_ gl 169 c:=co H func169 .nil rn
end F169
namespace F166
abbrev R_:=(LB×Int×Int)
abbrev K_:=S→Option R_
noncomputable def H:Hd:=⟨[.agg [Sb,Si],Si,Si],[.agg [Ob 5,Si],Si],(.seq .d (.seq .d (.seq .d (.seq .d (.cut [6,8] [] (.seq .d (.blk (.loop [2,3,6,8,9] [⟨8,[0], .own 5 (.int .u8)⟩] (.seq .d (.cut [2,3,6,8,9] [] (.blk (.seq .d (.keep [2,3,6,8,9,10,39,40,41,42,43] true))) .d))))) .d))))),⟨[(168,F168.c),(169,F169.c)],gl,false⟩,[(199,(.blk (.loop [0,1,2] [] (.seq .d (.blk (.cut [0,1,2] [] .d (.seq .d (.cut [0,1,2,7] [] .d .d))))))))],f166⟩
def t44(a:Int)(g:LB)(f b:Int)(k n:UInt64)(m h:Int)(u:LB):S:=⟨[(0, .ptr 0 []),(1,vq n),(2,vi m)],[.box 170 (.agg [.own 3,vi h]), .box 170 (.agg [vb g,vi f]), .box 170 (.agg [.nils,vi 0]),Ab 5 u],[[(2,vi a),(3, .ptr 1 []),(6, .ptr 2 []),(8, .ptr 0 []),(9,vi b),(10,vi (Ec (64:Int) (Ah a b))),(39, .agg [vb g,vi f]),(40,vi b),(41,vi (Ec (64:Int) (Ah a b))),(42,vq k),(43,vi (Ec (64:Int) (Ah a b)))]]⟩
def z44(kn27:K_):Nat→S→Option R_:=H.i P_ [r,r,r,r,l,r,d,(lp kn27),r,l,d,r,(call 5 199),d]
def t27(a:Int)(g:LB)(f b o:Int)(p:LB):S:=⟨[(2,vi a),(3, .ptr 0 []),(6, .ptr 1 []),(8, .ptr 2 []),(9,vi b)],[.box 170 (.agg [vb g,vi f]), .box 170 (.agg [.nils,vi 0]), .box 170 (.agg [.own 3,vi o]),Ab 5 p],[]⟩
def z27:Nat→S→Option R_:=H.i P_ [r,r,r,r,l,r,d]
def x52(o:Int)(p:LB):Option R_:=H.e P_ [r,r,r,r,r] ⟨[(6, .ptr 0 []),(8, .ptr 1 [])],[.box 170 (.agg [.nils,vi 0]), .box 170 (.agg [.own 2,vi o]),Ab 5 p],[]⟩
def x50(kn27:K_)(a:Int)(g:LB)(f b h:Int)(u:LB):Option R_:=H.e P_ [r,r,r,r,l,r,d,(lp kn27),r,r] ⟨[(2,vi a),(3, .ptr 0 []),(6, .ptr 1 []),(8, .ptr 2 []),(9,vi b)],[.box 170 (.agg [vb g,vi f]), .box 170 (.agg [.nils,vi 0]), .box 170 (.agg [.own 3,vi h]),Ab 5 u],[]⟩
def x48(kn27 kn44:K_)(a b:Int)(g:LB)(f:Int)(k n:UInt64)(m h:Int)(w:LB):Option R_:=H.e P_ [r,r,r,r,l,r,d,(lp kn27),r,l,d,r,(call 5 199),d,(lp kn44),r,d,r,r,r] ⟨[(0, .ptr 0 []),(1,vq n),(2,vi m),(7,vi (Ec m (Ah (8:Int) (Dq h (7:Int)))))],[.box 170 (.agg [.own 3,vi h]), .box 170 (.agg [vb g,vi f]), .box 170 (.agg [.nils,vi 0]),Ab 5 w],[[(2,vi a),(3, .ptr 1 []),(6, .ptr 2 []),(8, .ptr 0 []),(9,vi b),(10,vi (Ec (64:Int) (Ah a b))),(39, .agg [vb g,vi f]),(40,vi b),(41,vi (Ec (64:Int) (Ah a b))),(42,vq k),(43,vi (Ec (64:Int) (Ah a b)))]]⟩
def x47(kn27 kn44:K_)(a b:Int)(g:LB)(f:Int)(k n:UInt64)(m h:Int)(v:LB):Option R_:=H.e P_ [r,r,r,r,l,r,d,(lp kn27),r,l,d,r,(call 5 199),d,(lp kn44),r,d,r] ⟨[(0, .ptr 0 []),(1,vq n),(2,vi m)],[.box 170 (.agg [.own 3,vi h]), .box 170 (.agg [vb g,vi f]), .box 170 (.agg [.nils,vi 0]),Ab 5 v],[[(2,vi a),(3, .ptr 1 []),(6, .ptr 2 []),(8, .ptr 0 []),(9,vi b),(10,vi (Ec (64:Int) (Ah a b))),(39, .agg [vb g,vi f]),(40,vi b),(41,vi (Ec (64:Int) (Ah a b))),(42,vq k),(43,vi (Ec (64:Int) (Ah a b)))]]⟩
def x44(kn27:K_)(a:Int)(g:LB)(f b:Int)(k n:UInt64)(m h:Int)(u:LB):Option R_:=H.e P_ [r,r,r,r,l,r,d,(lp kn27),r,l,d,r,(call 5 199),d] (t44 a g f b k n m h u)
def x27(a:Int)(g:LB)(f b o:Int)(p:LB):Option R_:=H.e P_ [r,r,r,r,l,r,d] (t27 a g f b o p)
theorem e52:x52=Aqb:=by kernel_rfl
theorem e50(kn27:K_)(a:Int)(g:LB)(f:Int):x50 kn27 a g f=Ai6 (fun b o p=>kn27 (t27 a g f b o p)) a g f:=by kernel_rfl
theorem e48(kn27 kn44:K_)(a:Int)(g:LB)(f b:Int)(k:UInt64):x48 kn27 kn44 a b g f k=Arn (fun n m h u=>kn44 (t44 a g f b k n m h u)) a b g f k:=by kernel_rfl
theorem e47(kn27 kn44:K_)(a:Int)(g:LB)(f b:Int)(k:UInt64):x47 kn27 kn44 a b g f k=Aiz (fun n m h u=>kn44 (t44 a g f b k n m h u)) a b g f k:=Eq.trans (b:=Aqn (x48 kn27 kn44 a b g f k) a b g f k) (by kernel_rfl) (by simp only[e48]<;>rfl)
theorem i44(kn27:K_)(a:Int)(g:LB)(f b:Int)(k:UInt64):∀(q:Nat) (n:UInt64) (m h:Int) (u:LB),z44 kn27 q (t44 a g f b k n m h u)=Nf (fun b o p=>kn27 (t27 a g f b o p)) a g f b k q n m h u:=
 ind (fun _ _ _ _=>by kernel_rfl) fun q ih n m h u=>Eq.trans (b:=Ai8 (x47 kn27 (z44 kn27 q) a b g f k) (x50 kn27 a g f) a g f b k n m h u) (by kernel_rfl) (by simp only[e47,e50,ih]<;>rfl)
theorem e44(kn27:K_)(a:Int)(g:LB)(f:Int):x44 kn27 a g f=Aru (fun b o p=>kn27 (t27 a g f b o p)) a g f:=by funext b k n m h u;exact Eq.trans (by kernel_rfl) ((i44 kn27 a g f b k Cv n m h u).trans (by rw[Ar];rfl))
theorem i27(a:Int)(g:LB)(f:Int):∀(q:Nat) (b o:Int) (p:LB),z27 q (t27 a g f b o p)=Vu a g f q b o p:=
 ind (fun _ _ _=>by kernel_rfl) fun q ih b o p=>Eq.trans (b:=Ari (x44 (z27 q) a g f) x52 a g f b o p) (by kernel_rfl) (by simp only[e44,e52,ih]<;>rfl)
theorem e27:x27=Aqc:=by funext a g f b o p;exact Eq.trans (by kernel_rfl) ((i27 a g f Cv b o p).trans (by rw[Ar];rfl))
noncomputable def F:=u4 Att
theorem rn x:H.u P_ x=F x:=Eq.trans (b:=u4 (Avt x27) x) (by kernel_rfl) (by simp only[e27]<;>rfl)
noncomputable def c:Con:=⟨H.p,H.r,F⟩
theorem ok:ConOk P_ gl 166 c:=cr H func166 (.cons F168.ok (.cons F169.ok .nil)) (AnsOk.cons ent199 AnsOk.nil) rn
end F166
namespace F118
noncomputable def H:Hd:=⟨[.agg [Sb,Si],Si,Si],[Sq,Si], .d,⟨[(168,F168.c),(169,F169.c)],gl,false⟩,[],f118⟩
noncomputable def F:=u4 Aau
theorem rn x:H.u P_ x=F x:=by kernel_rfl
noncomputable def c:Con:=⟨H.p,H.r,F⟩
theorem ok:ConOk P_ gl 118 c:=co H func118 (.cons F168.ok (.cons F169.ok .nil)) rn
end F118
namespace F270
noncomputable def H:Hd:=⟨[Sq],[Si], .d,⟨[],gl,false⟩,[],f270⟩
noncomputable def F:=Ft
theorem rn x:H.u P_ x=F x:=by kernel_rfl
noncomputable def c:Con:=⟨H.p,H.r,F⟩
theorem ok:ConOk P_ gl 270 c:=co H func270 .nil rn
end F270
namespace F237
def Akz(j6:Int→UInt64→Int→LB→Int→Option (Int×Int×Int))(g:LB)(b a:Int):Option (Int×Int×Int):=
(Jg g b).bind fun m=>
if(Ay m 0)then
some (0,0,m)
else
if(Bs a 0)then
some (0,0,2)
else
if(Il a b)then
some (0,0,24)
else
(fun n:Option (Int×Int×Int)=>
(fun o:Option (Int×Int×Int)=>
bo2 (
o)) (
bo (
n))) (
(Aau g b a (Ec 48 (Ah b a))).bind fun(k,h)=>
j6 h k a g b)
theorem Bbb: @Akz= @Xe:=by
  unfold Akz Xe
  simp only[Ass,Ah0,Ag3]
abbrev R_:=(Int×Int×Int)
noncomputable def H:Hd:=⟨[.agg [Sb,Si],Si],[Si,Si,Si],(.seq .d (.seq .d (.seq .d (.seq .d (.seq .d (.cut [3,5,6,8,9] [] (.keep [2,3,5,6,8,9,22,23,24,25,26,27,28,29] false) (.seq .d (.seq .d (.cut [] [] (.blk (.seq (.blk (.seq (.blk (.cut [] [] (.cut [3,4,5] [] (.cut [3,4,5,36] [] (.keep [3,4,5,8,36,37,38,39,40] true) .d) .d) .d)) .d)) .d)) .d))))))))),⟨[(118,F118.c),(168,F168.c),(270,F270.c)],gl,false⟩,[(269, .d)],f237⟩
def x10:Option R_:=H.e P_ [r,r,r,r,r,r,r,r,r] ⟨[],[],[]⟩
def x9:Option R_:=H.e P_ [r,r,r,r,r,r,r,r,l,d,l,d,l,d,r] ⟨[],[],[]⟩
def x8(f a:Int):Option R_:=H.e P_ [r,r,r,r,r,r,r,r,l,d,l,d,l,d,l,r] ⟨[(3, .ptr 0 []),(4,vi f),(5,vi 0)],[.box 3 (vi a)],[]⟩
def x7(f b a:Int):Option R_:=H.e P_ [r,r,r,r,r,r,r,r,l,d,l,d,l,d,l,l,r] ⟨[(3, .ptr 0 []),(4,vi f),(5,vi 0),(36,vt (Bs f (Ec (48:Int) (Ah b a))))],[.box 3 (vi a)],[]⟩
def x6(h:Int)(k:UInt64)(a:Int)(g:LB)(b:Int):Option R_:=H.e P_ [r,r,r,r,r,r] ⟨[(3, .ptr 0 []),(5,vi 0),(6,vi h),(8, .fn 269 [.ptr 1 [], .ptr 0 []]),(9,vq k)],[.box 3 (vi a), .box 170 (.agg [vb g,vi b])],[]⟩
theorem e10:x10=Avm:=by kernel_rfl
theorem e9:x9=Ax6:=Eq.trans (b:=Aw8 x10) (by kernel_rfl) (by simp only[e10]<;>rfl)
theorem e8:x8=Ann:=Eq.trans (b:=Anf x9) (by kernel_rfl) (by simp only[e9]<;>rfl)
theorem e7:x7=An7:=Eq.trans (b:=Anm x8) (by kernel_rfl) (by simp only[e8]<;>rfl)
theorem e6:x6=An0:=Eq.trans (b:=An4 x7) (by kernel_rfl) (by simp only[e7]<;>rfl)
noncomputable def F:=u3 Ad9
theorem rn x:H.u P_ x=F x:=Eq.trans (b:=u3 (Akz x6) x) (by kernel_rfl) (by unfold F;rw[Bbb];simp only[e6]<;>rfl)
noncomputable def c:Con:=⟨H.p,H.r,F⟩
theorem ok:ConOk P_ gl 237 c:=cr H func237 (.cons F118.ok (.cons F168.ok (.cons F270.ok .nil))) (AnsOk.cons ent269 AnsOk.nil) rn
end F237
namespace F201
abbrev R_:=(UInt32×Int×Int)
noncomputable def H:Hd:=⟨[.agg [Sb,Si],Si,Si],[Su,Si,Si],(.seq .d (.seq .d (.seq .d (.seq .d (.seq .d (.seq .d (.cut [2,3,7,10,11] [] .d .d))))))),⟨[(118,F118.c),(168,F168.c),(237,F237.c),(238,F238.c)],gl,false⟩,[],f201⟩
def x2(a b f:Int)(g:LB)(h k:Int):Option R_:=H.e P_ [r,r,r,r,r,r,r] ⟨[(2,vi a),(3, .ptr 0 []),(7,vi b),(10,vi f),(11,vi k)],[.box 170 (.agg [vb g,vi h])],[]⟩
theorem e2:x2=Ai4:=by kernel_rfl
noncomputable def F:=u4 Awq
theorem rn x:H.u P_ x=F x:=Eq.trans (b:=u4 (Aq8 x2) x) (by kernel_rfl) (by simp only[e2]<;>rfl)
noncomputable def c:Con:=⟨H.p,H.r,F⟩
theorem ok:ConOk P_ gl 201 c:=co H func201 (.cons F118.ok (.cons F168.ok (.cons F237.ok (.cons F238.ok .nil)))) rn
end F201
namespace F167
abbrev R_:=(UInt32×Int×Int×Int×UInt64×UInt64×Int)
noncomputable def H:Hd:=⟨[.agg [Sb,Si],Si, .agg [Si,Si,Sq,Sq]],[Su,Si, .agg [Si,Si,Sq,Sq],Si],(.seq .d (.cut [1,3,5,8] [] .d (.seq .d (.seq .d (.cut [5,6,7,8] [] .d (.cut [5,6,7,8] [] (.keep [5,6,7,8,81] true) .d)))))),⟨[(118,F118.c),(168,F168.c),(200,F200.c),(201,F201.c),(240,F240.c)],gl,false⟩,[(202,(.seq .d (.seq .d (.seq .d (.blk (.cut [0,1,4] [] (.blk (.seq .d (.keep [0,1,4,6,18,19,20,21,22,23,24,25] true))) (.cut [] [] (.keep [0,1,4,27,28,29,30,31,32,33,34] true) .d))))))),(239, .d)],f167⟩
def x10(f:UInt32)(k w m:Int)(a n:UInt64):Option R_:=H.e P_ [r,r,r,r,r,r] ⟨[(5, .ptr 0 []),(6,vu f),(7,vi k),(8, .ptr 1 [])],[.box 225 (.agg [vi w,vi m,vq (Ae a (Ah (Ad f:UInt64) (Bv a (GI.toZ (4:UInt64)).toNat))),vq n]), .box 225 (.agg [vi 0,vi 0,vq 0,vq 0])],[]⟩
def x9(f:UInt32)(k m:Int)(a n:UInt64)(w:Int):Option R_:=H.e P_ [r,r,r,r,r,l,(call 1 202),r,r,r,d,r,r] ⟨[],[.box 225 (.agg [vi w,vi m,vq (Ae a (Ah (Ad f:UInt64) (Bv a (GI.toZ (4:UInt64)).toNat))),vq n]), .box 225 (.agg [vi 0,vi 0,vq 0,vq 0])],[[(5, .ptr 0 []),(6,vu f),(7,vi k),(8, .ptr 1 []),(81,vu f)]]⟩
def x8(f:UInt32)(k b:Int)(a:UInt64)(m:Int)(n:UInt64):Option R_:=H.e P_ [r,r,r,r,r,l,(call 1 202),r,r,r,d,r] ⟨[(0, .ptr 0 []),(1,vu f),(4, .fn 239 [])],[.box 225 (.agg [vi b,vi m,vq a,vq n]), .box 225 (.agg [vi 0,vi 0,vq 0,vq 0])],[[(5, .ptr 0 []),(6,vu f),(7,vi k),(8, .ptr 1 []),(81,vu f)]]⟩
def x7(b h:Int)(a g:UInt64)(f:UInt32)(k:Int):Option R_:=H.e P_ [r,r,r,r,r] ⟨[(5, .ptr 0 []),(6,vu f),(7,vi k),(8, .ptr 1 [])],[.box 225 (.agg [vi b,vi h,vq a,vq g]), .box 225 (.agg [vi 0,vi 0,vq 0,vq 0])],[]⟩
def x6(p:Int)(u:LB)(v b h:Int)(a g:UInt64):Option R_:=H.e P_ [r,r] ⟨[(1,vi p),(3, .ptr 0 []),(5, .ptr 1 []),(8, .ptr 2 [])],[.box 170 (.agg [vb u,vi v]), .box 225 (.agg [vi b,vi h,vq a,vq g]), .box 225 (.agg [vi 0,vi 0,vq 0,vq 0])],[]⟩
theorem e10:x10=Ano:=by kernel_rfl
theorem e9:x9=Ar3:=Eq.trans (b:=Aqw x10) (by kernel_rfl) (by simp only[e10]<;>rfl)
theorem e8:x8=Acp:=Eq.trans (b:=Aqs x9) (by kernel_rfl) (by simp only[e9]<;>rfl)
theorem e7:x7=Ajc:=Eq.trans (b:=Ara x8) (by kernel_rfl) (by simp only[e8]<;>rfl)
theorem e6:x6=Ard:=Eq.trans (b:=Arm x7) (by kernel_rfl) (by simp only[e7]<;>rfl)
noncomputable def F:=u7 Ae2
theorem rn x:H.u P_ x=F x:=Eq.trans (b:=u7 (Arp x6) x) (by kernel_rfl) (by simp only[e6]<;>rfl)
noncomputable def c:Con:=⟨H.p,H.r,F⟩
theorem ok:ConOk P_ gl 167 c:=cr H func167 (.cons F118.ok (.cons F168.ok (.cons F200.ok (.cons F201.ok (.cons F240.ok .nil))))) (AnsOk.cons ent202 (AnsOk.cons ent239 AnsOk.nil)) rn
end F167
namespace F117
def Wi(j21:Int→Int→Int→UInt32→Int→(List (Int×Int×UInt64×UInt64×Unit))→LU→Int→Int→UInt64→UInt64→Option (LU×Int×Int))(j24:Int→LU→Option (LU×Int×Int))(a f:Int)(g:LB)(b k h:Int)(n:List (Int×Int×UInt64×UInt64×Unit))(m:LU):Option (LU×Int×Int):=
if(Bs h (Bk f a))then
(Att g b k (Ec (Ae k 81) b)).bind fun(ah,ae,af)=>
if(Ay af 0)then
some (([]:LU),0,af)
else
(Hx (Ay a 0)).bind fun _=>
(Ak n (Fz h a)).bind fun _=>
(fun ai:Option (LU×Int×Int)=>
both (
both (
(Ak n (Fz h a)).bind fun p=>
(fun ao:Option (LU×Int×Int)=>
bo (
ao)) (
(Ae2 ah ae 0 p.1 p.2.1 p.2.2.1 p.2.2.2.1).bind fun(w,v,aa,ab,ac,ad,y)=>
j21 k h y w v n m aa ab ac ad)) [
ai]) [
(Ak n (Fz h a)).bind fun p=>
(fun aj:Option (LU×Int×Int)=>
both (
bo (
aj)) [
aj]) (
(Ae2 ah ae 0 p.1 p.2.1 p.2.2.1 p.2.2.2.1).bind fun(w,v,aa,ab,ac,ad,y)=>
j21 k h y w v n m aa ab ac ad),
bo (
ai)]) (
(Ak n (Fz h a)).bind fun p=>
(Ae2 ah ae 0 p.1 p.2.1 p.2.2.1 p.2.2.2.1).bind fun(w,v,aa,ab,ac,ad,y)=>
j21 k h y w v n m aa ab ac ad)
else
j24 k m
theorem Aqf: @Wi= @Qu:=by
  unfold Wi Qu
  try simp only[Ass,Ah0,Ag3]
  all_goals
    repeat (refine funext fun _=>?_)
    repeat' first
      |with_reducible rfl
      |with_reducible refine Ly ?_ ?_
      |with_reducible refine Lq ?_ ?_ ?_
      |with_reducible refine Ll ?_ ?_ ?_ ?_
      |((with_reducible refine Qv ?_ ?_);focus (intro h;first|(subst h;rfl)|(simp only[h];rfl)|(simp[Cw,Ac,h];done)))
      |with_reducible refine Qj fun x=>?_
      |with_reducible refine Yg (fun _=>?_) (fun _=>?_)
      |(refine Gn (fun h=>by simp only[h,Qc,Ed,Dx,ite_self]) (fun x h=>?_);(try simp only[h,Ed]))
      |(refine Ja (fun h=>?_) (fun h=>?_)<;>simp only[h,if_true,if_false,Bool.false_eq_true])
abbrev R_:=(LU×Int×Int)
abbrev K_:=S→Option R_
noncomputable def H:Hd:=⟨[Si,Si, .agg [Sb,Si]],[Ov 154,Si,Si],(.seq .d (.seq .d (.cut [0,1,5,9] [] (.seq .d (.blk (.loop [0,1,5,9,19] [] .d))) (.seq .d (.seq .d (.cut [11,12] [] (.seq .d (.blk (.loop [0,5,9,11,12,28,29] [⟨11,[], .own 154 (.int .u32)⟩] (.seq .d (.seq .d (.seq (.blk (.seq .d (.seq .d (.seq .d (.cut [0,5,9,11,12,13,15,16,17,18,28,29] [] (.mode false) (.seq .d (.cut [0,5,9,11,12,16,28,29] [] .d .d))))))) .d)))))) .d)))))),⟨[(165,F165.c),(166,F166.c),(167,F167.c)],gl,false⟩,[],f117⟩
def t16(a f:Int)(g:LB)(b k h:Int)(n:List (Int×Int×UInt64×UInt64×Unit))(m:LU):S:=⟨[(0,vi a),(5, .ptr 0 []),(9, .ptr 1 []),(11, .own 2),(12,vi k),(28,vi (Bk f a)),(29,vi h)],[.box 170 (.agg [vb g,vi b]), .box 226 (.val (.vec 6 (.cons (.int .i64) (.cons (.int .i64) (.cons (.int .u64) (.cons (.int .u64) .nil))))) n),Av 154 m],[]⟩
def z16:Nat→S→Option R_:=H.i P_ [r,r,r,r,r,l,r,d]
def t13(a f:Int)(g:LB)(b u:Int)(o:List (Int×Int×UInt64×UInt64×Unit)):S:=⟨[(0,vi a),(1,vi f),(5, .ptr 0 []),(9, .ptr 1 []),(19,vi u)],[.box 170 (.agg [vb g,vi b]), .box 226 (.val (.vec 6 (.cons (.int .i64) (.cons (.int .i64) (.cons (.int .u64) (.cons (.int .u64) .nil))))) o)],[]⟩
def z13:Nat→S→Option R_:=H.i P_ [r,r,l,r,d]
def x24(k:Int)(m:LU):Option R_:=H.e P_ [r,r,r,r,r,r] ⟨[(11, .own 0),(12,vi k)],[Av 154 m],[]⟩
def x22(kn16:K_)(a f:Int)(g:LB)(b k v:Int)(w:UInt32)(h:Int)(ag:List (Int×Int×UInt64×UInt64×Unit))(m:LU):Option R_:=H.e P_ [r,r,r,r,r,l,r,d,(lp kn16),r,r,l,d,r,r,r,r,r,r] ⟨[(0,vi a),(5, .ptr 0 []),(9, .ptr 1 []),(11, .own 2),(12,vi (Ae k v)),(16,vu w),(28,vi (Bk f a)),(29,vi h)],[.box 170 (.agg [vb g,vi b]), .box 226 (.val (.vec 6 (.cons (.int .i64) (.cons (.int .i64) (.cons (.int .u64) (.cons (.int .u64) .nil))))) ag),Av 154 m],[]⟩
def x21(kn16:K_)(a f:Int)(g:LB)(b k h y:Int)(w:UInt32)(v:Int)(n:List (Int×Int×UInt64×UInt64×Unit))(m:LU)(aa ab:Int)(ac ad:UInt64):Option R_:=H.e P_ [r,r,r,r,r,l,r,d,(lp kn16),r,r,l,d,r,r,r,r] ⟨[(0,vi a),(5, .ptr 0 []),(9, .ptr 1 []),(11, .own 2),(12,vi k),(13,vi h),(15,vi y),(16,vu w),(17,vi v),(18, .ptr 3 []),(28,vi (Bk f a)),(29,vi h)],[.box 170 (.agg [vb g,vi b]), .box 226 (.val (.vec 6 (.cons (.int .i64) (.cons (.int .i64) (.cons (.int .u64) (.cons (.int .u64) .nil))))) n),Av 154 m, .box 225 (.agg [vi aa,vi ab,vq ac,vq ad])],[]⟩
def x16(a f:Int)(g:LB)(b k h:Int)(n:List (Int×Int×UInt64×UInt64×Unit))(m:LU):Option R_:=H.e P_ [r,r,r,r,r,l,r,d] (t16 a f g b k h n m)
def x15(a f:Int)(g:LB)(b:Int)(o:List (Int×Int×UInt64×UInt64×Unit)):Option R_:=H.e P_ [r,r,r] ⟨[(0,vi a),(1,vi f),(5, .ptr 0 []),(9, .ptr 1 [])],[.box 170 (.agg [vb g,vi b]), .box 226 (.val (.vec 6 (.cons (.int .i64) (.cons (.int .i64) (.cons (.int .u64) (.cons (.int .u64) .nil))))) o)],[]⟩
def x13(a f:Int)(g:LB)(b u:Int)(o:List (Int×Int×UInt64×UInt64×Unit)):Option R_:=H.e P_ [r,r,l,r,d] (t13 a f g b u o)
theorem e24:x24=Alb:=by kernel_rfl
theorem e22(kn16:K_)(a f:Int)(g:LB)(b:Int):x22 kn16 a f g b=Yt (fun k h n m=>kn16 (t16 a f g b k h n m)) a f g b:=by kernel_rfl
theorem e21(kn16:K_)(a f:Int)(g:LB)(b:Int):x21 kn16 a f g b=Py (fun k h n m=>kn16 (t16 a f g b k h n m)) a f g b:=Eq.trans (b:=Qk (x22 kn16 a f g b) a f g b) (by kernel_rfl) (by simp only[e22]<;>rfl)
theorem i16(a f:Int)(g:LB)(b:Int):∀(q:Nat) (k h:Int) (n:List (Int×Int×UInt64×UInt64×Unit)) (m:LU),z16 q (t16 a f g b k h n m)=Lk a f g b q k h n m:=
 ind (fun _ _ _ _=>by kernel_rfl) fun q ih k h n m=>Eq.trans (b:=Wi (x21 (z16 q) a f g b) x24 a f g b k h n m) (by kernel_rfl) (by rw[Aqf];simp only[e21,e24,ih]<;>rfl)
theorem e16:x16=Ajy:=by funext a f g b k h n m;exact Eq.trans (by kernel_rfl) ((i16 a f g b Cv k h n m).trans (by rw[Ar];rfl))
theorem e15:x15=Yj:=Eq.trans (b:=Akx x16) (by kernel_rfl) (by simp only[e16]<;>rfl)
theorem i13(a f:Int)(g:LB)(b:Int):∀(q:Nat) (u:Int) (o:List (Int×Int×UInt64×UInt64×Unit)),z13 q (t13 a f g b u o)=Yq a f g b q u o:=
 ind (fun _ _=>by kernel_rfl) fun q ih u o=>Eq.trans (b:=Alv x15 (fun u o=>(z13 q) (t13 a f g b u o)) a f g b u o) (by kernel_rfl) (by simp only[e15,ih]<;>rfl)
theorem e13:x13=Qe:=by funext a f g b u o;exact Eq.trans (by kernel_rfl) ((i13 a f g b Cv u o).trans (by rw[Ar];rfl))
noncomputable def F:=u4 Acn
theorem rn x:H.u P_ x=F x:=Eq.trans (b:=u4 (Aar x13) x) (by kernel_rfl) (by simp only[e13]<;>rfl)
noncomputable def c:Con:=⟨H.p,H.r,F⟩
theorem ok:ConOk P_ gl 117 c:=co H func117 (.cons F165.ok (.cons F166.ok (.cons F167.ok .nil))) rn
end F117
namespace F172
noncomputable def H:Hd:=⟨[Su],[Sx], .d,⟨[],gl,false⟩,[],f172⟩
noncomputable def F:=Vn
theorem rn x:H.u P_ x=F x:=by kernel_rfl
noncomputable def c:Con:=⟨H.p,H.r,F⟩
theorem ok:ConOk P_ gl 172 c:=co H func172 .nil rn
end F172
namespace F206
noncomputable def H:Hd:=⟨[.agg [Si, .lf (.vec 16 (.int .i32)) none, .lf (.vec 16 (.int .i32)) none],Sx],[Sx, .agg [Si, .lf (.vec 16 (.int .i32)) none, .lf (.vec 16 (.int .i32)) none],Si], .d,⟨[(243,F243.c),(244,F244.c)],gl,false⟩,[],f206⟩
noncomputable def F:=u4 Au1
theorem rn x:H.u P_ x=F x:=by kernel_rfl
noncomputable def c:Con:=⟨H.p,H.r,F⟩
theorem ok:ConOk P_ gl 206 c:=co H func206 (.cons F243.ok (.cons F244.ok .nil)) rn
end F206
namespace F171
def Akj(a:Int)(b:Int32)(f:Int)(g h:LX)(o:Int32):Option (Int32×Int×Int32×Int×LX×LX×Int):=
(Tz a b f g h).bind fun k=>
if(Ay k 0)then
some (0,0,0,0,(List.replicate 16 (0:Int32)),(List.replicate 16 (0:Int32)),k)
else
(Uz a b).bind fun(m,y)=>
(Au1 f g h o).bind fun(n,p,u,v,w)=>
(fun aa:Option (Int32×Int×Int32×Int×LX×LX×Int)=>
bo (
aa)) (
some ((Ae n m),a,(Ae n m),p,u,v,w))
theorem Bbf: @Akj= @Kh:=by
  unfold Akj Kh
  simp only[Ass,Ah0,Ag3]
noncomputable def H:Hd:=⟨[.agg [Si,Sx, .agg [Si, .lf (.vec 16 (.int .i32)) none, .lf (.vec 16 (.int .i32)) none]],Sx],[Sx, .agg [Si,Sx, .agg [Si, .lf (.vec 16 (.int .i32)) none, .lf (.vec 16 (.int .i32)) none]],Si],(.seq .d (.seq .d (.seq .d (.seq .d (.seq (.mode false) .d))))),⟨[(204,F204.c),(205,F205.c),(206,F206.c)],gl,false⟩,[],f171⟩
noncomputable def F:=u6 Kh
theorem rn x:H.u P_ x=F x:=Eq.trans (b:=u6 Akj x) (by kernel_rfl) (by rw[Bbf];rfl)
noncomputable def c:Con:=⟨H.p,H.r,F⟩
theorem ok:ConOk P_ gl 171 c:=co H func171 (.cons F204.ok (.cons F205.ok (.cons F206.ok .nil))) rn
end F171
namespace F173
abbrev R_:=(LX×Int)
abbrev K_:=S→Option R_
noncomputable def H:Hd:=⟨[Si,Sw],[Ow 21,Si],(.seq .d (.seq .d (.seq .d (.cut [7] [] (.seq .d (.blk (.loop [0,7,8] [] (.seq .d (.cut [0,7,8] [] (.blk (.keep [0,7,8,24,25,26,27,28,29] true)) .d))))) .d)))),⟨[(190,F190.c),(207,F207.c)],gl,true⟩,[(208,(.seq .d (.cut [0,2] [] .d (.seq .d (.blk (.loop [0,3] [] .d))))))],f173⟩
def t18(b a g:Int)(h:LX):S:=⟨[(0, .view true 0 [] (.int .i32) a ((Ae a b)-a)),(3,vi g)],[Aw 21 h],[[(0,vi b),(7, .own 0),(8,vi a),(24, .own 0),(25,vi a),(26,vi a),(27,vi b),(28,vi (Ae a b)),(29, .view true 0 [] (.int .i32) a ((Ae a b)-a))]]⟩
def z18(kn12:K_):Nat→S→Option R_:=H.i P_ [r,r,r,l,r,d,(lp kn12),r,l,d,(call 6 208),r,r,r,d]
def t12(b a:Int)(f:LX):S:=⟨[(0,vi b),(7, .own 0),(8,vi a)],[Aw 21 f],[]⟩
def z12:Nat→S→Option R_:=H.i P_ [r,r,r,l,r,d]
def x22(f:LX):Option R_:=H.e P_ [r,r,r,r] ⟨[(7, .own 0)],[Aw 21 f],[]⟩
def x20(kn12:K_)(b a:Int)(h:LX):Option R_:=H.e P_ [r,r,r,l,r,d,(lp kn12),r,r] ⟨[(0,vi b),(7, .own 0),(8,vi a)],[Aw 21 h],[]⟩
def x18(kn12:K_)(b a g:Int)(h:LX):Option R_:=H.e P_ [r,r,r,l,r,d,(lp kn12),r,l,d,(call 6 208),r,r,r,d] (t18 b a g h)
def x17(kn12:K_)(b a:Int)(k:LX):Option R_:=H.e P_ [r,r,r,l,r,d,(lp kn12),r,l,d,(call 6 208),r,r] ⟨[(0, .view true 0 [] (.int .i32) a ((Ae a b)-a)),(2,vi (Ah ((Ae a b)-a) (1:Int)))],[Aw 21 k],[[(0,vi b),(7, .own 0),(8,vi a),(24, .own 0),(25,vi a),(26,vi a),(27,vi b),(28,vi (Ae a b)),(29, .view true 0 [] (.int .i32) a ((Ae a b)-a))]]⟩
def x12(b a:Int)(f:LX):Option R_:=H.e P_ [r,r,r,l,r,d] (t12 b a f)
theorem e22:x22=Az7:=by kernel_rfl
theorem e20(kn12:K_)(b:Int):x20 kn12 b=Are (fun a f=>kn12 (t12 b a f)) b:=by kernel_rfl
theorem i18(kn12:K_)(b a:Int):∀(q:Nat) (g:Int) (h:LX),z18 kn12 q (t18 b a g h)=Vj (fun a f=>kn12 (t12 b a f)) b a q g h:=
 ind (fun _ _=>by kernel_rfl) fun q ih g h=>Eq.trans (b:=Ai7 (x20 kn12 b) (fun g h=>(z18 kn12 q) (t18 b a g h)) b a g h) (by kernel_rfl) (by simp only[e20,ih]<;>rfl)
theorem e18(kn12:K_)(b:Int):x18 kn12 b=Ark (fun a f=>kn12 (t12 b a f)) b:=by funext a g h;exact Eq.trans (by kernel_rfl) ((i18 kn12 b a Cv g h).trans (by rw[Ar];rfl))
theorem e17(kn12:K_)(b:Int):x17 kn12 b=Ai0 (fun a f=>kn12 (t12 b a f)) b:=Eq.trans (b:=Aqd (x18 kn12 b) b) (by kernel_rfl) (by simp only[e18]<;>rfl)
theorem i12(b:Int):∀(q:Nat) (a:Int) (f:LX),z12 q (t12 b a f)=Qt b q a f:=
 ind (fun _ _=>by kernel_rfl) fun q ih a f=>Eq.trans (b:=Arv (x17 (z12 q) b) x22 b a f) (by kernel_rfl) (by simp only[e17,e22,ih]<;>rfl)
theorem e12:x12=Aq7:=by funext b a f;exact Eq.trans (by kernel_rfl) ((i12 b Cv a f).trans (by rw[Ar];rfl))
noncomputable def F:=u2 Aze
theorem rn x:H.u P_ x=F x:=Eq.trans (b:=u2 (Avn x12) x) (by kernel_rfl) (by simp only[e12]<;>rfl)
noncomputable def c:Con:=⟨H.p,H.r,F⟩
theorem ok:ConOk P_ gl 173 c:=cr H func173 (.cons F190.ok (.cons F207.ok .nil)) (AnsOk.cons ent208 AnsOk.nil) rn
end F173
namespace F119
def Uc(j16:Int→Int32→Int→(List (Int×Int32×(Int×LX×LX×Unit)×Unit))→LX→Int→Int32→Int→LX→LX→Option (LX×Int))(j18:Int→Int→LX→Option (LX×Int))(f:LU)(a b g:Int)(h:List (Int×Int32×(Int×LX×LX×Unit)×Unit))(k:LX):Option (LX×Int):=
if(Bs g (Ac f))then
(Ak f g).bind fun ag=>
(Hx (Ay a 0)).bind fun _=>
(Ak h (Fz g a)).bind fun _=>
both (
(Ak h (Fz g a)).bind fun m=>
both (
(Vn ag).bind fun ae=>
(fun ao:Option (LX×Int)=>
bo (
ao)) (
(Kh m.1 m.2.1 m.2.2.1.1 m.2.2.1.2.1 m.2.2.1.2.2.1 ae).bind fun(w,y,v,aa,ab,ac,u)=>
j16 g w u h k y v aa ab ac)) [
(Vn ag).bind fun ae=>
(Kh m.1 m.2.1 m.2.2.1.1 m.2.2.1.2.1 m.2.2.1.2.2.1 ae).bind fun(w,y,v,aa,ab,ac,u)=>
j16 g w u h k y v aa ab ac]) [
(Vn ag).bind fun af=>
both (
(Ak h (Fz g a)).bind fun ad=>
(fun ap:Option (LX×Int)=>
bo (
ap)) (
(Kh ad.1 ad.2.1 ad.2.2.1.1 ad.2.2.1.2.1 ad.2.2.1.2.2.1 af).bind fun(w,y,v,aa,ab,ac,u)=>
j16 g w u h k y v aa ab ac)) [
(Ak h (Fz g a)).bind fun ad=>
(Kh ad.1 ad.2.1 ad.2.2.1.1 ad.2.2.1.2.1 ad.2.2.1.2.2.1 af).bind fun(w,y,v,aa,ab,ac,u)=>
j16 g w u h k y v aa ab ac],
both (
(Ak h (Fz g a)).bind fun m=>
(Vn ag).bind fun ae=>
(Kh m.1 m.2.1 m.2.2.1.1 m.2.2.1.2.1 m.2.2.1.2.2.1 ae).bind fun(w,y,v,aa,ab,ac,u)=>
j16 g w u h k y v aa ab ac) [
(Vn ag).bind fun af=>
(Ak h (Fz g a)).bind fun ad=>
(Kh ad.1 ad.2.1 ad.2.2.1.1 ad.2.2.1.2.1 ad.2.2.1.2.2.1 af).bind fun(w,y,v,aa,ab,ac,u)=>
j16 g w u h k y v aa ab ac]]
else
j18 a b k
theorem Apc: @Uc= @Kq:=by
  unfold Uc Kq
  try simp only[Ass,Ah0,Ag3]
  all_goals
    repeat (refine funext fun _=>?_)
    repeat' first
      |with_reducible rfl
      |with_reducible refine Ly ?_ ?_
      |with_reducible refine Lq ?_ ?_ ?_
      |with_reducible refine Ll ?_ ?_ ?_ ?_
      |((with_reducible refine Qv ?_ ?_);focus (intro h;first|(subst h;rfl)|(simp only[h];rfl)|(simp[Cw,Ac,h];done)))
      |with_reducible refine Qj fun x=>?_
      |with_reducible refine Yg (fun _=>?_) (fun _=>?_)
      |(refine Gn (fun h=>by simp only[h,Qc,Ed,Dx,ite_self]) (fun x h=>?_);(try simp only[h,Ed]))
      |(refine Ja (fun h=>?_) (fun h=>?_)<;>simp only[h,if_true,if_false,Bool.false_eq_true])
abbrev R_:=(LX×Int)
abbrev K_:=S→Option R_
noncomputable def H:Hd:=⟨[.agg [Si,Si], .lf (.vec 16 (.int .i32)) none,Sv],[Ow 21,Si],(.seq .d (.seq .d (.cut [2,3,8] [] (.seq .d (.blk (.loop [2,3,4,8,20] [] .d))) (.seq .d (.cut [3,10] [] (.seq .d (.blk (.loop [3,8,10,33,34,35] [⟨10,[], .own 21 (.int .i32)⟩] (.seq .d (.seq .d (.seq (.blk (.seq .d (.seq .d (.cut [3,8,10,13,14,15,16,33,34,35] [] (.mode false) .d)))) .d)))))) .d))))),⟨[(67,F67.c),(170,F170.c),(171,F171.c),(172,F172.c),(173,F173.c)],gl,false⟩,[],f119⟩
def t13(f:LU)(a b g:Int)(h:List (Int×Int32×(Int×LX×LX×Unit)×Unit))(k:LX):S:=⟨[(3, .ptr 0 []),(8, .ptr 1 []),(10, .own 2),(33,vv f),(34,vi (Ac f)),(35,vi g)],[.box 60 (.agg [vi a,vi b]), .box 237 (.val (.vec 6 (.cons (.int .i64) (.cons (.int .i32) (.cons (.cons (.int .i64) (.cons (.vec 16 (.int .i32)) (.cons (.vec 16 (.int .i32)) .nil))) .nil)))) h),Aw 21 k],[]⟩
def z13:Nat→S→Option R_:=H.i P_ [r,r,r,r,l,r,d]
def t10(f:LU)(a b:Int)(o:LX)(p:Int)(n:List (Int×Int32×(Int×LX×LX×Unit)×Unit)):S:=⟨[(2,vv f),(3, .ptr 0 []),(4, .ptr 1 []),(8, .ptr 2 []),(20,vi p)],[.box 60 (.agg [vi a,vi b]), .box 110 (.val (.vec 16 (.int .i32)) o), .box 237 (.val (.vec 6 (.cons (.int .i64) (.cons (.int .i32) (.cons (.cons (.int .i64) (.cons (.vec 16 (.int .i32)) (.cons (.vec 16 (.int .i32)) .nil))) .nil)))) n)],[]⟩
def z10:Nat→S→Option R_:=H.i P_ [r,r,l,r,d]
def x18(a b:Int)(k:LX):Option R_:=H.e P_ [r,r,r,r,r] ⟨[(3, .ptr 0 []),(10, .own 1)],[.box 60 (.agg [vi a,vi b]),Aw 21 k],[]⟩
def x16(kn13:K_)(a:Int)(f:LU)(b g:Int)(w:Int32)(u:Int)(h:List (Int×Int32×(Int×LX×LX×Unit)×Unit))(k:LX)(y:Int)(v:Int32)(aa:Int)(ab ac:LX):Option R_:=H.e P_ [r,r,r,r,l,r,d,(lp kn13),r,r,l,d,r,r,r] ⟨[(3, .ptr 0 []),(8, .ptr 1 []),(10, .own 2),(13, .ptr 1 [.idx (Fz g a) 35]),(14,vx w),(15, .ptr 3 []),(16,vi u),(33,vv f),(34,vi (Ac f)),(35,vi g)],[.box 60 (.agg [vi a,vi b]), .box 237 (.val (.vec 6 (.cons (.int .i64) (.cons (.int .i32) (.cons (.cons (.int .i64) (.cons (.vec 16 (.int .i32)) (.cons (.vec 16 (.int .i32)) .nil))) .nil)))) h),Aw 21 k, .box 236 (.agg [vi y,vx v, .agg [vi aa, .val (.vec 16 (.int .i32)) ab, .val (.vec 16 (.int .i32)) ac]])],[]⟩
def x13(f:LU)(a b g:Int)(h:List (Int×Int32×(Int×LX×LX×Unit)×Unit))(k:LX):Option R_:=H.e P_ [r,r,r,r,l,r,d] (t13 f a b g h k)
def x12(f:LU)(a b:Int)(n:List (Int×Int32×(Int×LX×LX×Unit)×Unit)):Option R_:=H.e P_ [r,r,r] ⟨[(2,vv f),(3, .ptr 0 []),(8, .ptr 1 [])],[.box 60 (.agg [vi a,vi b]), .box 237 (.val (.vec 6 (.cons (.int .i64) (.cons (.int .i32) (.cons (.cons (.int .i64) (.cons (.vec 16 (.int .i32)) (.cons (.vec 16 (.int .i32)) .nil))) .nil)))) n)],[]⟩
def x10(f:LU)(a b:Int)(o:LX)(p:Int)(n:List (Int×Int32×(Int×LX×LX×Unit)×Unit)):Option R_:=H.e P_ [r,r,l,r,d] (t10 f a b o p n)
theorem e18:x18=Kr:=by kernel_rfl
theorem e16(kn13:K_)(f:LU)(a b:Int):x16 kn13 a f b=Wx (fun g h k=>kn13 (t13 f a b g h k)) a f b:=by kernel_rfl
theorem i13(f:LU)(a b:Int):∀(q:Nat) (g:Int) (h:List (Int×Int32×(Int×LX×LX×Unit)×Unit)) (k:LX),z13 q (t13 f a b g h k)=Hy f a b q g h k:=
 ind (fun _ _ _=>by kernel_rfl) fun q ih g h k=>Eq.trans (b:=Uc (x16 (z13 q) a f b) x18 f a b g h k) (by kernel_rfl) (by rw[Apc];simp only[e16,e18,ih]<;>rfl)
theorem e13:x13=Ah4:=by funext f a b g h k;exact Eq.trans (by kernel_rfl) ((i13 f a b Cv g h k).trans (by rw[Ar];rfl))
theorem e12:x12=Wy:=Eq.trans (b:=Ais x13) (by kernel_rfl) (by simp only[e13]<;>rfl)
theorem i10(f:LU)(a b:Int)(o:LX):∀(q:Nat) (p:Int) (n:List (Int×Int32×(Int×LX×LX×Unit)×Unit)),z10 q (t10 f a b o p n)=Wp f a b o q p n:=
 ind (fun _ _=>by kernel_rfl) fun q ih p n=>Eq.trans (b:=Ah5 x12 (fun p n=>(z10 q) (t10 f a b o p n)) f a b o p n) (by kernel_rfl) (by simp only[e12,ih]<;>rfl)
theorem e10:x10=Oi:=by funext f a b o p n;exact Eq.trans (by kernel_rfl) ((i10 f a b o Cv p n).trans (by rw[Ar];rfl))
noncomputable def F:=u4 Ra
theorem rn x:H.u P_ x=F x:=Eq.trans (b:=u4 (Yv x10) x) (by kernel_rfl) (by simp only[e10]<;>rfl)
noncomputable def c:Con:=⟨H.p,H.r,F⟩
theorem ok:ConOk P_ gl 119 c:=co H func119 (.cons F67.ok (.cons F170.ok (.cons F171.ok (.cons F172.ok (.cons F173.ok .nil))))) rn
end F119
namespace F66
noncomputable def H:Hd:=⟨[.agg [Si,Si], .lf (.vec 16 (.int .i32)) none,Si,Sb],[Ow 21,Si], .d,⟨[(114,F114.c),(115,F115.c),(116,F116.c),(117,F117.c),(118,F118.c),(119,F119.c)],gl,false⟩,[],f66⟩
noncomputable def F:=u5 Uh
theorem rn x:H.u P_ x=F x:=by kernel_rfl
noncomputable def c:Con:=⟨H.p,H.r,F⟩
theorem ok:ConOk P_ gl 66 c:=co H func66 (.cons F114.ok (.cons F115.ok (.cons F116.ok (.cons F117.ok (.cons F118.ok (.cons F119.ok .nil)))))) rn
end F66
namespace F25
abbrev R_:=(LB×Int)
abbrev K_:=S→Option R_
noncomputable def H:Hd:=⟨[Si,Sw],[Ob 5,Si],(.seq .d (.seq .d (.seq .d (.cut [7] [] (.seq .d (.blk (.loop [0,7,17,18,19] [⟨7,[], .own 5 (.int .u8)⟩] (.seq .d (.seq .d (.cut [0,7,17,18,19] [] (.blk (.seq .d (.cut [0,7,9,17,18,19] [] .d (.seq .d (.blk (.loop [0,7,9,17,18,19,28,29] [] .d)))))) .d)))))) .d)))),⟨[(67,F67.c)],gl,false⟩,[],f25⟩
def t26(b:Int)(a:LX)(k:Int32)(f m:Int)(h:LB):S:=⟨[(0,vi b),(7, .own 0),(9,vx k),(17,vw a),(18,vi (Ac a)),(19,vi f),(28,vi (Bw b (8:Int))),(29,vi m)],[Ab 5 h],[]⟩
def z26(kn16:K_):Nat→S→Option R_:=H.i P_ [r,r,r,l,r,d,(lp kn16),r,r,l,d,r,r,r,d]
def t16(b:Int)(a:LX)(f:Int)(g:LB):S:=⟨[(0,vi b),(7, .own 0),(17,vw a),(18,vi (Ac a)),(19,vi f)],[Ab 5 g],[]⟩
def z16:Nat→S→Option R_:=H.i P_ [r,r,r,l,r,d]
def x30(g:LB):Option R_:=H.e P_ [r,r,r,r] ⟨[(7, .own 0)],[Ab 5 g],[]⟩
def x28(kn16:K_)(b:Int)(a:LX)(f:Int)(h:LB):Option R_:=H.e P_ [r,r,r,l,r,d,(lp kn16),r,r,r] ⟨[(0,vi b),(7, .own 0),(17,vw a),(18,vi (Ac a)),(19,vi f)],[Ab 5 h],[]⟩
def x26(kn16:K_)(b:Int)(a:LX)(k:Int32)(f m:Int)(h:LB):Option R_:=H.e P_ [r,r,r,l,r,d,(lp kn16),r,r,l,d,r,r,r,d] (t26 b a k f m h)
def x25(kn16:K_)(b:Int)(a:LX)(f:Int)(g:LB)(k:Int32):Option R_:=H.e P_ [r,r,r,l,r,d,(lp kn16),r,r,l,d,r,r] ⟨[(0,vi b),(7, .own 0),(9,vx k),(17,vw a),(18,vi (Ac a)),(19,vi f)],[Ab 5 g],[]⟩
def x16(b:Int)(a:LX)(f:Int)(g:LB):Option R_:=H.e P_ [r,r,r,l,r,d] (t16 b a f g)
theorem e30:x30=As1:=by kernel_rfl
theorem e28(kn16:K_)(b:Int)(a:LX):x28 kn16 b a=Ahg (fun f g=>kn16 (t16 b a f g)) b a:=by kernel_rfl
theorem i26(kn16:K_)(b:Int)(a:LX)(k:Int32)(f:Int):∀(q:Nat) (m:Int) (h:LB),z26 kn16 q (t26 b a k f m h)=Ic (fun f g=>kn16 (t16 b a f g)) b a k f q m h:=
 ind (fun _ _=>by kernel_rfl) fun q ih m h=>Eq.trans (b:=Xw (x28 kn16 b a) (fun m h=>(z26 kn16 q) (t26 b a k f m h)) b a k f m h) (by kernel_rfl) (by simp only[e28,ih]<;>rfl)
theorem e26(kn16:K_)(b:Int)(a:LX):x26 kn16 b a=Aha (fun f g=>kn16 (t16 b a f g)) b a:=by funext k f m h;exact Eq.trans (by kernel_rfl) ((i26 kn16 b a k f Cv m h).trans (by rw[Ar];rfl))
theorem e25(kn16:K_)(b:Int)(a:LX):x25 kn16 b a=Ke (fun f g=>kn16 (t16 b a f g)) b a:=Eq.trans (b:=Ahn (x26 kn16 b a) b a) (by kernel_rfl) (by simp only[e26]<;>rfl)
theorem i16(b:Int)(a:LX):∀(q:Nat) (f:Int) (g:LB),z16 q (t16 b a f g)=Fl b a q f g:=
 ind (fun _ _=>by kernel_rfl) fun q ih f g=>Eq.trans (b:=Xy (x25 (z16 q) b a) x30 b a f g) (by kernel_rfl) (by simp only[e25,e30,ih]<;>rfl)
theorem e16:x16=Ar4:=by funext b a f g;exact Eq.trans (by kernel_rfl) ((i16 b a Cv f g).trans (by rw[Ar];rfl))
noncomputable def F:=u2 Ut
theorem rn x:H.u P_ x=F x:=Eq.trans (b:=u2 (Aj5 x16) x) (by kernel_rfl) (by simp only[e16]<;>rfl)
noncomputable def c:Con:=⟨H.p,H.r,F⟩
theorem ok:ConOk P_ gl 25 c:=co H func25 (.cons F67.ok .nil) rn
end F25
namespace F132
abbrev R_:=Int
noncomputable def H:Hd:=⟨[Sl,Si],[Si],(.seq .d (.cut [] [] (.seq .d (.blk (.loop [0,1,7,8] [] .d))) .d)),⟨[],gl,false⟩,[],f132⟩
def t4(a:LI)(b f:Int):S:=⟨[(0,vl a),(1,vi b),(7,vi (Ac a)),(8,vi f)],[],[]⟩
def z4:Nat→S→Option R_:=H.i P_ [r,l,r,d]
def x6:Option R_:=H.e P_ [r,r] ⟨[],[],[]⟩
def x4(a:LI)(b f:Int):Option R_:=H.e P_ [r,l,r,d] (t4 a b f)
theorem e6:x6=Ld:=by kernel_rfl
theorem i4(a:LI)(b:Int):∀(q:Nat) (f:Int),z4 q (t4 a b f)=Bi a b q f:=
 ind (fun _=>by kernel_rfl) fun q ih f=>Eq.trans (b:=Dr x6 (fun f=>(z4 q) (t4 a b f)) a b f) (by kernel_rfl) (by simp only[e6,ih]<;>rfl)
theorem e4:x4=Gh:=by funext a b f;exact Eq.trans (by kernel_rfl) ((i4 a b Cv f).trans (by rw[Ar];rfl))
noncomputable def F:=u2 Hq
theorem rn x:H.u P_ x=F x:=Eq.trans (b:=u2 (Gj x4) x) (by kernel_rfl) (by simp only[e4]<;>rfl)
noncomputable def c:Con:=⟨H.p,H.r,F⟩
theorem ok:ConOk P_ gl 132 c:=co H func132 .nil rn
end F132
namespace F86
noncomputable def H:Hd:=⟨[Sl,Si],[Sz], .d,⟨[(132,F132.c)],gl,false⟩,[],f86⟩
noncomputable def F:=u2 Gi
theorem rn x:H.u P_ x=F x:=by kernel_rfl
noncomputable def c:Con:=⟨H.p,H.r,F⟩
theorem ok:ConOk P_ gl 86 c:=co H func86 (.cons F132.ok .nil) rn
end F86
namespace F44
noncomputable def H:Hd:=⟨[Si],[Sz], .d,⟨[(86,F86.c)],gl,false⟩,[],f44⟩
noncomputable def F:=Nw
theorem rn x:H.u P_ x=F x:=by kernel_rfl
noncomputable def c:Con:=⟨H.p,H.r,F⟩
theorem ok:ConOk P_ gl 44 c:=co H func44 (.cons F86.ok .nil) rn
end F44
namespace F15
def Yl(j28:Bool→Int→Option Int)(w ah:Int)(g a:LB)(k p o u v b:Int)(m:Bool)(n:Int)(ao:LX)(f:LI)(h:LB):Option Int:=
if(Ay ah 0)then
(Ag ah).bind fun(br,bs)=>
j28 br bs
else
(Ut o ao).bind fun(bt,be)=>
if(Ay be 0)then
(Ag be).bind fun(bu,bv)=>
j28 bu bv
else
(Cw h bt).bind fun dv=>
(fun fa:Option Int=>
bo (
fa)) (
(Bc a w (Ac a)).bind fun dw=>
j28 false 0)
theorem As8: @Yl= @Sf:=by
  unfold Yl Sf
  simp only[Ass,Ah0,Ag3]
def Acj(j13:Bool→Int→Option Int)(j12:LB→LB→Int→Int→Int→Int→Int→Int→Bool→Int→LI→LB→Option Int)(j25:Bool→Int→Option Int)(j23:LB→LB→Int→Int→Int→Int→Int→Int→Bool→Int→LI→LB→Option Int)(j24:LB→LB→Int→Int→Int→Int→Int→Int→Bool→Int→LI→LB→Int→Option Int)(j28:Bool→Int→Option Int)(j26:Int→LB→LB→Int→Int→Int→Int→Int→Int→Bool→Int→LX→LI→LI→LB→Option Int)(j22:Bool→Option Int)(j21:Option Int)(aq ar:LB)(au av aw ax ay:Int)(az:LI)(ai:Int)(aj:LB)(ac:Bool)(y:Int):Option Int:=
if(Di (Ac aq) 64)then
some 8
else
if((geq y 0)&&(!ac))then
(De aq ar au av aw ax ay az ai aj ac y).bind fun(g,a,k,p,o,u,v,f,b,h,m,n)=>
(Vr aq ar au av aw ax ay az ai aj ac y).bind fun bw=>
if bw then
if(geq k 0)then
(Js a).bind fun(al,ba)=>
if(geq ba 24)then
j13 true 0
else
if(Ay ba 0)then
(Ag ba).bind fun(bx,bz)=>
j13 bx bz
else
(Bc a al (Ac a)).bind fun da=>
(Nm da).bind fun an=>
if an then
j13 true 0
else
(Bc a al (Ac a)).bind fun db=>
(Nh db).bind fun(ae,af,aa,ag,ab,bb)=>
if(geq bb 24)then
j13 true 0
else
if(Ay bb 0)then
(Ag bb).bind fun(dc,dd)=>
j13 dc dd
else
both (
(Bc a (Ae al 22) (Ac a)).bind fun ak=>
(fun fb:Option Int=>
bo (
fb)) (
j12 g ak ae af aa ag ab b m n f h)) [
(Bc a (Ae al 22) (Ac a)).bind fun ak=>
j12 g ak ae af aa ag ab b m n f h]
else
if(geq (Ac f) 0)then
if(geq k 2)then
if(Bs (Ac a) 8)then
j25 true 0
else
j23 g a k p o u v b m n f h
else
j24 g a k p o u v b m n f h 0
else
if(Bs b (Ac f))then
(Ak f b).bind fun _=>
(Ak f b).bind fun w=>
if(Bs (Ac a) w)then
j28 true 0
else
(Rg g).bind fun(ap,am)=>
if(Ay am 0)then
(Ag am).bind fun(de,df)=>
j28 de df
else
(Dk k p o u v).bind fun(ad,dg)=>
if((Ay dg 0)||(Il b (Ac ad)))then
(Ag 8).bind fun(dh,di)=>
j28 dh di
else
j26 w g a k p o u v b m n ap ad f h
else
if(Di (Ac a) 4000)then
(Ag 38).bind fun(dj,bf)=>
j22 ((dj==true)&&((geq bf 0)&&true))
else
j21
else
j22 false
else
if((geq (Ac ar) 0)&&(geq (Ac az) 0))then
if((((geq au 0)&&((geq av 0)&&((geq aw 0)&&((geq ax 0)&&((geq ay 0)&&true)))))&&(geq ai 0))&&(gle (Ac aj) 12000))then
if(geq y 0)then
j22 true
else
if(!ac)then
(Nw y).bind fun dk=>
j22 dk
else
j22 false
else
j22 false
else
if((false&&(geq ai 0))&&(gle (Ac aj) 12000))then
if(geq y 0)then
j22 true
else
if(!ac)then
(Nw y).bind fun dl=>
j22 dl
else
j22 false
else
j22 false
theorem Atv: @Acj= @Vi:=by
  unfold Acj Vi
  try simp only[Ass,Ah0,Ag3]
  all_goals
    repeat (refine funext fun _=>?_)
    repeat' first
      |with_reducible rfl
      |with_reducible refine Ly ?_ ?_
      |with_reducible refine Lq ?_ ?_ ?_
      |with_reducible refine Ll ?_ ?_ ?_ ?_
      |((with_reducible refine Qv ?_ ?_);focus (intro h;first|(subst h;rfl)|(simp only[h];rfl)|(simp[Cw,Ac,h];done)))
      |with_reducible refine Qj fun x=>?_
      |with_reducible refine Yg (fun _=>?_) (fun _=>?_)
      |(refine Gn (fun h=>by simp only[h,Qc,Ed,Dx,ite_self]) (fun x h=>?_);(try simp only[h,Ed]))
      |(refine Ja (fun h=>?_) (fun h=>?_)<;>simp only[h,if_true,if_false,Bool.false_eq_true])
abbrev R_:=Int
noncomputable def H:Hd:=⟨[.agg [Ss,Sb, .agg [Si,Si,Si,Si,Si],Sl,Si,Sb,Sz,Si]],[Si],(.seq .d (.seq .d (.seq .d (.cut [3] [] (.seq .d (.cond (.seq .d (.keep [3,21,22,23,24,25] false)) .d)) .d)))),⟨[(25,F25.c),(39,F39.c),(43,F43.c),(44,F44.c),(55,Xi),(56,F56.c),(57,F57.c),(58,F58.c),(59,F59.c),(65,F65.c),(66,F66.c),(82,F82.c),(84,F84.c),(130,F130.c),(131,F131.c)],gl,false⟩,[(38,(.seq .d (.cut [2] [] (.blk (.seq .d (.cond (.cut [2] [] (.keep [2,11] true) .d) (.seq .d (.cond (.cut [2] [] (.keep [2,20] true) .d) (.seq .d (.cond (.cut [2] [] (.keep [2,33] true) .d) .d))))))) .d))),(79,(.seq .d (.seq .d (.seq .d (.seq .d (.seq .d (.cut [0,2,5] [] (.mode false) .d))))))),(80,(.seq .d (.seq .d (.cut [0,2,3] [⟨0,[1], .ro (.int .u8)⟩] (.seq .d (.cond (.seq .d (.cut [0,2,3] [⟨0,[1], .ro (.int .u8)⟩,⟨9,[1], .ro (.int .u8)⟩,⟨10,[1], .ro (.int .u8)⟩,⟨15,[1], .ro (.int .u8)⟩,⟨16,[1], .ro (.int .u8)⟩,⟨18,[], .ro (.int .u8)⟩] .d (.cut [0,2,3,4,5] [] .d .d))) .d)) .d)))),(81,(.seq .d (.seq .d (.seq .d (.seq .d (.seq .d (.seq .d (.cut [0,2,3,4,6] [⟨0,[1], .ro (.int .u8)⟩,⟨9,[1], .ro (.int .u8)⟩,⟨10,[1], .ro (.int .u8)⟩,⟨13,[1], .ro (.int .u8)⟩,⟨14,[1], .ro (.int .u8)⟩,⟨19,[1], .ro (.int .u8)⟩,⟨20,[1], .ro (.int .u8)⟩,⟨22,[], .ro (.int .u8)⟩,⟨28,[1], .ro (.int .u8)⟩,⟨29,[1], .ro (.int .u8)⟩,⟨40,[1], .ro (.int .u8)⟩,⟨41,[1], .ro (.int .u8)⟩] .d (.cut [0,2,3,5,7] [] .d (.seq .d (.seq .d (.seq .d (.seq .d (.seq (.mode false) .d))))))))))))))],f15⟩
def x22(bi:Bool):Option R_:=H.e P_ [r,r,r,r] ⟨[(3,vt bi)],[],[]⟩
def x21:Option R_:=H.e P_ [r,r,r,l,r,l,r,(dcall 3 38 3 #[true,true,true,true,true,true,true,true] #[true,true,true,true,true,false,false,false]),r,r] ⟨[(2, .ptr 0 [])],[.box 77 (.agg [vt false,vi 0])],[[(3,vt false),(21, .cst (.bool true)),(23, .agg [vt true,vi 0])]]⟩
def x13(bj:Bool)(bk:Int):Option R_:=H.e P_ [r,r,r,l,r,l,r,(dcall 3 38 3 #[true,true,true,true,true,true,true,true] #[true,true,true,true,true,false,false,false]),r,l,d,r,l,r] ⟨[(2, .ptr 0 [])],[.box 77 (.agg [vt bj,vi bk])],[[(3,vt false),(21, .cst (.bool true)),(23, .agg [vt true,vi 0])]]⟩
def x12(g ak:LB)(ae af aa ag ab b:Int)(m:Bool)(n:Int)(f:LI)(h:LB):Option R_:=H.e P_ [r,r,r,l,r,l,r,(dcall 3 38 3 #[true,true,true,true,true,true,true,true] #[true,true,true,true,true,false,false,false]),r,l,d,r,l,l,(call 1 79),r,r,r,r,r,r] ⟨[(0, .ptr 0 []),(2, .ptr 1 []),(5, .ptr 2 [])],[.box 30 (.agg [vs g,vb ak, .agg [vi ae,vi af,vi aa,vi ag,vi ab], .own 4,vi b, .own 5,vt m,vi n]), .box 77 (.agg [vt false,vi 0]), .box 27 (.agg [vi ae,vi af,vi aa,vi ag,vi ab]), .box 77 (.agg [vt false,vi 0]),Ai 3 f,Ab 5 h],[[(2, .ptr 3 [])],[(3,vt false),(21, .cst (.bool true)),(23, .agg [vt true,vi 0])]]⟩
def x25(bl:Bool)(bm:Int):Option R_:=H.e P_ [r,r,r,l,r,l,r,(dcall 3 38 3 #[true,true,true,true,true,true,true,true] #[true,true,true,true,true,false,false,false]),r,l,d,r,r,r,l,r] ⟨[(2, .ptr 0 [])],[.box 77 (.agg [vt bl,vi bm])],[[(3,vt false),(21, .cst (.bool true)),(23, .agg [vt true,vi 0])]]⟩
def x24(g a:LB)(k p o u v b:Int)(m:Bool)(n:Int)(f:LI)(h:LB)(bg:Int):Option R_:=H.e P_ [r,r,r,l,r,l,r,(dcall 3 38 3 #[true,true,true,true,true,true,true,true] #[true,true,true,true,true,false,false,false]),r,l,d,r,r,r,l,l,(call 1 80),r,r,r] ⟨[(0, .ptr 0 []),(2, .ptr 1 []),(3,vi bg)],[.box 30 (.agg [vs g,vb a, .agg [vi k,vi p,vi o,vi u,vi v], .own 3,vi b, .own 4,vt m,vi n]), .box 77 (.agg [vt false,vi 0]), .box 77 (.agg [vt false,vi 0]),Ai 3 f,Ab 5 h],[[(2, .ptr 2 [])],[(3,vt false),(21, .cst (.bool true)),(23, .agg [vt true,vi 0])]]⟩
def x15(bd:Bool)(bc:Int)(g a:LB)(k p o u v b:Int)(m:Bool)(n:Int)(f:LI)(h:LB):Option R_:=H.e P_ [r,r,r,l,r,l,r,(dcall 3 38 3 #[true,true,true,true,true,true,true,true] #[true,true,true,true,true,false,false,false]),r,l,d,r,r,r,l,l,(call 1 80),r,r,l,r,l,r,r,r] ⟨[(0, .ptr 0 []),(2, .ptr 1 []),(3,vi 8),(4,vt bd),(5,vi bc)],[.box 30 (.agg [vs g,vb a, .agg [vi k,vi p,vi o,vi u,vi v], .own 3,vi b, .own 4,vt m,vi n]), .box 77 (.agg [vt false,vi 0]), .box 77 (.agg [vt false,vi 0]),Ai 3 f,Ab 5 h],[[(2, .ptr 2 [])],[(3,vt false),(21, .cst (.bool true)),(23, .agg [vt true,vi 0])]]⟩
def x23(g a:LB)(k p o u v b:Int)(m:Bool)(n:Int)(f:LI)(h:LB):Option R_:=H.e P_ [r,r,r,l,r,l,r,(dcall 3 38 3 #[true,true,true,true,true,true,true,true] #[true,true,true,true,true,false,false,false]),r,l,d,r,r,r,l,l,(call 1 80),r,r,l,r,l,r,r] ⟨[(0, .ptr 0 []),(2, .ptr 1 []),(3,vi 8)],[.box 30 (.agg [vs g,vb a, .agg [vi k,vi p,vi o,vi u,vi v], .own 3,vi b, .own 4,vt m,vi n]), .box 77 (.agg [vt false,vi 0]), .box 77 (.agg [vt false,vi 0]),Ai 3 f,Ab 5 h],[[(2, .ptr 2 [])],[(3,vt false),(21, .cst (.bool true)),(23, .agg [vt true,vi 0])]]⟩
def x28(bp:Bool)(bq:Int):Option R_:=H.e P_ [r,r,r,l,r,l,r,(dcall 3 38 3 #[true,true,true,true,true,true,true,true] #[true,true,true,true,true,false,false,false]),r,l,d,r,r,r,r,r,l,r] ⟨[(2, .ptr 0 [])],[.box 77 (.agg [vt bp,vi bq])],[[(3,vt false),(21, .cst (.bool true)),(23, .agg [vt true,vi 0])]]⟩
def x27(w ah:Int)(g a:LB)(k p o u v b:Int)(m:Bool)(n:Int)(ao:LX)(f:LI)(h:LB):Option R_:=H.e P_ [r,r,r,l,r,l,r,(dcall 3 38 3 #[true,true,true,true,true,true,true,true] #[true,true,true,true,true,false,false,false]),r,l,d,r,r,r,r,r,l,l,(call 1 81),r,r,r,r,r,r,r,r] ⟨[(0, .ptr 0 []),(2, .ptr 1 []),(3,vi w),(5,vi ah),(7, .own 2)],[.box 30 (.agg [vs g,vb a, .agg [vi k,vi p,vi o,vi u,vi v], .own 4,vi b, .own 5,vt m,vi n]), .box 77 (.agg [vt false,vi 0]),Aw 21 ao, .box 77 (.agg [vt false,vi 0]),Ai 3 f,Ab 5 h],[[(2, .ptr 3 [])],[(3,vt false),(21, .cst (.bool true)),(23, .agg [vt true,vi 0])]]⟩
def x26(w:Int)(g a:LB)(k p o u v b:Int)(m:Bool)(n:Int)(ap:LX)(ad f:LI)(h:LB):Option R_:=H.e P_ [r,r,r,l,r,l,r,(dcall 3 38 3 #[true,true,true,true,true,true,true,true] #[true,true,true,true,true,false,false,false]),r,l,d,r,r,r,r,r,l,l,(call 1 81),r,r,r,r,r,r,r] ⟨[(0, .ptr 0 []),(2, .ptr 1 []),(3,vi w),(4, .ptr 2 []),(6, .own 3)],[.box 30 (.agg [vs g,vb a, .agg [vi k,vi p,vi o,vi u,vi v], .own 5,vi b, .own 6,vt m,vi n]), .box 77 (.agg [vt false,vi 0]), .box 110 (.val (.vec 16 (.int .i32)) ap),Ai 3 ad, .box 77 (.agg [vt false,vi 0]),Ai 3 f,Ab 5 h],[[(2, .ptr 4 [])],[(3,vt false),(21, .cst (.bool true)),(23, .agg [vt true,vi 0])]]⟩
theorem e22:x22=Bb:=by kernel_rfl
theorem e21:x21=Ta:=Eq.trans (b:=Ab0 x22) (by kernel_rfl) (by simp only[e22]<;>rfl)
theorem e13:x13=Ds:=Eq.trans (b:=Abs x22) (by kernel_rfl) (by simp only[e22]<;>rfl)
theorem e12:x12=To:=Eq.trans (b:=Acs x13) (by kernel_rfl) (by simp only[e13]<;>rfl)
theorem e25:x25=Hl:=Eq.trans (b:=Abf x22) (by kernel_rfl) (by simp only[e22]<;>rfl)
theorem e24:x24=Hj:=Eq.trans (b:=Aap x25) (by kernel_rfl) (by simp only[e25]<;>rfl)
theorem e15:x15=Abo:=Eq.trans (b:=Acw x25 x24) (by kernel_rfl) (by simp only[e25,e24]<;>rfl)
theorem e23:x23=Tn:=Eq.trans (b:=Abp x15) (by kernel_rfl) (by simp only[e15]<;>rfl)
theorem e28:x28=Gb:=Eq.trans (b:=Acf x22) (by kernel_rfl) (by simp only[e22]<;>rfl)
theorem e27:x27=Acr:=Eq.trans (b:=Yl x28) (by kernel_rfl) (by rw[As8];simp only[e28]<;>rfl)
theorem e26:x26=Tc:=Eq.trans (b:=Abj x27) (by kernel_rfl) (by simp only[e27]<;>rfl)
noncomputable def F:=u12 Od
theorem rn x:H.u P_ x=F x:=Eq.trans (b:=u12 (Acj x13 x12 x25 x23 x24 x28 x26 x22 x21) x) (by kernel_rfl) (by unfold F;rw[Atv];simp only[e13,e12,e25,e23,e24,e28,e26,e22,e21]<;>rfl)
noncomputable def c:Con:=⟨H.p,H.r,F⟩
theorem ok:ConOk P_ gl 15 c:=cr H func15 (.cons F25.ok (.cons F39.ok (.cons F43.ok (.cons F44.ok (.cons Aju (.cons F56.ok (.cons F57.ok (.cons F58.ok (.cons F59.ok (.cons F65.ok (.cons F66.ok (.cons F82.ok (.cons F84.ok (.cons F130.ok (.cons F131.ok .nil))))))))))))))) (AnsOk.cons ent38 (AnsOk.cons ent79 (AnsOk.cons ent80 (AnsOk.cons ent81 AnsOk.nil)))) rn
end F15
namespace F37
def Abq(f g:LB)(h k m n o:Int)(p:LI)(u:Int)(v:LB)(b:Bool)(a:Int):Option (LB×LB×Int×Int×Int×Int×Int×LI×Int×LB×Bool×Int×Int):=
(Od f g h k m n o p u v b a).bind fun w=>
if(Ay w 0)then
some (([]:LB),([]:LB),0,0,0,0,0,([]:LI),0,([]:LB),false,0,w)
else
if(Ay a 0)then
(fun bl:Option (LB×LB×Int×Int×Int×Int×Int×LI×Int×LB×Bool×Int×Int)=>
both (
both (
(De f g h k m n o p u v b a).bind fun(y,aa,ab,ac,ad,ae,af,ag,ah,ai,aj,ak)=>
(fun bm:Option (LB×LB×Int×Int×Int×Int×Int×LI×Int×LB×Bool×Int×Int)=>
bo (
bm)) (
some (y,aa,ab,ac,ad,ae,af,ag,ah,ai,aj,ak,a))) [
bl]) [
bl]) (
(De f g h k m n o p u v b a).bind fun(y,aa,ab,ac,ad,ae,af,ag,ah,ai,aj,ak)=>
some (y,aa,ab,ac,ad,ae,af,ag,ah,ai,aj,ak,a))
else
if b then
(De f g h k m n o p u v b a).bind fun(al,am,an,ao,ap,aq,ar,au,av,aw,ax,ay)=>
some (al,am,an,ao,ap,aq,ar,au,av,aw,ax,ay,36)
else
(De f g h k m n o p u v b a).bind fun(az,ba,bb,bc,bd,be,bf,bg,bh,bi,bj,bk)=>
some (az,ba,bb,bc,bd,be,bf,bg,bh,bi,bj,bk,0)
theorem Av2: @Abq= @Np:=by
  unfold Abq Np
  try simp only[Ass,Ah0,Ag3]
  all_goals
    repeat (refine funext fun _=>?_)
    repeat' first
      |with_reducible rfl
      |with_reducible refine Ly ?_ ?_
      |with_reducible refine Lq ?_ ?_ ?_
      |with_reducible refine Ll ?_ ?_ ?_ ?_
      |((with_reducible refine Qv ?_ ?_);focus (intro h;first|(subst h;rfl)|(simp only[h];rfl)|(simp[Cw,Ac,h];done)))
      |with_reducible refine Qj fun x=>?_
      |with_reducible refine Yg (fun _=>?_) (fun _=>?_)
      |(refine Gn (fun h=>by simp only[h,Qc,Ed,Dx,ite_self]) (fun x h=>?_);(try simp only[h,Ed]))
      |(refine Ja (fun h=>?_) (fun h=>?_)<;>simp only[h,if_true,if_false,Bool.false_eq_true])
noncomputable def H:Hd:=⟨[.agg [Ss,Sb, .agg [Si,Si,Si,Si,Si],Sl,Si,Sb,Sz,Si]],[.agg [Ss,Ob 5, .agg [Si,Si,Si,Si,Si],Ol 3,Si,Ob 5,Sz,Si],Si],(.seq .d (.seq .d (.seq (.blk (.seq .d (.cond (.seq (.mode false) .d) .d))) .d))),⟨[(15,F15.c),(39,F39.c)],gl,false⟩,[],f37⟩
noncomputable def F:=u12 Np
theorem rn x:H.u P_ x=F x:=Eq.trans (b:=u12 Abq x) (by kernel_rfl) (by rw[Av2];rfl)
noncomputable def c:Con:=⟨H.p,H.r,F⟩
theorem ok:ConOk P_ gl 37 c:=co H func37 (.cons F15.ok (.cons F39.ok .nil)) rn
end F37
namespace F40
noncomputable def H:Hd:=⟨[.agg [Ss,Sb, .agg [Si,Si,Si,Si,Si],Sl,Si,Sb,Sz,Si],Si],[.agg [Ss,Ob 5, .agg [Si,Si,Si,Si,Si],Ol 3,Si,Sb,Sz,Si],Si], .d,⟨[],gl,false⟩,[],f40⟩
noncomputable def F:=u13 Aqi
theorem rn x:H.u P_ x=F x:=by kernel_rfl
noncomputable def c:Con:=⟨H.p,H.r,F⟩
theorem ok:ConOk P_ gl 40 c:=co H func40 .nil rn
end F40
namespace F12
def Ach(j78:Int→Int→Int→Int→Int→LI→Bool→Int→LB→Int→LB→Option (LB×LB×Int×Int×Int×Int×Int×LI×Int×LB×Bool×Int×Int))(a:LB)(b:Bool)(f w ag:Int)(g:LB)(m p o u v h:Int)(am:LX)(k:LI)(n:LB):Option (LB×LB×Int×Int×Int×Int×Int×LI×Int×LB×Bool×Int×Int):=
if(Ay ag 0)then
(Ag ag).bind fun(dd,de)=>
j78 m p o u v k dd de g h n
else
(Ut o am).bind fun(df,aj)=>
if(Ay aj 0)then
(Ag aj).bind fun(dg,dh)=>
j78 m p o u v k dg dh g h n
else
(Cw n df).bind fun di=>
(fun hb:Option (LB×LB×Int×Int×Int×Int×Int×LI×Int×LB×Bool×Int×Int)=>
bo (
hb)) (
(Bc g w (Ac g)).bind fun dj=>
j78 m p o u v k false 0 dj (Ae h 1) di)
theorem Avz: @Ach= @Vg:=by
  unfold Ach Vg
  simp only[Ass,Ah0,Ag3]
def Aav(j62:Int→LI→LB→Bool→Int→LB→Int→Int→Int→Int→Int→Option (LB×LB×Int×Int×Int×Int×Int×LI×Int×LB×Bool×Int×Int))(j61:LB→Int→Int→Int→Int→Int→Int→LI→LB→Option (LB×LB×Int×Int×Int×Int×Int×LI×Int×LB×Bool×Int×Int))(j75:Int→Int→Int→Int→Int→Int→LB→Bool→Int→LB→LI→Option (LB×LB×Int×Int×Int×Int×Int×LI×Int×LB×Bool×Int×Int))(j73:LB→Int→Int→Int→Int→Int→Int→LI→LB→Option (LB×LB×Int×Int×Int×Int×Int×LI×Int×LB×Bool×Int×Int))(j74:LB→Int→Int→Int→Int→Int→Int→LI→LB→Int→Option (LB×LB×Int×Int×Int×Int×Int×LI×Int×LB×Bool×Int×Int))(j78:Int→Int→Int→Int→Int→LI→Bool→Int→LB→Int→LB→Option (LB×LB×Int×Int×Int×Int×Int×LI×Int×LB×Bool×Int×Int))(j76:Int→LB→Int→Int→Int→Int→Int→Int→LX→LI→LI→LB→Option (LB×LB×Int×Int×Int×Int×Int×LI×Int×LB×Bool×Int×Int))(j71:LB→Int→Int→Int→Int→Int→Int→Bool→Int→LI→LB→Option (LB×LB×Int×Int×Int×Int×Int×LI×Int×LB×Bool×Int×Int))(j70:LB→Int→Int→Int→Int→Int→Int→LI→LB→Option (LB×LB×Int×Int×Int×Int×Int×LI×Int×LB×Bool×Int×Int))(a:LB)(b:Bool)(f:Int)(g:LB)(m p o u v h:Int)(k:LI)(n:LB):Option (LB×LB×Int×Int×Int×Int×Int×LI×Int×LB×Bool×Int×Int):=
if(geq m 0)then
(Js g).bind fun(ah,ao)=>
if(geq ao 24)then
j62 h k n true 0 g m p o u v
else
if(Ay ao 0)then
(Ag ao).bind fun(dk,dl)=>
j62 h k n dk dl g m p o u v
else
(Bc g ah (Ac g)).bind fun dm=>
(Nm dm).bind fun al=>
if al then
j62 h k n true 0 g m p o u v
else
(Bc g ah (Ac g)).bind fun dn=>
(Nh dn).bind fun(ab,ac,y,ad,aa,ap)=>
if(geq ap 24)then
j62 h k n true 0 g m p o u v
else
if(Ay ap 0)then
(Ag ap).bind fun(dp,dq)=>
j62 h k n dp dq g m p o u v
else
both (
(Bc g (Ae ah 22) (Ac g)).bind fun af=>
bo (
j61 af ab ac y ad aa h k n)) [
(Bc g (Ae ah 22) (Ac g)).bind fun af=>
j61 af ab ac y ad aa h k n]
else
if(geq (Ac k) 0)then
if(geq m 2)then
if(Bs (Ac g) 8)then
j75 m p o u v h n true 0 g k
else
j73 g m p o u v h k n
else
j74 g m p o u v h k n 0
else
if(Bs h (Ac k))then
(Ak k h).bind fun _=>
(Ak k h).bind fun w=>
if(Bs (Ac g) w)then
j78 m p o u v k true 0 g h n
else
(Rg a).bind fun(an,ak)=>
if(Ay ak 0)then
(Ag ak).bind fun(dr,ds)=>
j78 m p o u v k dr ds g h n
else
(Dk m p o u v).bind fun(ae,dt)=>
if((Ay dt 0)||(Il h (Ac ae)))then
(Ag 8).bind fun(du,bc)=>
j78 m p o u v k du bc g h n
else
j76 w g m p o u v h an ae k n
else
if(Di (Ac g) 4000)then
(Ag 38).bind fun(dv,ai)=>
j71 g m p o u v h dv ai k n
else
j70 g m p o u v h k n
theorem Av4: @Aav= @Gv:=by
  unfold Aav Gv
  repeat (refine funext fun _=>?_)
  repeat' first
    |with_reducible rfl
    |with_reducible refine Ly ?_ ?_
    |with_reducible refine Lq ?_ ?_ ?_
    |with_reducible refine Ll ?_ ?_ ?_ ?_
    |((with_reducible refine Qv ?_ ?_);focus (intro h;first|(subst h;rfl)|(simp only[h];rfl)|(simp[Cw,Ac,h];done)))
    |with_reducible refine Qj fun x=>?_
    |with_reducible refine Yg (fun _=>?_) (fun _=>?_)
    |(refine Gn (fun h=>by simp only[h,Qc,Ed,Dx,ite_self]) (fun x h=>?_);(try simp only[h,Ed]))
    |(refine Ja (fun h=>?_) (fun h=>?_)<;>simp only[h,if_true,if_false,Bool.false_eq_true])
abbrev R_:=(LB×LB×Int×Int×Int×Int×Int×LI×Int×LB×Bool×Int×Int)
abbrev K_:=S→Option R_
noncomputable def H:Hd:=⟨[.agg [Ss,Sb, .agg [Si,Si,Si,Si,Si],Sl,Si,Sb,Sz,Si],Sb],[.agg [Ss,Ob 5, .agg [Si,Si,Si,Si,Si],Ol 3,Si,Sb,Sz,Si],Si],(.seq .d (.seq .d (.seq .d (.seq .d (.blk (.loop [2,4] [⟨2,[1], .ro (.int .u8)⟩] (.blk (.cut [2,4,7] [] (.keep [2,4,7,22] true) .d)))))))),⟨[(25,F25.c),(37,F37.c),(39,F39.c),(40,F40.c),(55,Xi),(56,F56.c),(57,F57.c),(58,F58.c),(59,F59.c),(65,F65.c),(66,F66.c),(82,F82.c),(84,F84.c),(130,F130.c),(131,F131.c)],gl,false⟩,[(38,(.seq .d (.cut [2] [] (.blk (.seq .d (.cond (.cut [2] [] (.keep [2,11] true) .d) (.seq .d (.cond (.cut [2] [] (.keep [2,20] true) .d) (.seq .d (.cond (.cut [2] [] (.keep [2,33] true) .d) .d))))))) .d))),(79,(.seq .d (.seq .d (.seq .d (.seq .d (.seq .d (.cut [0,2,5] [] (.mode false) .d))))))),(80,(.seq .d (.seq .d (.cut [0,2,3] [] (.seq .d (.cond (.seq .d (.cut [0,2,3] [⟨0,[1], .ro (.int .u8)⟩,⟨9,[1], .ro (.int .u8)⟩,⟨10,[1], .ro (.int .u8)⟩,⟨15,[1], .ro (.int .u8)⟩,⟨16,[1], .ro (.int .u8)⟩,⟨18,[], .ro (.int .u8)⟩] .d (.cut [0,2,3,4,5] [] .d .d))) .d)) .d)))),(81,(.seq .d (.seq .d (.seq .d (.seq .d (.seq .d (.seq .d (.cut [0,2,3,4,6] [⟨0,[1], .ro (.int .u8)⟩,⟨9,[1], .ro (.int .u8)⟩,⟨10,[1], .ro (.int .u8)⟩,⟨13,[1], .ro (.int .u8)⟩,⟨14,[1], .ro (.int .u8)⟩,⟨19,[1], .ro (.int .u8)⟩,⟨20,[1], .ro (.int .u8)⟩,⟨22,[], .ro (.int .u8)⟩,⟨28,[1], .ro (.int .u8)⟩,⟨29,[1], .ro (.int .u8)⟩,⟨40,[1], .ro (.int .u8)⟩,⟨41,[1], .ro (.int .u8)⟩] .d (.cut [0,2,3,5,7] [] .d (.seq .d (.seq .d (.seq .d (.seq .d (.seq (.mode false) .d))))))))))))))],f12⟩
def t37(a:LB)(b:Bool)(f:Int)(g:LB)(m p o u v h:Int)(k:LI)(n:LB):S:=⟨[(2, .ptr 0 []),(4, .ptr 1 [])],[.box 30 (.agg [vs a,vb g, .agg [vi m,vi p,vi o,vi u,vi v], .own 2,vi h, .own 3,vt b,vi f]), .box 30 (.agg [vs ([]:LB), .nils, .agg [vi 0,vi 0,vi 0,vi 0,vi 0], .nils,vi 0, .nils,vt false,vi 0]),Ai 3 k,Ab 5 n],[]⟩
def z37:Nat→S→Option R_:=H.i P_ [r,r,r,r,d]
def x71(kn37:K_)(a:LB)(b:Bool)(f:Int)(ar:LB)(au av aw ax ay az:Int)(bh:Bool)(be:Int)(ba:LI)(bb:LB):Option R_:=H.e P_ [r,r,r,r,d,(lp kn37),d,r] ⟨[(2, .ptr 0 []),(4, .ptr 1 []),(7, .ptr 2 [])],[.box 30 (.agg [vs a,vb ar, .agg [vi au,vi av,vi aw,vi ax,vi ay], .own 3,vi az, .own 4,vt b,vi f]), .box 30 (.agg [vs ([]:LB), .nils, .agg [vi 0,vi 0,vi 0,vi 0,vi 0], .nils,vi 0, .nils,vt false,vi 0]), .box 77 (.agg [vt bh,vi be]),Ai 3 ba,Ab 5 bb],[]⟩
def x70(kn37:K_)(a:LB)(b:Bool)(f:Int)(g:LB)(m p o u v h:Int)(k:LI)(n:LB):Option R_:=H.e P_ [r,r,r,r,d,(lp kn37),d,l,(call 0 38),r,r] ⟨[(2, .ptr 0 [])],[.box 77 (.agg [vt false,vi 0]), .box 30 (.agg [vs a,vb g, .agg [vi m,vi p,vi o,vi u,vi v], .own 3,vi h, .own 4,vt b,vi f]), .box 30 (.agg [vs ([]:LB), .nils, .agg [vi 0,vi 0,vi 0,vi 0,vi 0], .nils,vi 0, .nils,vt false,vi 0]),Ai 3 k,Ab 5 n],[[(2, .ptr 1 []),(4, .ptr 2 [])]]⟩
def x62(kn37:K_)(a:LB)(b:Bool)(f h:Int)(k:LI)(n:LB)(bj:Bool)(bk:Int)(bl:LB)(bm bn bp bq br:Int):Option R_:=H.e P_ [r,r,r,r,d,(lp kn37),d,l,(call 0 38),r,l,d,r,l,r] ⟨[(2, .ptr 0 [])],[.box 77 (.agg [vt bj,vi bk]), .box 30 (.agg [vs a,vb bl, .agg [vi bm,vi bn,vi bp,vi bq,vi br], .own 3,vi h, .own 4,vt b,vi f]), .box 30 (.agg [vs ([]:LB), .nils, .agg [vi 0,vi 0,vi 0,vi 0,vi 0], .nils,vi 0, .nils,vt false,vi 0]),Ai 3 k,Ab 5 n],[[(2, .ptr 1 []),(4, .ptr 2 [])]]⟩
def x61(kn37:K_)(a:LB)(b:Bool)(f:Int)(af:LB)(ab ac y ad aa h:Int)(k:LI)(n:LB):Option R_:=H.e P_ [r,r,r,r,d,(lp kn37),d,l,(call 0 38),r,l,d,r,l,l,(call 1 79),r,r,r,r,r,r] ⟨[(0, .ptr 0 []),(2, .ptr 1 []),(5, .ptr 2 [])],[.box 30 (.agg [vs a,vb af, .agg [vi ab,vi ac,vi y,vi ad,vi aa], .own 5,vi h, .own 6,vt b,vi f]), .box 77 (.agg [vt false,vi 0]), .box 27 (.agg [vi ab,vi ac,vi y,vi ad,vi aa]), .box 77 (.agg [vt false,vi 0]), .box 30 (.agg [vs ([]:LB), .nils, .agg [vi 0,vi 0,vi 0,vi 0,vi 0], .nils,vi 0, .nils,vt false,vi 0]),Ai 3 k,Ab 5 n],[[(2, .ptr 3 [])],[(2, .ptr 0 []),(4, .ptr 4 [])]]⟩
def x75(kn37:K_)(a:LB)(b:Bool)(f m p o u v h:Int)(n:LB)(bs:Bool)(bt:Int)(bu:LB)(bv:LI):Option R_:=H.e P_ [r,r,r,r,d,(lp kn37),d,l,(call 0 38),r,l,d,r,r,r,l,r] ⟨[(2, .ptr 0 [])],[.box 77 (.agg [vt bs,vi bt]), .box 30 (.agg [vs a,vb bu, .agg [vi m,vi p,vi o,vi u,vi v], .own 3,vi h, .own 4,vt b,vi f]), .box 30 (.agg [vs ([]:LB), .nils, .agg [vi 0,vi 0,vi 0,vi 0,vi 0], .nils,vi 0, .nils,vt false,vi 0]),Ai 3 bv,Ab 5 n],[[(2, .ptr 1 []),(4, .ptr 2 [])]]⟩
def x74(kn37:K_)(a:LB)(b:Bool)(f:Int)(g:LB)(m p o u v h:Int)(k:LI)(n:LB)(bf:Int):Option R_:=H.e P_ [r,r,r,r,d,(lp kn37),d,l,(call 0 38),r,l,d,r,r,r,l,l,(call 1 80),r,r,r] ⟨[(0, .ptr 0 []),(2, .ptr 1 []),(3,vi bf)],[.box 30 (.agg [vs a,vb g, .agg [vi m,vi p,vi o,vi u,vi v], .own 4,vi h, .own 5,vt b,vi f]), .box 77 (.agg [vt false,vi 0]), .box 77 (.agg [vt false,vi 0]), .box 30 (.agg [vs ([]:LB), .nils, .agg [vi 0,vi 0,vi 0,vi 0,vi 0], .nils,vi 0, .nils,vt false,vi 0]),Ai 3 k,Ab 5 n],[[(2, .ptr 2 [])],[(2, .ptr 0 []),(4, .ptr 3 [])]]⟩
def x64(kn37:K_)(a:LB)(b:Bool)(f:Int)(bd:Bool)(aq:Int)(g:LB)(m p o u v h:Int)(k:LI)(n:LB):Option R_:=H.e P_ [r,r,r,r,d,(lp kn37),d,l,(call 0 38),r,l,d,r,r,r,l,l,(call 1 80),r,r,l,r,l,r,r,r] ⟨[(0, .ptr 0 []),(2, .ptr 1 []),(3,vi 8),(4,vt bd),(5,vi aq)],[.box 30 (.agg [vs a,vb g, .agg [vi m,vi p,vi o,vi u,vi v], .own 4,vi h, .own 5,vt b,vi f]), .box 77 (.agg [vt false,vi 0]), .box 77 (.agg [vt false,vi 0]), .box 30 (.agg [vs ([]:LB), .nils, .agg [vi 0,vi 0,vi 0,vi 0,vi 0], .nils,vi 0, .nils,vt false,vi 0]),Ai 3 k,Ab 5 n],[[(2, .ptr 2 [])],[(2, .ptr 0 []),(4, .ptr 3 [])]]⟩
def x73(kn37:K_)(a:LB)(b:Bool)(f:Int)(g:LB)(m p o u v h:Int)(k:LI)(n:LB):Option R_:=H.e P_ [r,r,r,r,d,(lp kn37),d,l,(call 0 38),r,l,d,r,r,r,l,l,(call 1 80),r,r,l,r,l,r,r] ⟨[(0, .ptr 0 []),(2, .ptr 1 []),(3,vi 8)],[.box 30 (.agg [vs a,vb g, .agg [vi m,vi p,vi o,vi u,vi v], .own 4,vi h, .own 5,vt b,vi f]), .box 77 (.agg [vt false,vi 0]), .box 77 (.agg [vt false,vi 0]), .box 30 (.agg [vs ([]:LB), .nils, .agg [vi 0,vi 0,vi 0,vi 0,vi 0], .nils,vi 0, .nils,vt false,vi 0]),Ai 3 k,Ab 5 n],[[(2, .ptr 2 [])],[(2, .ptr 0 []),(4, .ptr 3 [])]]⟩
def x78(kn37:K_)(a:LB)(b:Bool)(f m p o u v:Int)(k:LI)(bx:Bool)(bz:Int)(da:LB)(db:Int)(dc:LB):Option R_:=H.e P_ [r,r,r,r,d,(lp kn37),d,l,(call 0 38),r,l,d,r,r,r,r,r,l,r] ⟨[(2, .ptr 0 [])],[.box 77 (.agg [vt bx,vi bz]), .box 30 (.agg [vs a,vb da, .agg [vi m,vi p,vi o,vi u,vi v], .own 3,vi db, .own 4,vt b,vi f]), .box 30 (.agg [vs ([]:LB), .nils, .agg [vi 0,vi 0,vi 0,vi 0,vi 0], .nils,vi 0, .nils,vt false,vi 0]),Ai 3 k,Ab 5 dc],[[(2, .ptr 1 []),(4, .ptr 2 [])]]⟩
def x77(kn37:K_)(a:LB)(b:Bool)(f w ag:Int)(g:LB)(m p o u v h:Int)(am:LX)(k:LI)(n:LB):Option R_:=H.e P_ [r,r,r,r,d,(lp kn37),d,l,(call 0 38),r,l,d,r,r,r,r,r,l,l,(call 1 81),r,r,r,r,r,r,r,r] ⟨[(0, .ptr 0 []),(2, .ptr 1 []),(3,vi w),(5,vi ag),(7, .own 2)],[.box 30 (.agg [vs a,vb g, .agg [vi m,vi p,vi o,vi u,vi v], .own 5,vi h, .own 6,vt b,vi f]), .box 77 (.agg [vt false,vi 0]),Aw 21 am, .box 77 (.agg [vt false,vi 0]), .box 30 (.agg [vs ([]:LB), .nils, .agg [vi 0,vi 0,vi 0,vi 0,vi 0], .nils,vi 0, .nils,vt false,vi 0]),Ai 3 k,Ab 5 n],[[(2, .ptr 3 [])],[(2, .ptr 0 []),(4, .ptr 4 [])]]⟩
def x76(kn37:K_)(a:LB)(b:Bool)(f w:Int)(g:LB)(m p o u v h:Int)(an:LX)(ae k:LI)(n:LB):Option R_:=H.e P_ [r,r,r,r,d,(lp kn37),d,l,(call 0 38),r,l,d,r,r,r,r,r,l,l,(call 1 81),r,r,r,r,r,r,r] ⟨[(0, .ptr 0 []),(2, .ptr 1 []),(3,vi w),(4, .ptr 2 []),(6, .own 3)],[.box 30 (.agg [vs a,vb g, .agg [vi m,vi p,vi o,vi u,vi v], .own 6,vi h, .own 7,vt b,vi f]), .box 77 (.agg [vt false,vi 0]), .box 110 (.val (.vec 16 (.int .i32)) an),Ai 3 ae, .box 77 (.agg [vt false,vi 0]), .box 30 (.agg [vs ([]:LB), .nils, .agg [vi 0,vi 0,vi 0,vi 0,vi 0], .nils,vi 0, .nils,vt false,vi 0]),Ai 3 k,Ab 5 n],[[(2, .ptr 4 [])],[(2, .ptr 0 []),(4, .ptr 5 [])]]⟩
def x37(a:LB)(b:Bool)(f:Int)(g:LB)(m p o u v h:Int)(k:LI)(n:LB):Option R_:=H.e P_ [r,r,r,r,d] (t37 a b f g m p o u v h k n)
theorem e71(kn37:K_)(a:LB)(b:Bool)(f:Int):x71 kn37 a b f=Bu (fun g m p o u v h k n=>kn37 (t37 a b f g m p o u v h k n)) a b f:=by kernel_rfl
theorem e70(kn37:K_)(a:LB)(b:Bool)(f:Int):x70 kn37 a b f=Vt (fun g m p o u v h k n=>kn37 (t37 a b f g m p o u v h k n)) a b f:=Eq.trans (b:=Aof (x71 kn37 a b f) a b f) (by kernel_rfl) (by simp only[e71]<;>rfl)
theorem e62(kn37:K_)(a:LB)(b:Bool)(f:Int):x62 kn37 a b f=Lf (fun g m p o u v h k n=>kn37 (t37 a b f g m p o u v h k n)) a b f:=Eq.trans (b:=Aos (x71 kn37 a b f) a b f) (by kernel_rfl) (by simp only[e71]<;>rfl)
theorem e61(kn37:K_)(a:LB)(b:Bool)(f:Int):x61 kn37 a b f=Ph (fun g m p o u v h k n=>kn37 (t37 a b f g m p o u v h k n)) a b f:=Eq.trans (b:=Aej (x62 kn37 a b f) a b f) (by kernel_rfl) (by simp only[e62]<;>rfl)
theorem e75(kn37:K_)(a:LB)(b:Bool)(f:Int):x75 kn37 a b f=Je (fun g m p o u v h k n=>kn37 (t37 a b f g m p o u v h k n)) a b f:=Eq.trans (b:=Ap2 (x71 kn37 a b f) a b f) (by kernel_rfl) (by simp only[e71]<;>rfl)
theorem e74(kn37:K_)(a:LB)(b:Bool)(f:Int):x74 kn37 a b f=Jf (fun g m p o u v h k n=>kn37 (t37 a b f g m p o u v h k n)) a b f:=Eq.trans (b:=Ad5 (x75 kn37 a b f) a b f) (by kernel_rfl) (by simp only[e75]<;>rfl)
theorem e64(kn37:K_)(a:LB)(b:Bool)(f:Int):x64 kn37 a b f=Ad7 (fun g m p o u v h k n=>kn37 (t37 a b f g m p o u v h k n)) a b f:=Eq.trans (b:=Aep (x75 kn37 a b f) (x74 kn37 a b f) a b f) (by kernel_rfl) (by simp only[e75,e74]<;>rfl)
theorem e73(kn37:K_)(a:LB)(b:Bool)(f:Int):x73 kn37 a b f=Pc (fun g m p o u v h k n=>kn37 (t37 a b f g m p o u v h k n)) a b f:=Eq.trans (b:=Aev (x64 kn37 a b f) a b f) (by kernel_rfl) (by simp only[e64]<;>rfl)
theorem e78(kn37:K_)(a:LB)(b:Bool)(f:Int):x78 kn37 a b f=Oy (fun g m p o u v h k n=>kn37 (t37 a b f g m p o u v h k n)) a b f:=Eq.trans (b:=Aoq (x71 kn37 a b f) a b f) (by kernel_rfl) (by simp only[e71]<;>rfl)
theorem e77(kn37:K_)(a:LB)(b:Bool)(f:Int):x77 kn37 a b f=Aek (fun g m p o u v h k n=>kn37 (t37 a b f g m p o u v h k n)) a b f:=Eq.trans (b:=Ach (x78 kn37 a b f) a b f) (by kernel_rfl) (by rw[Avz];simp only[e78]<;>rfl)
theorem e76(kn37:K_)(a:LB)(b:Bool)(f:Int):x76 kn37 a b f=Pr (fun g m p o u v h k n=>kn37 (t37 a b f g m p o u v h k n)) a b f:=Eq.trans (b:=Aez (x77 kn37 a b f) a b f) (by kernel_rfl) (by simp only[e77]<;>rfl)
theorem i37(a:LB)(b:Bool)(f:Int):∀(q:Nat) (g:LB) (m p o u v h:Int) (k:LI) (n:LB),z37 q (t37 a b f g m p o u v h k n)=Aq a b f q g m p o u v h k n:=
 ind (fun _ _ _ _ _ _ _ _ _=>by kernel_rfl) fun q ih g m p o u v h k n=>Eq.trans (b:=Aav (x62 (z37 q) a b f) (x61 (z37 q) a b f) (x75 (z37 q) a b f) (x73 (z37 q) a b f) (x74 (z37 q) a b f) (x78 (z37 q) a b f) (x76 (z37 q) a b f) (x71 (z37 q) a b f) (x70 (z37 q) a b f) a b f g m p o u v h k n) (by kernel_rfl) (by rw[Av4];simp only[e62,e61,e75,e73,e74,e78,e76,e71,e70,ih]<;>rfl)
theorem e37:x37=Ap1:=by funext a b f g m p o u v h k n;exact Eq.trans (by kernel_rfl) ((i37 a b f Cv g m p o u v h k n).trans (by rw[Ar];rfl))
noncomputable def F:=u13 Px
theorem rn x:H.u P_ x=F x:=Eq.trans (b:=u13 (Xv x37) x) (by kernel_rfl) (by simp only[e37]<;>rfl)
noncomputable def c:Con:=⟨H.p,H.r,F⟩
theorem ok:ConOk P_ gl 12 c:=cr H func12 (.cons F25.ok (.cons F37.ok (.cons F39.ok (.cons F40.ok (.cons Aju (.cons F56.ok (.cons F57.ok (.cons F58.ok (.cons F59.ok (.cons F65.ok (.cons F66.ok (.cons F82.ok (.cons F84.ok (.cons F130.ok (.cons F131.ok .nil))))))))))))))) (AnsOk.cons ent38 (AnsOk.cons ent79 (AnsOk.cons ent80 (AnsOk.cons ent81 AnsOk.nil)))) rn
end F12
namespace F111
abbrev R_:=(Int×Int)
noncomputable def H:Hd:=⟨[Sb],[Si,Si],(.seq .d (.seq .d (.cut [0,4] [] .d .d))),⟨[(52,F52.c),(161,F161.c),(162,F162.c),(163,F163.c)],gl,false⟩,[],f111⟩
def x2(a:LB):Option R_:=H.e P_ [r,r,r] ⟨[(0,vb a),(4,vi (Ah (Ac a) (32:Int)))],[],[]⟩
theorem e2:x2=At6:=by kernel_rfl
noncomputable def F:=Az1
theorem rn x:H.u P_ x=F x:=Eq.trans (b:=At0 x2 x) (by kernel_rfl) (by simp only[e2]<;>rfl)
noncomputable def c:Con:=⟨H.p,H.r,F⟩
theorem ok:ConOk P_ gl 111 c:=co H func111 (.cons F52.ok (.cons F161.ok (.cons F162.ok (.cons F163.ok .nil)))) rn
end F111
namespace F61
abbrev R_:=(Int×Int)
abbrev K_:=S→Option R_
noncomputable def H:Hd:=⟨[Sb],[Si,Si],(.seq .d (.seq .d (.seq .d (.seq .d (.cut [5] [] (.blk (.loop [1,4,5] [] (.seq .d (.cut [1,4,5] [] (.blk (.cut [1,4,5,6] [] (.keep [1,4,5,6,16,17] true) .d)) .d)))) .d))))),⟨[(111,F111.c)],gl,false⟩,[(110, .d)],f61⟩
def t8(a:Int)(b:LB):S:=⟨[(1, .ptr 0 []),(4, .fn 110 [.ptr 0 []]),(5,vi a)],[.box 22 (vb b)],[]⟩
def z8:Nat→S→Option R_:=H.i P_ [r,r,r,r,l,d]
def x14(a:Int):Option R_:=H.e P_ [r,r,r,r,r] ⟨[(5,vi a)],[],[]⟩
def x12(kn8:K_)(a:Int)(g:LB):Option R_:=H.e P_ [r,r,r,r,l,d,(lp kn8),r,r] ⟨[(1, .ptr 0 []),(4, .fn 110 [.ptr 0 []]),(5,vi a)],[.box 22 (vb g)],[]⟩
def x11(kn8:K_)(a f:Int)(b:LB):Option R_:=H.e P_ [r,r,r,r,l,d,(lp kn8),r,l,d,r] ⟨[(1, .ptr 0 []),(4, .fn 110 [.ptr 0 []]),(5,vi a),(6,vi f)],[.box 22 (vb b)],[]⟩
def x8(a:Int)(b:LB):Option R_:=H.e P_ [r,r,r,r,l,d] (t8 a b)
theorem e14:x14=Aol:=by kernel_rfl
theorem e12(kn8:K_):x12 kn8=Aem (fun a b=>kn8 (t8 a b)):=by kernel_rfl
theorem e11(kn8:K_):x11 kn8=Aeb (fun a b=>kn8 (t8 a b)):=Eq.trans (b:=Aeo (x12 kn8)) (by kernel_rfl) (by simp only[e12]<;>rfl)
theorem i8:∀(q:Nat) (a:Int) (b:LB),z8 q (t8 a b)=Qz q a b:=
 ind (fun _ _=>by kernel_rfl) fun q ih a b=>Eq.trans (b:=Ahs (x11 (z8 q)) x14 a b) (by kernel_rfl) (by simp only[e11,e14,ih]<;>rfl)
theorem e8:x8=Asi:=by funext a b;exact Eq.trans (by kernel_rfl) ((i8 Cv a b).trans (by rw[Ar];rfl))
noncomputable def F:=Ai1
theorem rn x:H.u P_ x=F x:=Eq.trans (b:=Ahu x8 x) (by kernel_rfl) (by simp only[e8]<;>rfl)
noncomputable def c:Con:=⟨H.p,H.r,F⟩
theorem ok:ConOk P_ gl 61 c:=cr H func61 (.cons F111.ok .nil) (AnsOk.cons ent110 AnsOk.nil) rn
end F61
namespace F47
noncomputable def H:Hd:=⟨[.agg [Ss,Sb, .agg [Si,Si,Si,Si,Si],Sl,Si,Sb,Sz,Si]],[Si], .d,⟨[(55,Xi),(56,F56.c),(61,F61.c)],gl,false⟩,[],f47⟩
noncomputable def F:=u12 Aca
theorem rn x:H.u P_ x=F x:=by kernel_rfl
noncomputable def c:Con:=⟨H.p,H.r,F⟩
theorem ok:ConOk P_ gl 47 c:=co H func47 (.cons Aju (.cons F56.ok (.cons F61.ok .nil))) rn
end F47
namespace F17
noncomputable def H:Hd:=⟨[.agg [Ss,Sb, .agg [Si,Si,Si,Si,Si],Sl,Si,Sb,Sz,Si]],[.agg [Ss,Ob 5, .agg [Si,Si,Si,Si,Si],Ol 3,Si,Sb,Sz,Si],Si], .d,⟨[(37,F37.c),(40,F40.c),(47,F47.c)],gl,false⟩,[],f17⟩
noncomputable def F:=u12 Ux
theorem rn x:H.u P_ x=F x:=by kernel_rfl
noncomputable def c:Con:=⟨H.p,H.r,F⟩
theorem ok:ConOk P_ gl 17 c:=co H func17 (.cons F37.ok (.cons F40.ok (.cons F47.ok .nil))) rn
end F17
namespace F51
abbrev R_:=(LB×Int)
abbrev K_:=S→Option R_
noncomputable def H:Hd:=⟨[Ss,Sb,Sl],[Sb,Si],(.seq .d (.seq .d (.seq .d (.cut [8] [] (.seq .d (.blk (.loop [1,8,20,21,22] [⟨8,[5], .ro (.int .u8)⟩] (.seq .d (.seq .d (.seq (.blk (.seq .d (.seq (.cut [1,8,9,11,20,21,22] [] (.mode false) .d) .d))) .d)))))) .d)))),⟨[(11,F11.c),(12,F12.c),(17,F17.c)],gl,false⟩,[],f51⟩
def t7(a:LI)(b:LB)(f:Int)(g:LB)(h k m n o p:Int)(u:LB)(v:Bool)(w:Int)(y:LB)(aa:LI):S:=⟨[(1,vb b),(8, .ptr 0 []),(20,vl a),(21,vi (Ac a)),(22,vi f)],[.box 30 (.agg [vs g, .own 1, .agg [vi h,vi k,vi m,vi n,vi o], .own 2,vi p,vb u,vt v,vi w]),Ab 5 y,Ai 3 aa],[]⟩
def z7:Nat→S→Option R_:=H.i P_ [r,r,r,l,r,d]
def x12(g:LB)(h k m n o p:Int)(u:LB)(v:Bool)(w:Int)(y:LB)(aa:LI):Option R_:=H.e P_ [r,r,r,r] ⟨[(8, .ptr 0 [])],[.box 30 (.agg [vs g, .own 1, .agg [vi h,vi k,vi m,vi n,vi o], .own 2,vi p,vb u,vt v,vi w]),Ab 5 y,Ai 3 aa],[]⟩
def x10(kn7:K_)(a:LI)(b:LB)(ag ah f:Int)(aj:LB)(ac ad ae ak af al:Int)(ai:LB)(am:Bool)(an:Int)(ao:LB)(ab:LI):Option R_:=H.e P_ [r,r,r,l,r,d,(lp kn7),r,r,l,d,r,l,r] ⟨[(1,vb b),(8, .ptr 0 []),(9,vi ag),(11,vi ah),(20,vl a),(21,vi (Ac a)),(22,vi f)],[.box 30 (.agg [vs aj, .own 1, .agg [vi ac,vi ad,vi ae,vi ak,vi af], .own 2,vi al,vb ai,vt am,vi an]),Ab 5 ao,Ai 3 ab],[]⟩
def x7(a:LI)(b:LB)(f:Int)(g:LB)(h k m n o p:Int)(u:LB)(v:Bool)(w:Int)(y:LB)(aa:LI):Option R_:=H.e P_ [r,r,r,l,r,d] (t7 a b f g h k m n o p u v w y aa)
theorem e12:x12=Tr:=by kernel_rfl
theorem e10(kn7:K_)(a:LI):x10 kn7 a=Td (fun b f g h k m n o p u v w y aa=>kn7 (t7 a b f g h k m n o p u v w y aa)) a:=by kernel_rfl
theorem i7(a:LI):∀(q:Nat) (b:LB) (f:Int) (g:LB) (h k m n o p:Int) (u:LB) (v:Bool) (w:Int) (y:LB) (aa:LI),z7 q (t7 a b f g h k m n o p u v w y aa)=Iy a q b f g h k m n o p u v w y aa:=
 ind (fun _ _ _ _ _ _ _ _ _ _ _ _ _ _=>by kernel_rfl) fun q ih b f g h k m n o p u v w y aa=>Eq.trans (b:=Vh (x10 (z7 q) a) x12 a b f g h k m n o p u v w y aa) (by kernel_rfl) (by simp only[e10,e12,ih]<;>rfl)
theorem e7:x7=Ap9:=by funext a b f g h k m n o p u v w y aa;exact Eq.trans (by kernel_rfl) ((i7 a Cv b f g h k m n o p u v w y aa).trans (by rw[Ar];rfl))
noncomputable def F:=u3 Jj
theorem rn x:H.u P_ x=F x:=Eq.trans (b:=u3 (Vf x7) x) (by kernel_rfl) (by simp only[e7]<;>rfl)
noncomputable def c:Con:=⟨H.p,H.r,F⟩
theorem ok:ConOk P_ gl 51 c:=co H func51 (.cons F11.ok (.cons F12.ok (.cons F17.ok .nil))) rn
end F51
namespace F49
noncomputable def H:Hd:=⟨[Ss,Sb,Sq],[Sb,Si], .d,⟨[(51,F51.c),(93,F93.c)],gl,false⟩,[],f49⟩
noncomputable def F:=u3 Axl
theorem rn x:H.u P_ x=F x:=by kernel_rfl
noncomputable def c:Con:=⟨H.p,H.r,F⟩
theorem ok:ConOk P_ gl 49 c:=co H func49 (.cons F51.ok (.cons F93.ok .nil)) rn
end F49
namespace F98
abbrev R_:=Bool
noncomputable def H:Hd:=⟨[Sl,Sl],[Sz],(.seq .d (.seq .d (.cut [] [] (.seq .d (.blk (.loop [0,1,5] [] .d))) .d))),⟨[],gl,false⟩,[],f98⟩
def t4(a b:LI)(f:Int):S:=⟨[(0,vl a),(1,vl b),(5,vi f)],[],[]⟩
def z4:Nat→S→Option R_:=H.i P_ [r,r,l,r,d]
def x6:Option R_:=H.e P_ [r,r,r] ⟨[],[],[]⟩
def x4(a b:LI)(f:Int):Option R_:=H.e P_ [r,r,l,r,d] (t4 a b f)
theorem e6:x6=Xg:=by kernel_rfl
theorem i4(a b:LI):∀(q:Nat) (f:Int),z4 q (t4 a b f)=Nn a b q f:=
 ind (fun _=>by kernel_rfl) fun q ih f=>Eq.trans (b:=Xn x6 (fun f=>(z4 q) (t4 a b f)) a b f) (by kernel_rfl) (by simp only[e6,ih]<;>rfl)
theorem e4:x4=Xq:=by funext a b f;exact Eq.trans (by kernel_rfl) ((i4 a b Cv f).trans (by rw[Ar];rfl))
noncomputable def F:=u2 Ads
theorem rn x:H.u P_ x=F x:=Eq.trans (b:=u2 (Xo x4) x) (by kernel_rfl) (by simp only[e4]<;>rfl)
noncomputable def c:Con:=⟨H.p,H.r,F⟩
theorem ok:ConOk P_ gl 98 c:=co H func98 .nil rn
end F98
namespace F50
noncomputable def H:Hd:=⟨[Si,Sq,Sl],[Sz], .d,⟨[(93,F93.c),(98,F98.c)],gl,false⟩,[],f50⟩
noncomputable def F:=u3 Wz
theorem rn x:H.u P_ x=F x:=by kernel_rfl
noncomputable def c:Con:=⟨H.p,H.r,F⟩
theorem ok:ConOk P_ gl 50 c:=co H func50 (.cons F93.ok (.cons F98.ok .nil)) rn
end F50
namespace F18
noncomputable def H:Hd:=⟨[],[Sz], .d,⟨[(48,F48.c),(49,F49.c),(50,F50.c)],gl,false⟩,[],f18⟩
noncomputable def F(x:Unit):=Qw
theorem rn x:H.u P_ x=F x:=by kernel_rfl
noncomputable def c:Con:=⟨H.p,H.r,F⟩
theorem ok:ConOk P_ gl 18 c:=co H func18 (.cons F48.ok (.cons F49.ok (.cons F50.ok .nil))) rn
end F18
namespace F19
abbrev R_:=(Int×Int)
abbrev K_:=S→Option R_
noncomputable def H:Hd:=⟨[Ss,Sb,Si,Si],[Si,Si],(.seq .d (.seq .d (.seq .d (.seq .d (.seq .d (.seq .d (.cut [14] [] (.seq .d (.blk (.loop [0,1,2,3,12,13,14,66,67] [] (.seq .d (.seq .d (.cut [0,1,2,3,12,13,14,66,67] [] (.blk (.seq .d (.seq .d (.seq .d (.cut [0,1,2,3,12,13,14,16,17,66,67] [] (.seq .d (.blk (.loop [0,1,2,3,12,13,14,15,16,17,66,67,70,71] [⟨16,[], .own 3 (.int .i64)⟩] .d))) .d))))) .d)))))) .d))))))),⟨[(11,F11.c),(51,F51.c),(52,F52.c)],gl,false⟩,[],f19⟩
def t17(g b:LB)(f a:Int)(h:LB)(k n m o u:Int)(p:LI):S:=⟨[(0,vs g),(1,vb b),(2,vi f),(3,vi a),(12,vb h),(13,vi k),(14,vi n),(15,vi m),(16, .own 0),(17,vi o),(66,vi (Df (1:Int) (GI.toZ a).toNat)),(67,vi m),(70,vi a),(71,vi u)],[Ai 3 p],[]⟩
def z17(kn12:K_):Nat→S→Option R_:=H.i P_ [r,r,r,r,r,r,l,r,d,(lp kn12),r,r,l,d,r,r,r,l,r,d]
def t12(g b:LB)(f a:Int)(h:LB)(k n m:Int):S:=⟨[(0,vs g),(1,vb b),(2,vi f),(3,vi a),(12,vb h),(13,vi k),(14,vi n),(66,vi (Df (1:Int) (GI.toZ a).toNat)),(67,vi m)],[],[]⟩
def z12:Nat→S→Option R_:=H.i P_ [r,r,r,r,r,r,l,r,d]
def x22(n:Int):Option R_:=H.e P_ [r,r,r,r,r,r,r] ⟨[(14,vi n)],[],[]⟩
def x20(kn12:K_)(g b:LB)(f a:Int)(h:LB)(k m v:Int):Option R_:=H.e P_ [r,r,r,r,r,r,l,r,d,(lp kn12),r,r,r] ⟨[(0,vs g),(1,vb b),(2,vi f),(3,vi a),(12,vb h),(13,vi k),(14,vi v),(66,vi (Df (1:Int) (GI.toZ a).toNat)),(67,vi m)],[],[]⟩
def x19(kn12:K_)(g b:LB)(f a:Int)(h:LB)(k n o m:Int)(p:LI):Option R_:=H.e P_ [r,r,r,r,r,r,l,r,d,(lp kn12),r,r,l,d,r,r,r,r] ⟨[(0,vs g),(1,vb b),(2,vi f),(3,vi a),(12,vb h),(13,vi k),(14,vi n),(16, .own 0),(17,vi o),(66,vi (Df (1:Int) (GI.toZ a).toNat)),(67,vi m)],[Ai 3 p],[]⟩
def x17(kn12:K_)(g b:LB)(f a:Int)(h:LB)(k n m o u:Int)(p:LI):Option R_:=H.e P_ [r,r,r,r,r,r,l,r,d,(lp kn12),r,r,l,d,r,r,r,l,r,d] (t17 g b f a h k n m o u p)
def x12(g b:LB)(f a:Int)(h:LB)(k n m:Int):Option R_:=H.e P_ [r,r,r,r,r,r,l,r,d] (t12 g b f a h k n m)
theorem e22:x22=Ar5:=by kernel_rfl
theorem e20(kn12:K_)(g b:LB)(f a:Int)(h:LB)(k:Int):x20 kn12 g b f a h k=Mz (fun n m=>kn12 (t12 g b f a h k n m)) g b f a h k:=by kernel_rfl
theorem e19(kn12:K_)(g b:LB)(f a:Int)(h:LB)(k:Int):x19 kn12 g b f a h k=Ag9 (fun n m=>kn12 (t12 g b f a h k n m)) g b f a h k:=Eq.trans (b:=Ahz (x20 kn12 g b f a h k) g b f a h k) (by kernel_rfl) (by simp only[e20]<;>rfl)
theorem i17(kn12:K_)(g b:LB)(f a:Int)(h:LB)(k n m:Int):∀(q:Nat) (o u:Int) (p:LI),z17 kn12 q (t17 g b f a h k n m o u p)=My (fun n m=>kn12 (t12 g b f a h k n m)) g b f a h k n m q o u p:=
 ind (fun _ _ _=>by kernel_rfl) fun q ih o u p=>Eq.trans (b:=Xz (x19 kn12 g b f a h k) (fun o u p=>(z17 kn12 q) (t17 g b f a h k n m o u p)) g b f a h k n m o u p) (by kernel_rfl) (by simp only[e19,ih]<;>rfl)
theorem e17(kn12:K_)(g b:LB)(f a:Int)(h:LB)(k:Int):x17 kn12 g b f a h k=Ag6 (fun n m=>kn12 (t12 g b f a h k n m)) g b f a h k:=by funext n m o u p;exact Eq.trans (by kernel_rfl) ((i17 kn12 g b f a h k n m Cv o u p).trans (by rw[Ar];rfl))
theorem i12(g b:LB)(f a:Int)(h:LB)(k:Int):∀(q:Nat) (n m:Int),z12 q (t12 g b f a h k n m)=Na g b f a h k q n m:=
 ind (fun _ _=>by kernel_rfl) fun q ih n m=>Eq.trans (b:=Aht (x17 (z12 q) g b f a h k) x22 g b f a h k n m) (by kernel_rfl) (by simp only[e17,e22,ih]<;>rfl)
theorem e12:x12=Ahy:=by funext g b f a h k n m;exact Eq.trans (by kernel_rfl) ((i12 g b f a h k Cv n m).trans (by rw[Ar];rfl))
noncomputable def F:=u4 Aug
theorem rn x:H.u P_ x=F x:=Eq.trans (b:=u4 (Ajz x12) x) (by kernel_rfl) (by simp only[e12]<;>rfl)
noncomputable def c:Con:=⟨H.p,H.r,F⟩
theorem ok:ConOk P_ gl 19 c:=co H func19 (.cons F11.ok (.cons F51.ok (.cons F52.ok .nil))) rn
end F19
namespace F5
noncomputable def H:Hd:=⟨[Ss,Sb,Si,Si],[Sz], .d,⟨[(18,F18.c),(19,F19.c)],gl,false⟩,[],f5⟩
noncomputable def F:=u4 Jv
theorem rn x:H.u P_ x=F x:=by kernel_rfl
noncomputable def c:Con:=⟨H.p,H.r,F⟩
theorem ok:ConOk P_ gl 5 c:=co H func5 (.cons F18.ok (.cons F19.ok .nil)) rn
end F5
end
end Go.Proofs.YtfcmocdmhnafcaaGreatDoor
