/- A part of the proof of a statement of this seat (see the text that ends in Proof): SrOk. No conditions of its own. -/
import Derived.Test.YtkkcakakemjdeaaGreatDoorSrBB
import Derived.Test.YtkkcakakemjdeaaGreatDoorSrPA
import Derived.Test.YtkkcakakemjdeaaGreatDoorSrHA
import Derived.Test.YtkkcakakemjdeaaGreatDoorProg
import Derived.KernelRfl
set_option linter.unusedVariables false
set_option linter.unusedSimpArgs false
set_option maxRecDepth 10000
namespace Go.Proofs.YtkkcakakemjdeaaGreatDoor
open Go Go.Lv Go.Pl Go.Rx Go.Rx.PS
noncomputable section
def g0:List Value:=[.int .i64 2, .int .i64 2, .int .i64 2, .int .i64 4, .int .i64 4]
def g3:List Value:=[.int .u8 0, .int .u8 1, .int .u8 56, .int .u8 2, .int .u8 57, .int .u8 49, .int .u8 28, .int .u8 3, .int .u8 61, .int .u8 58, .int .u8 42, .int .u8 50, .int .u8 38, .int .u8 29, .int .u8 17, .int .u8 4, .int .u8 62, .int .u8 47, .int .u8 59, .int .u8 36, .int .u8 45, .int .u8 43, .int .u8 51, .int .u8 22, .int .u8 53, .int .u8 39, .int .u8 33, .int .u8 30, .int .u8 24, .int .u8 18, .int .u8 12, .int .u8 5, .int .u8 63, .int .u8 55, .int .u8 48, .int .u8 27, .int .u8 60, .int .u8 41, .int .u8 37, .int .u8 16, .int .u8 46, .int .u8 35, .int .u8 44, .int .u8 21, .int .u8 52, .int .u8 32, .int .u8 23, .int .u8 11, .int .u8 54, .int .u8 26, .int .u8 40, .int .u8 15, .int .u8 34, .int .u8 20, .int .u8 31, .int .u8 10, .int .u8 25, .int .u8 14, .int .u8 19, .int .u8 9, .int .u8 13, .int .u8 8, .int .u8 7, .int .u8 6]
def gl:List (Nat×List Value):=[(0,g0),(3,g3)]
theorem mixed:Tryz.prog.follows .mixedOrders=true:=by kernel_rfl
noncomputable abbrev P_:=Tryz.prog
theorem cr(H:Hd){f:Nat}{F:LTy (shL H.p)→Option (LTy (shL H.r))}(hf:P_.funcs[f]? =some H.f)(hT:Aah P_ H.T)(hA:∀p∈H.s,Ent P_ p.1)(h:∀x,H.u P_ x=F x)(hb:okH H=true:=by kernel_rfl):ConOk P_ H.T.gl f ⟨H.p,H.r,F⟩:=Hd.con mixed H hf hT hA hb h
theorem co(H:Hd){f:Nat}{F:LTy (shL H.p)→Option (LTy (shL H.r))}(hf:P_.funcs[f]? =some H.f)(hT:Aah P_ H.T)(h:∀x,H.u P_ x=F x)(hb:(H.s.isEmpty&&okH H)=true:=by kernel_rfl):ConOk P_ H.T.gl f ⟨H.p,H.r,F⟩:=Hd.Cd8 mixed H hf hT hb h
theorem ent17:Ent Tryz.prog 17:=Ent.mk Tryz.func17 (by kernel_rfl) rfl
theorem ent35:Ent Tryz.prog 35:=Ent.mk Tryz.func35 (by kernel_rfl) rfl
theorem ent40:Ent Tryz.prog 40:=Ent.mk Tryz.func40 (by kernel_rfl) rfl
theorem ent43:Ent Tryz.prog 43:=Ent.mk Tryz.func43 (by kernel_rfl) rfl
theorem ent44:Ent Tryz.prog 44:=Ent.mk Tryz.func44 (by kernel_rfl) rfl
theorem ent89:Ent Tryz.prog 89:=Ent.mk Tryz.func89 (by kernel_rfl) rfl
theorem ent90:Ent Tryz.prog 90:=Ent.mk Tryz.func90 (by kernel_rfl) rfl
theorem ent119:Ent Tryz.prog 119:=Ent.mk Tryz.func119 (by kernel_rfl) rfl
theorem ent131:Ent Tryz.prog 131:=Ent.mk Tryz.func131 (by kernel_rfl) rfl
theorem ent158:Ent Tryz.prog 158:=Ent.mk Tryz.func158 (by kernel_rfl) rfl
theorem ent161:Ent Tryz.prog 161:=Ent.mk Tryz.func161 (by kernel_rfl) rfl
theorem ent165:Ent Tryz.prog 165:=Ent.mk Tryz.func165 (by kernel_rfl) rfl
theorem ent166:Ent Tryz.prog 166:=Ent.mk Tryz.func166 (by kernel_rfl) rfl
theorem ent167:Ent Tryz.prog 167:=Ent.mk Tryz.func167 (by kernel_rfl) rfl
theorem ent170:Ent Tryz.prog 170:=Ent.mk Tryz.func170 (by kernel_rfl) rfl
theorem ent177:Ent Tryz.prog 177:=Ent.mk Tryz.func177 (by kernel_rfl) rfl
theorem ent187:Ent Tryz.prog 187:=Ent.mk Tryz.func187 (by kernel_rfl) rfl
theorem ent190:Ent Tryz.prog 190:=Ent.mk Tryz.func190 (by kernel_rfl) rfl
theorem ent193:Ent Tryz.prog 193:=Ent.mk Tryz.func193 (by kernel_rfl) rfl
theorem ent196:Ent Tryz.prog 196:=Ent.mk Tryz.func196 (by kernel_rfl) rfl
theorem ent208:Ent Tryz.prog 208:=Ent.mk Tryz.func208 (by kernel_rfl) rfl
theorem ent209:Ent Tryz.prog 209:=Ent.mk Tryz.func209 (by kernel_rfl) rfl
theorem ent214:Ent Tryz.prog 214:=Ent.mk Tryz.func214 (by kernel_rfl) rfl
abbrev u2{A B R:Type}(f:A→B→R)(x:A×B):=f x.1 x.2
abbrev u3{A B C R:Type}(f:A→B→C→R):=u2 fun a=>u2 (f a)
abbrev u4{A B C D R:Type}(f:A→B→C→D→R):=u2 fun a=>u3 (f a)
abbrev u5{A B C D E R:Type}(f:A→B→C→D→E→R):=u2 fun a=>u4 (f a)
abbrev u6{A B C D E F R:Type}(f:A→B→C→D→E→F→R):=u2 fun a=>u5 (f a)
abbrev u7{A B C D E F G R:Type}(f:A→B→C→D→E→F→G→R):=u2 fun a=>u6 (f a)
open Go.Proofs.Tryz
namespace F157
noncomputable def H:Hd:=⟨[.agg [Si,Si,Si,Sw]],[.agg [Si,Si]], .d,⟨[],gl,false⟩,[],f157⟩
noncomputable def F:=u4 Auf
theorem rn x:H.u P_ x=F x:=by kernel_rfl
noncomputable def c:Con:=⟨H.p,H.r,F⟩
theorem ok:ConOk P_ gl 157 c:=co H func157 .nil rn
end F157
namespace F100
abbrev R_:=(Int32×Int32×Int)
noncomputable def H:Hd:=⟨[Si],[Sx,Sx,Si],(.seq .d (.seq (.seq .d (.blk (.cut [0,7] [] .d .d))) .d)),⟨[],gl,false⟩,[],f100⟩
def x2(a:Int)(b:Bool):Option R_:=H.e P_ [r,l,r,d,r] ⟨[(0,vi a),(7,vt b)],[],[]⟩
theorem e2:x2=Ara:=by kernel_rfl
noncomputable def F:=Ad1
theorem rn x:H.u P_ x=F x:=Eq.trans (b:=Aqy x2 x) (by kernel_rfl) (by simp only[e2]<;>rfl)
noncomputable def c:Con:=⟨H.p,H.r,F⟩
theorem ok:ConOk P_ gl 100 c:=co H func100 .nil rn
end F100
namespace F94
noncomputable def H:Hd:=⟨[.agg [Si,Si]],[Si], .d,⟨[(100,F100.c)],gl,false⟩,[],f94⟩
noncomputable def F:=u2 Oc
theorem rn x:H.u P_ x=F x:=by kernel_rfl
noncomputable def c:Con:=⟨H.p,H.r,F⟩
theorem ok:ConOk P_ gl 94 c:=co H func94 (.cons F100.ok .nil) rn
end F94
namespace F50
noncomputable def H:Hd:=⟨[Si],[Si,Si], .d,⟨[],gl,false⟩,[],f50⟩
noncomputable def F:=Rt
theorem rn x:H.u P_ x=F x:=by kernel_rfl
noncomputable def c:Con:=⟨H.p,H.r,F⟩
theorem ok:ConOk P_ gl 50 c:=co H func50 .nil rn
end F50
namespace F49
noncomputable def H:Hd:=⟨[Si,Si],[Si,Si], .d,⟨[(50,F50.c)],gl,false⟩,[],f49⟩
noncomputable def F:=u2 Lf
theorem rn x:H.u P_ x=F x:=by kernel_rfl
noncomputable def c:Con:=⟨H.p,H.r,F⟩
theorem ok:ConOk P_ gl 49 c:=co H func49 (.cons F50.ok .nil) rn
end F49
namespace F182
noncomputable def H:Hd:=⟨[.agg [Si,Si,Si,Sw],Si],[Si], .d,⟨[(49,F49.c),(94,F94.c),(157,F157.c)],gl,false⟩,[],f182⟩
noncomputable def F:=u5 Bf7
theorem rn x:H.u P_ x=F x:=by kernel_rfl
noncomputable def c:Con:=⟨H.p,H.r,F⟩
theorem ok:ConOk P_ gl 182 c:=co H func182 (.cons F49.ok (.cons F94.ok (.cons F157.ok .nil))) rn
end F182
namespace F47
abbrev R_:=Int
noncomputable def H:Hd:=⟨[Si,Sw],[Si],(.seq .d (.seq .d (.seq .d (.seq .d (.cut [] [] (.seq .d (.blk (.loop [5,6,22,23,24] [] .d))) .d))))),⟨[(100,F100.c)],gl,false⟩,[],f47⟩
def t4(b f:Int32)(a:LX)(g:Int):S:=⟨[(5,vx b),(6,vx f),(22,vw a),(23,vi (Ac a)),(24,vi g)],[],[]⟩
def z4:Nat→S→Option R_:=H.i P_ [r,r,r,r,l,r,d]
def x6:Option R_:=H.e P_ [r,r,r,r,r] ⟨[],[],[]⟩
def x4(b f:Int32)(a:LX)(g:Int):Option R_:=H.e P_ [r,r,r,r,l,r,d] (t4 b f a g)
theorem e6:x6=Aqb:=by kernel_rfl
theorem i4(b f:Int32)(a:LX):∀(q:Nat) (g:Int),z4 q (t4 b f a g)=Mb b f a q g:=
 ind (fun _=>by kernel_rfl) fun q ih g=>Eq.trans (b:=Xk x6 (fun g=>(z4 q) (t4 b f a g)) b f a g) (by kernel_rfl) (by simp only[e6,ih]<;>rfl)
theorem e4:x4=Arm:=by funext b f a g;exact Eq.trans (by kernel_rfl) ((i4 b f a Cf g).trans (by rw[Ar];rfl))
noncomputable def F:=u2 Ql
theorem rn x:H.u P_ x=F x:=Eq.trans (b:=u2 (Agf x4) x) (by kernel_rfl) (by simp only[e4]<;>rfl)
noncomputable def c:Con:=⟨H.p,H.r,F⟩
theorem ok:ConOk P_ gl 47 c:=co H func47 (.cons F100.ok .nil) rn
end F47
namespace F154
noncomputable def H:Hd:=⟨[.agg [Si,Si,Si,Sw]],[Si], .d,⟨[(47,F47.c),(182,F182.c)],gl,false⟩,[],f154⟩
noncomputable def F:=u4 Abr
theorem rn x:H.u P_ x=F x:=by kernel_rfl
noncomputable def c:Con:=⟨H.p,H.r,F⟩
theorem ok:ConOk P_ gl 154 c:=co H func154 (.cons F47.ok (.cons F182.ok .nil)) rn
end F154
namespace F115
def Aeg(j2:LB→Int→Int→Int→LX→Option (Int×Int×Int×Int×Int×Int))(a b f:Int)(g:LX)(h:LB):Option (Int×Int×Int×Int×Int×Int):=
(Abr a b f g).bind fun k=>
if(Bb k 0)then
some (0,0,0,0,0,k)
else
if(El (Ac h) 64)then
some (0,0,0,0,0,2)
else
(Gj (Bb a 0)).bind fun _=>
bo (
j2 h a b f g)
theorem Aul: @Aeg= @Ahq:=by
  unfold Aeg Ahq
  simp only[Avw,Amb,Ank]
abbrev R_:=(Int×Int×Int×Int×Int×Int)
noncomputable def H:Hd:=⟨[.agg [Si,Si,Si,Sw],Ss],[.agg [Si,Si,Si,Si,Si],Si],(.seq .d (.seq .d (.seq .d (.cut [1,4,7] [] .d .d)))),⟨[(154,F154.c)],gl,false⟩,[],f115⟩
def x2(h:LB)(a b f:Int)(g:LX):Option R_:=H.e P_ [r,r,r,r] ⟨[(1,vs h),(4, .ptr 0 []),(7, .ptr 1 [])],[.box 26 (.agg [vi 0,vi 0,vi 0,vi 0,vi 0]), .box 26 (.agg [vi 1,vi a,vi b,vi f,vi (Bq (Ac g) a)])],[]⟩
theorem e2:x2=Aqz:=by kernel_rfl
noncomputable def F:=u5 Aze
theorem rn x:H.u P_ x=F x:=Eq.trans (b:=u5 (Aeg x2) x) (by kernel_rfl) (by unfold F;rw[Aul];simp only[e2]<;>rfl)
noncomputable def c:Con:=⟨H.p,H.r,F⟩
theorem ok:ConOk P_ gl 115 c:=co H func115 (.cons F154.ok .nil) rn
end F115
namespace F135
abbrev R_:=(UInt64×Int)
abbrev K_:=S→Option R_
noncomputable def H:Hd:=⟨[Sq,Sb],[Sq,Si],(.seq .d (.seq .d (.cut [4,5] [] (.keep [0,1,4,5,9,10,11,12] true) .d))),⟨[],gl,false⟩,[(165,(.seq .d (.cut [1] [] (.seq .d (.blk (.loop [0,1,9,10,11] [] .d))) .d))),(166,(.seq .d (.seq .d (.cut [1] [] (.seq .d (.blk (.loop [1,5] [] (.seq .d (.seq .d (.cut [1,5] [] (.blk (.seq .d (.seq .d (.cut [1,2,3,5] [] (.seq .d (.blk (.loop [1,2,3,5,11] [] .d))) .d)))) .d)))))) .d))))],f135⟩
def t27(a:LB)(b:UInt64)(f:LQ)(h:UInt64)(m:Int):S:=⟨[(0, .ptr 0 []),(1,vq h),(9,vb a),(10,vi (Ac a)),(11,vi m)],[.box 273 (.val (.vec 256 (.int .u64)) f)],[[(0,vq b),(1,vb a),(4,vq 0),(5,vi 0),(9, .ptr 0 []),(10,vq b),(11,vb a)]]⟩
def z27:Nat→S→Option R_:=H.i P_ [r,r,l,(call 3 165),r,l,r,d]
def t21(b:UInt64)(a:LB)(g:Int)(f:LQ)(k:UInt64)(n:Int):S:=⟨[(1, .ptr 0 []),(2,vi g),(3,vq k),(5,vi g),(11,vi n)],[.box 273 (.val (.vec 256 (.int .u64)) f)],[[(0,vq b),(1,vb a),(4,vq 0),(5,vi 0)]]⟩
def z21(kn16:K_):Nat→S→Option R_:=H.i P_ [r,r,l,(call 0 166),r,r,l,r,d,(lp kn16),r,r,l,d,r,r,l,r,d]
def t16(b:UInt64)(a:LB)(g:Int)(f:LQ):S:=⟨[(1, .ptr 0 []),(5,vi g)],[.box 273 (.val (.vec 256 (.int .u64)) f)],[[(0,vq b),(1,vb a),(4,vq 0),(5,vi 0)]]⟩
def z16:Nat→S→Option R_:=H.i P_ [r,r,l,(call 0 166),r,r,l,r,d]
def x30(h:UInt64):Option R_:=H.e P_ [r,r,r] ⟨[(4,vq h),(5,vi 0)],[],[]⟩
def x29(h b:UInt64)(a:LB)(f:LQ):Option R_:=H.e P_ [r,r,l,(call 3 165),r,r] ⟨[(1,vq h)],[.box 273 (.val (.vec 256 (.int .u64)) f)],[[(0,vq b),(1,vb a),(4,vq 0),(5,vi 0),(9, .ptr 0 []),(10,vq b),(11,vb a)]]⟩
def x27(a:LB)(b:UInt64)(f:LQ)(h:UInt64)(m:Int):Option R_:=H.e P_ [r,r,l,(call 3 165),r,l,r,d] (t27 a b f h m)
def x26(b:UInt64)(a:LB)(f:LQ):Option R_:=H.e P_ [r,r,l,(call 0 166),r,r,r] ⟨[(1, .ptr 0 [])],[.box 273 (.val (.vec 256 (.int .u64)) f)],[[(0,vq b),(1,vb a),(4,vq 0),(5,vi 0)]]⟩
def x24(kn16:K_)(b:UInt64)(a:LB)(g:Int)(o:LQ):Option R_:=H.e P_ [r,r,l,(call 0 166),r,r,l,r,d,(lp kn16),r,r,r] ⟨[(1, .ptr 0 []),(5,vi g)],[.box 273 (.val (.vec 256 (.int .u64)) o)],[[(0,vq b),(1,vb a),(4,vq 0),(5,vi 0)]]⟩
def x23(kn16:K_)(b:UInt64)(a:LB)(g:Int)(k:UInt64)(f:LQ):Option R_:=H.e P_ [r,r,l,(call 0 166),r,r,l,r,d,(lp kn16),r,r,l,d,r,r,r] ⟨[(1, .ptr 0 []),(2,vi g),(3,vq k),(5,vi g)],[.box 273 (.val (.vec 256 (.int .u64)) f)],[[(0,vq b),(1,vb a),(4,vq 0),(5,vi 0)]]⟩
def x21(kn16:K_)(b:UInt64)(a:LB)(g:Int)(f:LQ)(k:UInt64)(n:Int):Option R_:=H.e P_ [r,r,l,(call 0 166),r,r,l,r,d,(lp kn16),r,r,l,d,r,r,l,r,d] (t21 b a g f k n)
def x16(b:UInt64)(a:LB)(g:Int)(f:LQ):Option R_:=H.e P_ [r,r,l,(call 0 166),r,r,l,r,d] (t16 b a g f)
theorem e30:x30=Aie:=by kernel_rfl
theorem e29:x29=Aia:=Eq.trans (b:=Agh x30) (by kernel_rfl) (by simp only[e30]<;>rfl)
theorem i27(a:LB)(b:UInt64)(f:LQ):∀(q:Nat) (h:UInt64) (m:Int),z27 q (t27 a b f h m)=Mo a b f q h m:=
 ind (fun _ _=>by kernel_rfl) fun q ih h m=>Eq.trans (b:=Xl x29 (fun h m=>(z27 q) (t27 a b f h m)) a b f h m) (by kernel_rfl) (by simp only[e29,ih]<;>rfl)
theorem e27:x27=Ahz:=by funext a b f h m;exact Eq.trans (by kernel_rfl) ((i27 a b f Cf h m).trans (by rw[Ar];rfl))
theorem e26:x26=Zc:=Eq.trans (b:=Ahf x27) (by kernel_rfl) (by simp only[e27]<;>rfl)
theorem e24(kn16:K_)(b:UInt64)(a:LB):x24 kn16 b a=Agz (fun g f=>kn16 (t16 b a g f)) b a:=by kernel_rfl
theorem e23(kn16:K_)(b:UInt64)(a:LB):x23 kn16 b a=Zm (fun g f=>kn16 (t16 b a g f)) b a:=Eq.trans (b:=Ah3 (x24 kn16 b a) b a) (by kernel_rfl) (by simp only[e24]<;>rfl)
theorem i21(kn16:K_)(b:UInt64)(a:LB)(g:Int)(f:LQ):∀(q:Nat) (k:UInt64) (n:Int),z21 kn16 q (t21 b a g f k n)=Mc (fun g f=>kn16 (t16 b a g f)) b a g f q k n:=
 ind (fun _ _=>by kernel_rfl) fun q ih k n=>Eq.trans (b:=Zq (x23 kn16 b a) (fun k n=>(z21 kn16 q) (t21 b a g f k n)) b a g f k n) (by kernel_rfl) (by simp only[e23,ih]<;>rfl)
theorem e21(kn16:K_)(b:UInt64)(a:LB):x21 kn16 b a=Ahl (fun g f=>kn16 (t16 b a g f)) b a:=by funext g f k n;exact Eq.trans (by kernel_rfl) ((i21 kn16 b a g f Cf k n).trans (by rw[Ar];rfl))
theorem i16(b:UInt64)(a:LB):∀(q:Nat) (g:Int) (f:LQ),z16 q (t16 b a g f)=Jh b a q g f:=
 ind (fun _ _=>by kernel_rfl) fun q ih g f=>Eq.trans (b:=Xt (x21 (z16 q) b a) x26 b a g f) (by kernel_rfl) (by simp only[e21,e26,ih]<;>rfl)
theorem e16:x16=Ahn:=by funext b a g f;exact Eq.trans (by kernel_rfl) ((i16 b a Cf g f).trans (by rw[Ar];rfl))
noncomputable def F:=u2 Am3
theorem rn x:H.u P_ x=F x:=Eq.trans (b:=u2 (Aj0 x16) x) (by kernel_rfl) (by simp only[e16]<;>rfl)
noncomputable def c:Con:=⟨H.p,H.r,F⟩
theorem ok:ConOk P_ gl 135 c:=cr H func135 .nil (AnsOk.cons ent165 (AnsOk.cons ent166 AnsOk.nil)) rn
end F135
namespace F92
noncomputable def H:Hd:=⟨[Sb],[Sq,Si], .d,⟨[(135,F135.c)],gl,false⟩,[],f92⟩
noncomputable def F:=Ak1
theorem rn x:H.u P_ x=F x:=by kernel_rfl
noncomputable def c:Con:=⟨H.p,H.r,F⟩
theorem ok:ConOk P_ gl 92 c:=co H func92 (.cons F135.ok .nil) rn
end F92
namespace F93
abbrev R_:=LX
noncomputable def H:Hd:=⟨[Sq],[.lf (.vec 16 (.int .i32)) none],(.seq .d (.seq .d (.cut [2,3] [] (.seq .d (.blk (.loop [0,2,3,5] [] .d))) .d))),⟨[],gl,false⟩,[],f93⟩
def t4(f:UInt64)(b:Int)(a:LX):S:=⟨[(0,vq f),(2, .ptr 0 []),(3, .ptr 1 []),(5,vi b)],[.box 92 (.val (.vec 16 (.int .i32)) (List.replicate 16 (0:Int32))), .box 92 (.val (.vec 16 (.int .i32)) a)],[]⟩
def z4:Nat→S→Option R_:=H.i P_ [r,r,l,r,d]
def x6(a:LX):Option R_:=H.e P_ [r,r,r] ⟨[(2, .ptr 0 []),(3, .ptr 1 [])],[.box 92 (.val (.vec 16 (.int .i32)) (List.replicate 16 (0:Int32))), .box 92 (.val (.vec 16 (.int .i32)) a)],[]⟩
def x4(f:UInt64)(b:Int)(a:LX):Option R_:=H.e P_ [r,r,l,r,d] (t4 f b a)
theorem e6:x6=Bb0:=by kernel_rfl
theorem i4(f:UInt64):∀(q:Nat) (b:Int) (a:LX),z4 q (t4 f b a)=Aa9 f q b a:=
 ind (fun _ _=>by kernel_rfl) fun q ih b a=>Eq.trans (b:=Alr x6 (fun b a=>(z4 q) (t4 f b a)) f b a) (by kernel_rfl) (by simp only[e6,ih]<;>rfl)
theorem e4:x4=Bee:=by funext f b a;exact Eq.trans (by kernel_rfl) ((i4 f Cf b a).trans (by rw[Ar];rfl))
noncomputable def F:=Bhe
theorem rn x:H.u P_ x=F x:=Eq.trans (b:=Bcw x4 x) (by kernel_rfl) (by simp only[e4]<;>rfl)
noncomputable def c:Con:=⟨H.p,H.r,F⟩
theorem ok:ConOk P_ gl 93 c:=co H func93 .nil rn
end F93
namespace F45
noncomputable def H:Hd:=⟨[Ss],[.lf (.vec 16 (.int .i32)) none,Si], .d,⟨[(92,F92.c),(93,F93.c)],gl,false⟩,[],f45⟩
noncomputable def F:=Rw
theorem rn x:H.u P_ x=F x:=by kernel_rfl
noncomputable def c:Con:=⟨H.p,H.r,F⟩
theorem ok:ConOk P_ gl 45 c:=co H func45 (.cons F92.ok (.cons F93.ok .nil)) rn
end F45
namespace F192
noncomputable def H:Hd:=⟨[Sq,Sq],[Sq,Sq], .d,⟨[],gl,false⟩,[],f192⟩
noncomputable def F:=u2 Aeq
theorem rn x:H.u P_ x=F x:=by kernel_rfl
noncomputable def c:Con:=⟨H.p,H.r,F⟩
theorem ok:ConOk P_ gl 192 c:=co H func192 .nil rn
end F192
namespace F163
noncomputable def H:Hd:=⟨[Sq,Sq],[Sq,Sq], .d,⟨[(192,F192.c)],gl,false⟩,[],f163⟩
noncomputable def F:=u2 Ab2
theorem rn x:H.u P_ x=F x:=by kernel_rfl
noncomputable def c:Con:=⟨H.p,H.r,F⟩
theorem ok:ConOk P_ gl 163 c:=co H func163 (.cons F192.ok .nil) rn
end F163
namespace F129
def Kn(j10:LI→Option (LI))(bk8:Int→LI→Option (LI))(b:Int)(a:LI):Option (LI):=
if(Bt b (Ac a))then
both (
(vwI (Ac a) b (Ac a)).bind fun _=>
(vwI (Ac a) 0 b).bind fun _=>
bk8 (Ad b (Ah0 ((Ac a)-b) (Aj9 a 0 (b-(0:Int))).length)) (Oh a b ((Ac a)-b) (Aj9 a 0 (b-(0:Int))))) [
(vwI (Ac a) 0 b).bind fun _=>
(vwI (Ac a) b (Ac a)).bind fun _=>
bk8 (Ad b (Ah0 ((Ac a)-b) (Aj9 a 0 (b-(0:Int))).length)) (Oh a b ((Ac a)-b) (Aj9 a 0 (b-(0:Int))))]
else
j10 a
theorem Aej: @Kn= @Eu:=by
  unfold Kn Eu
  repeat (refine funext fun _=>?_)
  repeat' first
    |with_reducible rfl
    |with_reducible refine Qy ?_ ?_
    |with_reducible refine Qh ?_ ?_ ?_
    |with_reducible refine Qi ?_ ?_ ?_ ?_
    |((with_reducible refine Zu ?_ ?_);focus (intro h;first|(subst h;rfl)|(simp only[h];rfl)|(simp[Ew,Ac,h];done)))
    |with_reducible refine Aaa fun x=>?_
    |with_reducible refine Agm (fun _=>?_) (fun _=>?_)
    |(refine Jg (fun h=>by simp only[h,Xm,Gm,Fz,ite_self]) (fun x h=>?_);(try simp only[h,Gm]))
    |(refine Md (fun h=>?_) (fun h=>?_)<;>simp only[h,if_true,if_false,Bool.false_eq_true])
abbrev R_:=LI
noncomputable def H:Hd:=⟨[Sl,Si],[Ol 3],(.seq .d (.cut [0,1] [] .d (.seq .d (.cut [0,6] [] .d (.seq .d (.seq .d (.cut [7] [] (.blk (.loop [7,8] [] (.seq .d (.blk (.mode false))))) .d))))))),⟨[(163,F163.c)],gl,true⟩,[],f129⟩
def t8(b:Int)(a:LI):S:=⟨[(7, .own 0),(8,vi b)],[Ai 3 a],[]⟩
def z8:Nat→S→Option R_:=H.i P_ [r,r,r,r,r,r,l,d]
def x10(a:LI):Option R_:=H.e P_ [r,r,r,r,r,r,r] ⟨[(7, .own 0)],[Ai 3 a],[]⟩
def x8(b:Int)(a:LI):Option R_:=H.e P_ [r,r,r,r,r,r,l,d] (t8 b a)
def x7(f:LI)(g:UInt64):Option R_:=H.e P_ [r,r,r,r] ⟨[(0,vl f),(6,vq g)],[],[]⟩
def x6(f:LI)(h:Int):Option R_:=H.e P_ [r,r] ⟨[(0,vl f),(1,vi h)],[],[]⟩
theorem e10:x10=Gn:=by kernel_rfl
theorem i8:∀(q:Nat) (b:Int) (a:LI),z8 q (t8 b a)=Dd q b a:=
 ind (fun _ _=>by kernel_rfl) fun q ih b a=>Eq.trans (b:=Kn x10 (fun b a=>(z8 q) (t8 b a)) b a) (by kernel_rfl) (by rw[Aej];simp only[e10,ih]<;>rfl)
theorem e8:x8=Ln:=by funext b a;exact Eq.trans (by kernel_rfl) ((i8 Cf b a).trans (by rw[Ar];rfl))
theorem e7:x7=Lk:=Eq.trans (b:=Lc x8) (by kernel_rfl) (by simp only[e8]<;>rfl)
theorem e6:x6=Ll:=Eq.trans (b:=Le x7) (by kernel_rfl) (by simp only[e7]<;>rfl)
noncomputable def F:=u2 Jz
theorem rn x:H.u P_ x=F x:=Eq.trans (b:=u2 (Lb x6) x) (by kernel_rfl) (by simp only[e6]<;>rfl)
noncomputable def c:Con:=⟨H.p,H.r,F⟩
theorem ok:ConOk P_ gl 129 c:=co H func129 (.cons F163.ok .nil) rn
end F129
namespace F164
abbrev R_:=LI
noncomputable def H:Hd:=⟨[.lf (.list (.list (.int .i64))) none],[Ol 3],(.seq .d (.seq .d (.cut [0,3] [] (.seq .d (.blk (.loop [0,3,9,10,11] [] .d))) (.cut [0,6] [⟨6,[], .own 3 (.int .i64)⟩] (.keep [0,3,6,23,24] true) (.cut [6] [] (.seq .d (.blk (.loop [6,25,26,27] [] .d))) .d))))),⟨[],gl,true⟩,[(193,(.seq .d (.cut [0,1] [] .d .d)))],f164⟩
def t14(a:List LI)(g:Int)(f:LI):S:=⟨[(6, .own 0),(25, .val (.list (.list (.int .i64))) a),(26,vi (Ac a)),(27,vi g)],[Ai 3 f],[]⟩
def z14:Nat→S→Option R_:=H.i P_ [r,r,r,r,l,r,d]
def t9(a:List LI)(b h:Int):S:=⟨[(0, .val (.list (.list (.int .i64))) a),(3,vi b),(9, .val (.list (.list (.int .i64))) a),(10,vi (Ac a)),(11,vi h)],[],[]⟩
def z9:Nat→S→Option R_:=H.i P_ [r,r,l,r,d]
def x16(f:LI):Option R_:=H.e P_ [r,r,r,r,r] ⟨[(6, .own 0)],[Ai 3 f],[]⟩
def x14(a:List LI)(g:Int)(f:LI):Option R_:=H.e P_ [r,r,r,r,l,r,d] (t14 a g f)
def x13(a:List LI)(k:LI):Option R_:=H.e P_ [r,r,r,r] ⟨[(0, .val (.list (.list (.int .i64))) a),(6, .own 0)],[Ai 3 k],[]⟩
def x12(b:Int)(a:List LI):Option R_:=H.e P_ [r,r,r,l,(call 1 193),r,r] ⟨[(0, .nils),(1,vi b)],[],[[(0, .val (.list (.list (.int .i64))) a),(3,vi b),(23,vi b)]]⟩
def x11(a:List LI)(b:Int):Option R_:=H.e P_ [r,r,r] ⟨[(0, .val (.list (.list (.int .i64))) a),(3,vi b)],[],[]⟩
def x9(a:List LI)(b h:Int):Option R_:=H.e P_ [r,r,l,r,d] (t9 a b h)
theorem e16:x16=Sk:=by kernel_rfl
theorem i14(a:List LI):∀(q:Nat) (g:Int) (f:LI),z14 q (t14 a g f)=Cu a q g f:=
 ind (fun _ _=>by kernel_rfl) fun q ih g f=>Eq.trans (b:=Ek x16 (fun g f=>(z14 q) (t14 a g f)) a g f) (by kernel_rfl) (by simp only[e16,ih]<;>rfl)
theorem e14:x14=Kl:=by funext a g f;exact Eq.trans (by kernel_rfl) ((i14 a Cf g f).trans (by rw[Ar];rfl))
theorem e13:x13=Gl:=Eq.trans (b:=Kk x14) (by kernel_rfl) (by simp only[e14]<;>rfl)
theorem e12:x12=Km:=Eq.trans (b:=Ki x13) (by kernel_rfl) (by simp only[e13]<;>rfl)
theorem e11:x11=Kj:=Eq.trans (b:=Kf x12) (by kernel_rfl) (by simp only[e12]<;>rfl)
theorem i9(a:List LI):∀(q:Nat) (b h:Int),z9 q (t9 a b h)=Dg a q b h:=
 ind (fun _ _=>by kernel_rfl) fun q ih b h=>Eq.trans (b:=Ev x11 (fun b h=>(z9 q) (t9 a b h)) a b h) (by kernel_rfl) (by simp only[e11,ih]<;>rfl)
theorem e9:x9=Lh:=by funext a b h;exact Eq.trans (by kernel_rfl) ((i9 a Cf b h).trans (by rw[Ar];rfl))
noncomputable def F:=Jv
theorem rn x:H.u P_ x=F x:=Eq.trans (b:=Ld x9 x) (by kernel_rfl) (by simp only[e9]<;>rfl)
noncomputable def c:Con:=⟨H.p,H.r,F⟩
theorem ok:ConOk P_ gl 164 c:=cr H func164 .nil (AnsOk.cons ent193 AnsOk.nil) rn
end F164
namespace F130
noncomputable def H:Hd:=⟨[Sl,Sl],[Ol 3], .d,⟨[(164,F164.c)],gl,false⟩,[],f130⟩
noncomputable def F:=u2 Aif
theorem rn x:H.u P_ x=F x:=by kernel_rfl
noncomputable def c:Con:=⟨H.p,H.r,F⟩
theorem ok:ConOk P_ gl 130 c:=co H func130 (.cons F164.ok .nil) rn
end F130
namespace F86
noncomputable def H:Hd:=⟨[Si,Si],[Ol 3,Si], .d,⟨[(49,F49.c),(50,F50.c),(129,F129.c),(130,F130.c)],gl,false⟩,[],f86⟩
noncomputable def F:=u2 Qm
theorem rn x:H.u P_ x=F x:=by kernel_rfl
noncomputable def c:Con:=⟨H.p,H.r,F⟩
theorem ok:ConOk P_ gl 86 c:=co H func86 (.cons F49.ok (.cons F50.ok (.cons F129.ok (.cons F130.ok .nil)))) rn
end F86
namespace F202
noncomputable def H:Hd:=⟨[.agg [Si,Si],Sw],[Si], .d,⟨[(47,F47.c),(94,F94.c)],gl,false⟩,[],f202⟩
noncomputable def F:=u3 At4
theorem rn x:H.u P_ x=F x:=by kernel_rfl
noncomputable def c:Con:=⟨H.p,H.r,F⟩
theorem ok:ConOk P_ gl 202 c:=co H func202 (.cons F47.ok (.cons F94.ok .nil)) rn
end F202
namespace F175
noncomputable def H:Hd:=⟨[Si,Sw],[Si], .d,⟨[],gl,false⟩,[],f175⟩
noncomputable def F:=u2 Ak8
theorem rn x:H.u P_ x=F x:=by kernel_rfl
noncomputable def c:Con:=⟨H.p,H.r,F⟩
theorem ok:ConOk P_ gl 175 c:=co H func175 .nil rn
end F175
namespace F176
def Ia(a:LX):Option (LX):=
Bg9 a (
some ([]:LX)) (
(Ew ([]:LX) a).bind fun b=>
some b)
theorem Aac: @Ia= @Da:=by
  unfold Ia Da
  repeat (refine funext fun _=>?_)
  repeat' first
    |with_reducible rfl
    |with_reducible refine Qy ?_ ?_
    |with_reducible refine Qh ?_ ?_ ?_
    |with_reducible refine Qi ?_ ?_ ?_ ?_
    |((with_reducible refine Zu ?_ ?_);focus (intro h;first|(subst h;rfl)|(simp only[h];rfl)|(simp[Ew,Ac,h];done)))
    |with_reducible refine Aaa fun x=>?_
    |with_reducible refine Agm (fun _=>?_) (fun _=>?_)
    |(refine Jg (fun h=>by simp only[h,Xm,Gm,Fz,ite_self]) (fun x h=>?_);(try simp only[h,Gm]))
    |(refine Md (fun h=>?_) (fun h=>?_)<;>simp only[h,if_true,if_false,Bool.false_eq_true])
noncomputable def H:Hd:=⟨[Sw],[Ow 21], .d,⟨[],gl,false⟩,[],f176⟩
noncomputable def F:=Da
theorem rn x:H.u P_ x=F x:=Eq.trans (b:=Ia x) (by kernel_rfl) (by rw[Aac];rfl)
noncomputable def c:Con:=⟨H.p,H.r,F⟩
theorem ok:ConOk P_ gl 176 c:=co H func176 .nil rn
end F176
namespace F203
abbrev R_:=(LX×Int)
abbrev K_:=S→Option R_
noncomputable def H:Hd:=⟨[Si,Sw],[Ow 21,Si],(.seq .d (.seq .d (.seq .d (.cut [7] [] (.seq .d (.blk (.loop [0,7,8] [] (.seq .d (.cut [0,7,8] [] (.blk (.keep [0,7,8,24,25,26,27,28,29] true)) .d))))) .d)))),⟨[(175,F175.c),(176,F176.c)],gl,true⟩,[(214,(.seq .d (.cut [0,2] [] (.seq .d (.blk (.loop [0,2,7,8] [] .d))) .d)))],f203⟩
def t17(b a h:Int)(g:LX):S:=⟨[(0, .view true 0 [] (.int .i32) a ((Ad a b)-a)),(2,vi (Ah ((Ad a b)-a) (1:Int))),(7,vi (Ah ((Ad a b)-a) (1:Int))),(8,vi h)],[Aw 21 g],[[(0,vi b),(7, .own 0),(8,vi a),(24, .own 0),(25,vi a),(26,vi a),(27,vi b),(28,vi (Ad a b)),(29, .view true 0 [] (.int .i32) a ((Ad a b)-a))]]⟩
def z17(kn12:K_):Nat→S→Option R_:=H.i P_ [r,r,r,l,r,d,(lp kn12),r,l,d,(call 6 214),r,l,r,d]
def t12(b a:Int)(f:LX):S:=⟨[(0,vi b),(7, .own 0),(8,vi a)],[Aw 21 f],[]⟩
def z12:Nat→S→Option R_:=H.i P_ [r,r,r,l,r,d]
def x22(f:LX):Option R_:=H.e P_ [r,r,r,r] ⟨[(7, .own 0)],[Aw 21 f],[]⟩
def x20(kn12:K_)(b a:Int)(k:LX):Option R_:=H.e P_ [r,r,r,l,r,d,(lp kn12),r,r] ⟨[(0,vi b),(7, .own 0),(8,vi a)],[Aw 21 k],[]⟩
def x19(kn12:K_)(b a:Int)(g:LX):Option R_:=H.e P_ [r,r,r,l,r,d,(lp kn12),r,l,d,(call 6 214),r,r] ⟨[(0, .view true 0 [] (.int .i32) a ((Ad a b)-a)),(2,vi (Ah ((Ad a b)-a) (1:Int)))],[Aw 21 g],[[(0,vi b),(7, .own 0),(8,vi a),(24, .own 0),(25,vi a),(26,vi a),(27,vi b),(28,vi (Ad a b)),(29, .view true 0 [] (.int .i32) a ((Ad a b)-a))]]⟩
def x17(kn12:K_)(b a h:Int)(g:LX):Option R_:=H.e P_ [r,r,r,l,r,d,(lp kn12),r,l,d,(call 6 214),r,l,r,d] (t17 b a h g)
def x12(b a:Int)(f:LX):Option R_:=H.e P_ [r,r,r,l,r,d] (t12 b a f)
theorem e22:x22=Ayy:=by kernel_rfl
theorem e20(kn12:K_)(b:Int):x20 kn12 b=Ay9 (fun a f=>kn12 (t12 b a f)) b:=by kernel_rfl
theorem e19(kn12:K_)(b:Int):x19 kn12 b=Azb (fun a f=>kn12 (t12 b a f)) b:=Eq.trans (b:=Ayu (x20 kn12 b) b) (by kernel_rfl) (by simp only[e20]<;>rfl)
theorem i17(kn12:K_)(b a:Int):∀(q:Nat) (h:Int) (g:LX),z17 kn12 q (t17 b a h g)=Apo (fun a f=>kn12 (t12 b a f)) b a q h g:=
 ind (fun _ _=>by kernel_rfl) fun q ih h g=>Eq.trans (b:=Azc (x19 kn12 b) (fun h g=>(z17 kn12 q) (t17 b a h g)) b a h g) (by kernel_rfl) (by simp only[e19,ih]<;>rfl)
theorem e17(kn12:K_)(b:Int):x17 kn12 b=Ay0 (fun a f=>kn12 (t12 b a f)) b:=by funext a h g;exact Eq.trans (by kernel_rfl) ((i17 kn12 b a Cf h g).trans (by rw[Ar];rfl))
theorem i12(b:Int):∀(q:Nat) (a:Int) (f:LX),z12 q (t12 b a f)=Ap8 b q a f:=
 ind (fun _ _=>by kernel_rfl) fun q ih a f=>Eq.trans (b:=Az2 (x17 (z12 q) b) x22 b a f) (by kernel_rfl) (by simp only[e17,e22,ih]<;>rfl)
theorem e12:x12=Azp:=by funext b a f;exact Eq.trans (by kernel_rfl) ((i12 b Cf a f).trans (by rw[Ar];rfl))
noncomputable def F:=u2 Bp3
theorem rn x:H.u P_ x=F x:=Eq.trans (b:=u2 (Bd7 x12) x) (by kernel_rfl) (by simp only[e12]<;>rfl)
noncomputable def c:Con:=⟨H.p,H.r,F⟩
theorem ok:ConOk P_ gl 203 c:=cr H func203 (.cons F175.ok (.cons F176.ok .nil)) (AnsOk.cons ent214 AnsOk.nil) rn
end F203
namespace F171
abbrev R_:=(Int×LX×LX×Int)
noncomputable def H:Hd:=⟨[Si, .lf (.vec 16 (.int .i32)) none],[.agg [Si, .lf (.vec 16 (.int .i32)) none, .lf (.vec 16 (.int .i32)) none],Si],(.seq .d (.seq .d (.seq (.seq .d (.blk (.cut [4,6,9,11] [] .d .d))) .d))),⟨[],gl,false⟩,[],f171⟩
def x2(a:Int)(b:LX)(f:Bool):Option R_:=H.e P_ [r,r,l,r,d,r] ⟨[(4, .ptr 0 []),(6, .ptr 1 []),(9,vi a),(11,vt f)],[.box 205 (.agg [vi 0, .val (.vec 16 (.int .i32)) (List.replicate 16 (0:Int32)), .val (.vec 16 (.int .i32)) (List.replicate 16 (0:Int32))]), .box 205 (.agg [vi 10, .val (.vec 16 (.int .i32)) b, .val (.vec 16 (.int .i32)) (List.replicate 16 (0:Int32))])],[]⟩
theorem e2:x2=Azs:=by kernel_rfl
noncomputable def F:=u2 Avn
theorem rn x:H.u P_ x=F x:=Eq.trans (b:=u2 (Az0 x2) x) (by kernel_rfl) (by simp only[e2]<;>rfl)
noncomputable def c:Con:=⟨H.p,H.r,F⟩
theorem ok:ConOk P_ gl 171 c:=co H func171 .nil rn
end F171
namespace F142
noncomputable def H:Hd:=⟨[Si, .lf (.vec 16 (.int .i32)) none],[.agg [Si,Sx, .agg [Si, .lf (.vec 16 (.int .i32)) none, .lf (.vec 16 (.int .i32)) none]],Si], .d,⟨[(171,F171.c)],gl,false⟩,[],f142⟩
noncomputable def F:=u2 Ax4
theorem rn x:H.u P_ x=F x:=by kernel_rfl
noncomputable def c:Con:=⟨H.p,H.r,F⟩
theorem ok:ConOk P_ gl 142 c:=co H func142 (.cons F171.ok .nil) rn
end F142
namespace F172
noncomputable def H:Hd:=⟨[.agg [Si,Sx, .agg [Si, .lf (.vec 16 (.int .i32)) none, .lf (.vec 16 (.int .i32)) none]]],[Si], .d,⟨[(171,F171.c)],gl,false⟩,[],f172⟩
noncomputable def F:=u5 Rb
theorem rn x:H.u P_ x=F x:=by kernel_rfl
noncomputable def c:Con:=⟨H.p,H.r,F⟩
theorem ok:ConOk P_ gl 172 c:=co H func172 (.cons F171.ok .nil) rn
end F172
namespace F198
noncomputable def H:Hd:=⟨[Si],[Si,Si], .d,⟨[],gl,false⟩,[],f198⟩
noncomputable def F:=Apq
theorem rn x:H.u P_ x=F x:=by kernel_rfl
noncomputable def c:Con:=⟨H.p,H.r,F⟩
theorem ok:ConOk P_ gl 198 c:=co H func198 .nil rn
end F198
namespace F199
noncomputable def H:Hd:=⟨[Si,Sx],[Sx], .d,⟨[],gl,false⟩,[],f199⟩
noncomputable def F:=u2 Ai7
theorem rn x:H.u P_ x=F x:=by kernel_rfl
noncomputable def c:Con:=⟨H.p,H.r,F⟩
theorem ok:ConOk P_ gl 199 c:=co H func199 .nil rn
end F199
namespace F173
noncomputable def H:Hd:=⟨[Si,Sx],[Sx,Si], .d,⟨[(198,F198.c),(199,F199.c)],gl,false⟩,[],f173⟩
noncomputable def F:=u2 Rj
theorem rn x:H.u P_ x=F x:=by kernel_rfl
noncomputable def c:Con:=⟨H.p,H.r,F⟩
theorem ok:ConOk P_ gl 173 c:=co H func173 (.cons F198.ok (.cons F199.ok .nil)) rn
end F173
namespace F211
noncomputable def H:Hd:=⟨[.agg [Si, .lf (.vec 16 (.int .i32)) none, .lf (.vec 16 (.int .i32)) none]],[Si], .d,⟨[],gl,false⟩,[],f211⟩
noncomputable def F:=u3 Abl
theorem rn x:H.u P_ x=F x:=by kernel_rfl
noncomputable def c:Con:=⟨H.p,H.r,F⟩
theorem ok:ConOk P_ gl 211 c:=co H func211 .nil rn
end F211
namespace F200
abbrev R_:=(Int32×Int)
noncomputable def H:Hd:=⟨[.agg [Si, .lf (.vec 16 (.int .i32)) none, .lf (.vec 16 (.int .i32)) none]],[Sx,Si],(.seq .d (.seq .d (.seq .d (.cut [1,5] [] (.seq .d (.blk (.loop [1,5,18,19] [] .d))) .d)))),⟨[(211,F211.c)],gl,false⟩,[],f200⟩
def t4(b:LX)(a:Int)(f:LX)(g:Int32)(h:Int):S:=⟨[(1, .ptr 0 []),(5,vx g),(18, .val (.vec 16 (.int .i32)) b),(19,vi h)],[.box 205 (.agg [vi a, .val (.vec 16 (.int .i32)) b, .val (.vec 16 (.int .i32)) f])],[]⟩
def z4:Nat→S→Option R_:=H.i P_ [r,r,r,l,r,d]
def x6(g:Int32)(a:Int)(b f:LX):Option R_:=H.e P_ [r,r,r,r] ⟨[(1, .ptr 0 []),(5,vx g)],[.box 205 (.agg [vi a, .val (.vec 16 (.int .i32)) b, .val (.vec 16 (.int .i32)) f])],[]⟩
def x4(b:LX)(a:Int)(f:LX)(g:Int32)(h:Int):Option R_:=H.e P_ [r,r,r,l,r,d] (t4 b a f g h)
theorem e6:x6=Ajv:=by kernel_rfl
theorem i4(b:LX)(a:Int)(f:LX):∀(q:Nat) (g:Int32) (h:Int),z4 q (t4 b a f g h)=Oa b a f q g h:=
 ind (fun _ _=>by kernel_rfl) fun q ih g h=>Eq.trans (b:=Ab3 x6 (fun g h=>(z4 q) (t4 b a f g h)) b a f g h) (by kernel_rfl) (by simp only[e6,ih]<;>rfl)
theorem e4:x4=Ajw:=by funext b a f g h;exact Eq.trans (by kernel_rfl) ((i4 b a f Cf g h).trans (by rw[Ar];rfl))
noncomputable def F:=u3 Ahm
theorem rn x:H.u P_ x=F x:=Eq.trans (b:=u3 (Ajl x4) x) (by kernel_rfl) (by simp only[e4]<;>rfl)
noncomputable def c:Con:=⟨H.p,H.r,F⟩
theorem ok:ConOk P_ gl 200 c:=co H func200 (.cons F211.ok .nil) rn
end F200
namespace F218
noncomputable def H:Hd:=⟨[Si],[Sx], .d,⟨[],gl,false⟩,[],f218⟩
noncomputable def F:=Ako
theorem rn x:H.u P_ x=F x:=by kernel_rfl
noncomputable def c:Con:=⟨H.p,H.r,F⟩
theorem ok:ConOk P_ gl 218 c:=co H func218 .nil rn
end F218
namespace F212
abbrev R_:=(Int×LX×LX×Int)
noncomputable def H:Hd:=⟨[.agg [Si, .lf (.vec 16 (.int .i32)) none, .lf (.vec 16 (.int .i32)) none],Sx],[.agg [Si, .lf (.vec 16 (.int .i32)) none, .lf (.vec 16 (.int .i32)) none],Si],(.seq .d (.seq .d (.seq .d (.cut [2,4] [] (.seq .d (.blk (.loop [1,2,4,19,20] [] .d))) .d)))),⟨[(211,F211.c),(218,F218.c)],gl,false⟩,[],f212⟩
def t4(h:Int32)(f:LX)(g a:Int)(b:LX):S:=⟨[(1,vx h),(2, .ptr 0 []),(4, .ptr 1 []),(19, .val (.vec 16 (.int .i32)) f),(20,vi a)],[.box 205 (.agg [vi g, .val (.vec 16 (.int .i32)) b, .val (.vec 16 (.int .i32)) f]), .box 205 (.agg [vi 0, .val (.vec 16 (.int .i32)) (List.replicate 16 (0:Int32)), .val (.vec 16 (.int .i32)) (List.replicate 16 (0:Int32))])],[]⟩
def z4:Nat→S→Option R_:=H.i P_ [r,r,r,l,r,d]
def x6(g:Int)(b f:LX):Option R_:=H.e P_ [r,r,r,r] ⟨[(2, .ptr 0 []),(4, .ptr 1 [])],[.box 205 (.agg [vi g, .val (.vec 16 (.int .i32)) b, .val (.vec 16 (.int .i32)) f]), .box 205 (.agg [vi 0, .val (.vec 16 (.int .i32)) (List.replicate 16 (0:Int32)), .val (.vec 16 (.int .i32)) (List.replicate 16 (0:Int32))])],[]⟩
def x4(h:Int32)(f:LX)(g a:Int)(b:LX):Option R_:=H.e P_ [r,r,r,l,r,d] (t4 h f g a b)
theorem e6:x6=Atq:=by kernel_rfl
theorem i4(h:Int32)(f:LX)(g:Int):∀(q:Nat) (a:Int) (b:LX),z4 q (t4 h f g a b)=Oe h f g q a b:=
 ind (fun _ _=>by kernel_rfl) fun q ih a b=>Eq.trans (b:=Ab9 x6 (fun a b=>(z4 q) (t4 h f g a b)) h f g a b) (by kernel_rfl) (by simp only[e6,ih]<;>rfl)
theorem e4:x4=Atr:=by funext h f g a b;exact Eq.trans (by kernel_rfl) ((i4 h f g Cf a b).trans (by rw[Ar];rfl))
noncomputable def F:=u4 Am2
theorem rn x:H.u P_ x=F x:=Eq.trans (b:=u4 (Aj3 x4) x) (by kernel_rfl) (by simp only[e4]<;>rfl)
noncomputable def c:Con:=⟨H.p,H.r,F⟩
theorem ok:ConOk P_ gl 212 c:=co H func212 (.cons F211.ok (.cons F218.ok .nil)) rn
end F212
namespace F213
def Ajs(j2:Int32→Int→LX→LX→Option (Int×LX×LX×Int))(b:Int)(f a:LX)(g:Int32):Option (Int×LX×LX×Int):=
(Abl b f a).bind fun h=>
if(Bb h 0)then
some (0,(List.replicate 16 (0:Int32)),(List.replicate 16 (0:Int32)),h)
else
both (
(vwI 16 1 16).bind fun _=>
(vwI 16 0 16).bind fun _=>
j2 g b f a) [
(vwI 16 0 16).bind fun _=>
(vwI 16 1 16).bind fun _=>
j2 g b f a]
theorem Axq: @Ajs= @Afn:=by
  unfold Ajs Afn
  repeat (refine funext fun _=>?_)
  repeat' first
    |with_reducible rfl
    |with_reducible refine Qy ?_ ?_
    |with_reducible refine Qh ?_ ?_ ?_
    |with_reducible refine Qi ?_ ?_ ?_ ?_
    |((with_reducible refine Zu ?_ ?_);focus (intro h;first|(subst h;rfl)|(simp only[h];rfl)|(simp[Ew,Ac,h];done)))
    |with_reducible refine Aaa fun x=>?_
    |with_reducible refine Agm (fun _=>?_) (fun _=>?_)
    |(refine Jg (fun h=>by simp only[h,Xm,Gm,Fz,ite_self]) (fun x h=>?_);(try simp only[h,Gm]))
    |(refine Md (fun h=>?_) (fun h=>?_)<;>simp only[h,if_true,if_false,Bool.false_eq_true])
abbrev R_:=(Int×LX×LX×Int)
noncomputable def H:Hd:=⟨[.agg [Si, .lf (.vec 16 (.int .i32)) none, .lf (.vec 16 (.int .i32)) none],Sx],[.agg [Si, .lf (.vec 16 (.int .i32)) none, .lf (.vec 16 (.int .i32)) none],Si],(.seq .d (.seq .d (.cut [1,2,4] [] .d .d))),⟨[(211,F211.c)],gl,false⟩,[],f213⟩
def x2(g:Int32)(b:Int)(f a:LX):Option R_:=H.e P_ [r,r,r] ⟨[(1,vx g),(2, .ptr 0 []),(4, .ptr 1 [])],[.box 205 (.agg [vi b, .val (.vec 16 (.int .i32)) f, .val (.vec 16 (.int .i32)) (Oh a (1:Int) ((16:Int)-(1:Int)) (Aj9 a (0:Int) ((16:Int)-(0:Int))))]), .box 205 (.agg [vi 0, .val (.vec 16 (.int .i32)) (List.replicate 16 (0:Int32)), .val (.vec 16 (.int .i32)) (List.replicate 16 (0:Int32))])],[]⟩
theorem e2:x2=Ame:=by kernel_rfl
noncomputable def F:=u4 Asa
theorem rn x:H.u P_ x=F x:=Eq.trans (b:=u4 (Ajs x2) x) (by kernel_rfl) (by unfold F;rw[Axq];simp only[e2]<;>rfl)
noncomputable def c:Con:=⟨H.p,H.r,F⟩
theorem ok:ConOk P_ gl 213 c:=co H func213 (.cons F211.ok .nil) rn
end F213
namespace F201
noncomputable def H:Hd:=⟨[.agg [Si, .lf (.vec 16 (.int .i32)) none, .lf (.vec 16 (.int .i32)) none],Sx,Sx],[.agg [Si, .lf (.vec 16 (.int .i32)) none, .lf (.vec 16 (.int .i32)) none]], .d,⟨[(212,F212.c),(213,F213.c)],gl,false⟩,[],f201⟩
noncomputable def F:=u5 Amx
theorem rn x:H.u P_ x=F x:=by kernel_rfl
noncomputable def c:Con:=⟨H.p,H.r,F⟩
theorem ok:ConOk P_ gl 201 c:=co H func201 (.cons F212.ok (.cons F213.ok .nil)) rn
end F201
namespace F215
noncomputable def H:Hd:=⟨[.agg [Si, .lf (.vec 16 (.int .i32)) none, .lf (.vec 16 (.int .i32)) none],Sx],[Sx, .agg [Si, .lf (.vec 16 (.int .i32)) none, .lf (.vec 16 (.int .i32)) none],Si], .d,⟨[(200,F200.c),(201,F201.c)],gl,false⟩,[],f215⟩
noncomputable def F:=u4 Ary
theorem rn x:H.u P_ x=F x:=by kernel_rfl
noncomputable def c:Con:=⟨H.p,H.r,F⟩
theorem ok:ConOk P_ gl 215 c:=co H func215 (.cons F200.ok (.cons F201.ok .nil)) rn
end F215
namespace F204
def Ye(a:Int)(b:Int32)(f:Int)(g h:LX)(k:Int32):Option (Int32×Int×Int32×Int×LX×LX×Int):=
(Rb a b f g h).bind fun m=>
if(Bb m 0)then
some (0,0,0,0,(List.replicate 16 (0:Int32)),(List.replicate 16 (0:Int32)),m)
else
(Rj a b).bind fun(n,y)=>
(Ary f g h (Ah k n)).bind fun(o,p,u,v,w)=>
bo (
some (o,a,k,p,u,v,w))
theorem Apx: @Ye= @Ab7:=by
  unfold Ye Ab7
  simp only[Avw,Amb,Ank]
noncomputable def H:Hd:=⟨[.agg [Si,Sx, .agg [Si, .lf (.vec 16 (.int .i32)) none, .lf (.vec 16 (.int .i32)) none]],Sx],[Sx, .agg [Si,Sx, .agg [Si, .lf (.vec 16 (.int .i32)) none, .lf (.vec 16 (.int .i32)) none]],Si],(.seq .d (.seq .d (.seq .d (.seq .d (.seq (.mode false) .d))))),⟨[(172,F172.c),(173,F173.c),(215,F215.c)],gl,false⟩,[],f204⟩
noncomputable def F:=u6 Ab7
theorem rn x:H.u P_ x=F x:=Eq.trans (b:=u6 Ye x) (by kernel_rfl) (by rw[Apx];rfl)
noncomputable def c:Con:=⟨H.p,H.r,F⟩
theorem ok:ConOk P_ gl 204 c:=co H func204 (.cons F172.ok (.cons F173.ok (.cons F215.ok .nil))) rn
end F204
namespace F205
noncomputable def H:Hd:=⟨[Sx],[Su], .d,⟨[],gl,false⟩,[],f205⟩
noncomputable def F:=Bfw
theorem rn x:H.u P_ x=F x:=by kernel_rfl
noncomputable def c:Con:=⟨H.p,H.r,F⟩
theorem ok:ConOk P_ gl 205 c:=co H func205 .nil rn
end F205
namespace F184
abbrev R_:=(LU×Int)
noncomputable def H:Hd:=⟨[.agg [Si,Si], .lf (.vec 16 (.int .i32)) none,Sw],[Ov 131,Si],(.seq .d (.seq .d (.seq .d (.seq .d (.seq .d (.cut [3,9,11] [] (.seq .d (.blk (.loop [3,4,9,11,36] [] .d))) (.seq .d (.cut [13] [] (.seq .d (.blk (.loop [3,11,13,49,50,51] [⟨13,[], .own 131 (.int .u32)⟩] .d))) .d)))))))),⟨[(142,F142.c),(202,F202.c),(203,F203.c),(204,F204.c),(205,F205.c)],gl,false⟩,[],f184⟩
def t10(b:LX)(a f g:Int)(o:List (Int×Int32×(Int×LX×LX×Unit)×Unit))(k:LU):S:=⟨[(3, .ptr 0 []),(11, .ptr 1 []),(13, .own 2),(49, .own 3),(50,vi (Ac b)),(51,vi g)],[.box 44 (.agg [vi a,vi f]), .box 208 (.val (.vec 6 (.cons (.int .i64) (.cons (.int .i32) (.cons (.cons (.int .i64) (.cons (.vec 16 (.int .i32)) (.cons (.vec 16 (.int .i32)) .nil))) .nil)))) o),Av 131 k,Aw 21 b],[]⟩
def z10:Nat→S→Option R_:=H.i P_ [r,r,r,r,r,r,r,l,r,d]
def t7(a f:Int)(m b:LX)(n:Int)(h:List (Int×Int32×(Int×LX×LX×Unit)×Unit)):S:=⟨[(3, .ptr 0 []),(4, .ptr 1 []),(9, .own 2),(11, .ptr 3 []),(36,vi n)],[.box 44 (.agg [vi a,vi f]), .box 92 (.val (.vec 16 (.int .i32)) m),Aw 21 b, .box 208 (.val (.vec 6 (.cons (.int .i64) (.cons (.int .i32) (.cons (.cons (.int .i64) (.cons (.vec 16 (.int .i32)) (.cons (.vec 16 (.int .i32)) .nil))) .nil)))) h)],[]⟩
def z7:Nat→S→Option R_:=H.i P_ [r,r,r,r,r,l,r,d]
def x12(k:LU):Option R_:=H.e P_ [r,r,r,r,r,r,r,r] ⟨[(13, .own 0)],[Av 131 k],[]⟩
def x10(b:LX)(a f g:Int)(o:List (Int×Int32×(Int×LX×LX×Unit)×Unit))(k:LU):Option R_:=H.e P_ [r,r,r,r,r,r,r,l,r,d] (t10 b a f g o k)
def x9(a f:Int)(b:LX)(h:List (Int×Int32×(Int×LX×LX×Unit)×Unit)):Option R_:=H.e P_ [r,r,r,r,r,r] ⟨[(3, .ptr 0 []),(9, .own 1),(11, .ptr 2 [])],[.box 44 (.agg [vi a,vi f]),Aw 21 b, .box 208 (.val (.vec 6 (.cons (.int .i64) (.cons (.int .i32) (.cons (.cons (.int .i64) (.cons (.vec 16 (.int .i32)) (.cons (.vec 16 (.int .i32)) .nil))) .nil)))) h)],[]⟩
def x7(a f:Int)(m b:LX)(n:Int)(h:List (Int×Int32×(Int×LX×LX×Unit)×Unit)):Option R_:=H.e P_ [r,r,r,r,r,l,r,d] (t7 a f m b n h)
theorem e12:x12=Ahp:=by kernel_rfl
theorem i10(b:LX)(a f:Int):∀(q:Nat) (g:Int) (o:List (Int×Int32×(Int×LX×LX×Unit)×Unit)) (k:LU),z10 q (t10 b a f g o k)=Vf b a f q g o k:=
 ind (fun _ _ _=>by kernel_rfl) fun q ih g o k=>Eq.trans (b:=Ahx x12 (fun g o k=>(z10 q) (t10 b a f g o k)) b a f g o k) (by kernel_rfl) (by simp only[e12,ih]<;>rfl)
theorem e10:x10=Ah6:=by funext b a f g o k;exact Eq.trans (by kernel_rfl) ((i10 b a f Cf g o k).trans (by rw[Ar];rfl))
theorem e9:x9=Ais:=Eq.trans (b:=Ai3 x10) (by kernel_rfl) (by simp only[e10]<;>rfl)
theorem i7(a f:Int)(m b:LX):∀(q:Nat) (n:Int) (h:List (Int×Int32×(Int×LX×LX×Unit)×Unit)),z7 q (t7 a f m b n h)=Zb a f m b q n h:=
 ind (fun _ _=>by kernel_rfl) fun q ih n h=>Eq.trans (b:=Ai5 x9 (fun n h=>(z7 q) (t7 a f m b n h)) a f m b n h) (by kernel_rfl) (by simp only[e9,ih]<;>rfl)
theorem e7:x7=Aiu:=by funext a f m b n h;exact Eq.trans (by kernel_rfl) ((i7 a f m b Cf n h).trans (by rw[Ar];rfl))
noncomputable def F:=u4 Aqr
theorem rn x:H.u P_ x=F x:=Eq.trans (b:=u4 (Ai9 x7) x) (by kernel_rfl) (by simp only[e7]<;>rfl)
noncomputable def c:Con:=⟨H.p,H.r,F⟩
theorem ok:ConOk P_ gl 184 c:=co H func184 (.cons F142.ok (.cons F202.ok (.cons F203.ok (.cons F204.ok (.cons F205.ok .nil))))) rn
end F184
namespace F137
noncomputable def H:Hd:=⟨[],[.agg [Si,Si,Sq,Sq]], .d,⟨[],gl,false⟩,[],f137⟩
noncomputable def F(x:Unit):=Aui
theorem rn x:H.u P_ x=F x:=by kernel_rfl
noncomputable def c:Con:=⟨H.p,H.r,F⟩
theorem ok:ConOk P_ gl 137 c:=co H func137 .nil rn
end F137
namespace F185
abbrev R_:=((List (Int×Int×UInt64×UInt64×Unit)))
noncomputable def H:Hd:=⟨[],[.lf (.vec 6 (.cons (.int .i64) (.cons (.int .i64) (.cons (.int .u64) (.cons (.int .u64) .nil))))) none],(.seq .d (.seq .d (.cut [0,1] [] (.seq .d (.blk (.loop [0,1,3] [] .d))) .d))),⟨[(137,F137.c)],gl,false⟩,[],f185⟩
def t4(b:Int)(a:List (Int×Int×UInt64×UInt64×Unit)):S:=⟨[(0, .ptr 0 []),(1, .ptr 1 []),(3,vi b)],[.box 197 (.val (.vec 6 (.cons (.int .i64) (.cons (.int .i64) (.cons (.int .u64) (.cons (.int .u64) .nil))))) (List.replicate 6 ((0:Int),(0:Int),(0:UInt64),(0:UInt64),()))), .box 197 (.val (.vec 6 (.cons (.int .i64) (.cons (.int .i64) (.cons (.int .u64) (.cons (.int .u64) .nil))))) a)],[]⟩
def z4:Nat→S→Option R_:=H.i P_ [r,r,l,r,d]
def x6(a:List (Int×Int×UInt64×UInt64×Unit)):Option R_:=H.e P_ [r,r,r] ⟨[(0, .ptr 0 []),(1, .ptr 1 [])],[.box 197 (.val (.vec 6 (.cons (.int .i64) (.cons (.int .i64) (.cons (.int .u64) (.cons (.int .u64) .nil))))) (List.replicate 6 ((0:Int),(0:Int),(0:UInt64),(0:UInt64),()))), .box 197 (.val (.vec 6 (.cons (.int .i64) (.cons (.int .i64) (.cons (.int .u64) (.cons (.int .u64) .nil))))) a)],[]⟩
def x4(b:Int)(a:List (Int×Int×UInt64×UInt64×Unit)):Option R_:=H.e P_ [r,r,l,r,d] (t4 b a)
theorem e6:x6=Ajc:=by kernel_rfl
theorem i4:∀(q:Nat) (b:Int) (a:List (Int×Int×UInt64×UInt64×Unit)),z4 q (t4 b a)=Xg q b a:=
 ind (fun _ _=>by kernel_rfl) fun q ih b a=>Eq.trans (b:=Aiz x6 (fun b a=>(z4 q) (t4 b a)) b a) (by kernel_rfl) (by simp only[e6,ih]<;>rfl)
theorem e4:x4=Ail:=by funext b a;exact Eq.trans (by kernel_rfl) ((i4 Cf b a).trans (by rw[Ar];rfl))
noncomputable def F(x:Unit):=Arx
theorem rn x:H.u P_ x=F x:=Eq.trans (b:=Ajf x4) (by kernel_rfl) (by simp only[e4]<;>rfl)
noncomputable def c:Con:=⟨H.p,H.r,F⟩
theorem ok:ConOk P_ gl 185 c:=co H func185 (.cons F137.ok .nil) rn
end F185
namespace F140
noncomputable def H:Hd:=⟨[.agg [Sb,Si]],[Si], .d,⟨[],gl,false⟩,[],f140⟩
noncomputable def F:=u2 Hk
theorem rn x:H.u P_ x=F x:=by kernel_rfl
noncomputable def c:Con:=⟨H.p,H.r,F⟩
theorem ok:ConOk P_ gl 140 c:=co H func140 .nil rn
end F140
namespace F168
def Agb(j4:Int→Int→UInt64→UInt64→Option Int)(a b:Int)(f g:UInt64):Option Int:=
both (
bo (
j4 a b f g)) [
j4 a b f g]
theorem Awm: @Agb= @Ace:=by
  unfold Agb Ace
  repeat (refine funext fun _=>?_)
  repeat' first
    |with_reducible rfl
    |with_reducible refine Qy ?_ ?_
    |with_reducible refine Qh ?_ ?_ ?_
    |with_reducible refine Qi ?_ ?_ ?_ ?_
    |((with_reducible refine Zu ?_ ?_);focus (intro h;first|(subst h;rfl)|(simp only[h];rfl)|(simp[Ew,Ac,h];done)))
    |with_reducible refine Aaa fun x=>?_
    |with_reducible refine Agm (fun _=>?_) (fun _=>?_)
    |(refine Jg (fun h=>by simp only[h,Xm,Gm,Fz,ite_self]) (fun x h=>?_);(try simp only[h,Gm]))
    |(refine Md (fun h=>?_) (fun h=>?_)<;>simp only[h,if_true,if_false,Bool.false_eq_true])
def Ahc(j3:Int→Int→UInt64→UInt64→Option Int)(a b:Int)(f g:UInt64):Option Int:=
both (
bo (
j3 a b f g)) [
j3 a b f g]
theorem Aw5: @Ahc= @Acd:=by
  unfold Ahc Acd
  repeat (refine funext fun _=>?_)
  repeat' first
    |with_reducible rfl
    |with_reducible refine Qy ?_ ?_
    |with_reducible refine Qh ?_ ?_ ?_
    |with_reducible refine Qi ?_ ?_ ?_ ?_
    |((with_reducible refine Zu ?_ ?_);focus (intro h;first|(subst h;rfl)|(simp only[h];rfl)|(simp[Ew,Ac,h];done)))
    |with_reducible refine Aaa fun x=>?_
    |with_reducible refine Agm (fun _=>?_) (fun _=>?_)
    |(refine Jg (fun h=>by simp only[h,Xm,Gm,Fz,ite_self]) (fun x h=>?_);(try simp only[h,Gm]))
    |(refine Md (fun h=>?_) (fun h=>?_)<;>simp only[h,if_true,if_false,Bool.false_eq_true])
abbrev R_:=Int
noncomputable def H:Hd:=⟨[.agg [Si,Si,Sq,Sq]],[Si],(.seq .d (.seq .d (.cut [1,3] [] (.mode false) (.cut [1,3] [] (.mode false) .d)))),⟨[],gl,false⟩,[],f168⟩
def x4(a b:Int)(f g:UInt64):Option R_:=H.e P_ [r,r,r,r] ⟨[(1, .ptr 0 []),(3, .ptr 1 [])],[.box 196 (.agg [vi a,vi b,vq f,vq g]), .box 196 (.agg [vi (Db (As4 a (0:Int)) (24:Int)),vi (Db (As4 b (0:Int)) (24:Int)),vq (Db f (68719476735:UInt64)),vq (Db g (68719476735:UInt64))])],[]⟩
def x3(a b:Int)(f g:UInt64):Option R_:=H.e P_ [r,r,r] ⟨[(1, .ptr 0 []),(3, .ptr 1 [])],[.box 196 (.agg [vi a,vi b,vq f,vq g]), .box 196 (.agg [vi (Db (As4 a (0:Int)) (24:Int)),vi (Db (As4 b (0:Int)) (24:Int)),vq f,vq g])],[]⟩
theorem e4:x4=Aj8:=by kernel_rfl
theorem e3:x3=Ake:=Eq.trans (b:=Agb x4) (by kernel_rfl) (by rw[Awm];simp only[e4]<;>rfl)
noncomputable def F:=u4 Ah5
theorem rn x:H.u P_ x=F x:=Eq.trans (b:=u4 (Ahc x3) x) (by kernel_rfl) (by unfold F;rw[Aw5];simp only[e3]<;>rfl)
noncomputable def c:Con:=⟨H.p,H.r,F⟩
theorem ok:ConOk P_ gl 168 c:=co H func168 .nil rn
end F168
namespace F197
noncomputable def H:Hd:=⟨[.agg [Si,Si,Sq,Sq],Su],[Si,Su], .d,⟨[],gl,false⟩,[],f197⟩
noncomputable def F:=u5 Abg
theorem rn x:H.u P_ x=F x:=by kernel_rfl
noncomputable def c:Con:=⟨H.p,H.r,F⟩
theorem ok:ConOk P_ gl 197 c:=co H func197 .nil rn
end F197
namespace F136
def Jm(a:LB):Option (LB):=
Bg9 a (
some ([]:LB)) (
(Ew ([]:LB) a).bind fun b=>
some b)
theorem Adz: @Jm= @Eh:=by
  unfold Jm Eh
  repeat (refine funext fun _=>?_)
  repeat' first
    |with_reducible rfl
    |with_reducible refine Qy ?_ ?_
    |with_reducible refine Qh ?_ ?_ ?_
    |with_reducible refine Qi ?_ ?_ ?_ ?_
    |((with_reducible refine Zu ?_ ?_);focus (intro h;first|(subst h;rfl)|(simp only[h];rfl)|(simp[Ew,Ac,h];done)))
    |with_reducible refine Aaa fun x=>?_
    |with_reducible refine Agm (fun _=>?_) (fun _=>?_)
    |(refine Jg (fun h=>by simp only[h,Xm,Gm,Fz,ite_self]) (fun x h=>?_);(try simp only[h,Gm]))
    |(refine Md (fun h=>?_) (fun h=>?_)<;>simp only[h,if_true,if_false,Bool.false_eq_true])
noncomputable def H:Hd:=⟨[Sb],[Ob 5], .d,⟨[],gl,false⟩,[],f136⟩
noncomputable def F:=Eh
theorem rn x:H.u P_ x=F x:=Eq.trans (b:=Jm x) (by kernel_rfl) (by rw[Adz];rfl)
noncomputable def c:Con:=⟨H.p,H.r,F⟩
theorem ok:ConOk P_ gl 136 c:=co H func136 .nil rn
end F136
namespace F216
noncomputable def H:Hd:=⟨[.agg [Sb,Si]],[.agg [Ob 5,Si]], .d,⟨[(136,F136.c)],gl,false⟩,[],f216⟩
noncomputable def F:=u2 Axd
theorem rn x:H.u P_ x=F x:=by kernel_rfl
noncomputable def c:Con:=⟨H.p,H.r,F⟩
theorem ok:ConOk P_ gl 216 c:=co H func216 (.cons F136.ok .nil) rn
end F216
namespace F206
abbrev R_:=(LB×Int×Int)
abbrev K_:=S→Option R_
noncomputable def H:Hd:=⟨[.agg [Sb,Si],Sq,Si],[.agg [Ob 5,Si],Si],(.seq .d (.seq .d (.seq .d (.cut [3,6] [] (.keep [1,2,3,6,40,41] true) .d)))),⟨[(140,F140.c),(216,F216.c)],gl,false⟩,[(167,(.blk (.loop [0,1,2] [] (.seq .d (.blk (.cut [0,1,2] [] .d (.seq .d (.cut [0,1,2,7] [] .d .d))))))))],f206⟩
def t15(b:UInt64)(a:Int)(m:UInt64)(h f:Int)(o:LB):S:=⟨[(0, .ptr 0 []),(1,vq m),(2,vi h)],[.box 148 (.agg [.own 2,vi f]), .box 148 (.agg [.nils,vi 0]),Ab 5 o],[[(1,vq b),(2,vi a),(3, .ptr 0 []),(6, .ptr 1 []),(40,vq b),(41,vi a)]]⟩
def z15:Nat→S→Option R_:=H.i P_ [r,r,r,l,(call 2 167),d]
def t22(b:UInt64)(a:Int)(n:UInt64)(k g:Int)(p:LB):S:=⟨[(0, .ptr 0 []),(1,vq n),(2,vi k)],[.box 148 (.agg [.own 2,vi g]), .box 148 (.agg [.nils,vi 0]),Ab 5 p],[[(1,vq b),(2,vi a),(3, .ptr 0 []),(6, .ptr 1 []),(40,vq b),(41,vi a)]]⟩
def z22:Nat→S→Option R_:=H.i P_ [r,r,r,l,(call 2 167),d]
def x21(f:Int)(o:LB):Option R_:=H.e P_ [r,r,r,r] ⟨[(3, .ptr 0 []),(6, .ptr 1 [])],[.box 148 (.agg [.own 2,vi f]), .box 148 (.agg [.nils,vi 0]),Ab 5 o],[]⟩
def x19(kn15:K_)(b:UInt64)(a:Int)(m:UInt64)(h f:Int)(w:LB):Option R_:=H.e P_ [r,r,r,l,(call 2 167),d,(lp kn15),r,d,r,r,r] ⟨[(0, .ptr 0 []),(1,vq m),(2,vi h),(7,vi (Db h (Ah (8:Int) (Cx f (7:Int)))))],[.box 148 (.agg [.own 2,vi f]), .box 148 (.agg [.nils,vi 0]),Ab 5 w],[[(1,vq b),(2,vi a),(3, .ptr 0 []),(6, .ptr 1 []),(40,vq b),(41,vi a)]]⟩
def x18(kn15:K_)(b:UInt64)(a:Int)(m:UInt64)(h f:Int)(u:LB):Option R_:=H.e P_ [r,r,r,l,(call 2 167),d,(lp kn15),r,d,r] ⟨[(0, .ptr 0 []),(1,vq m),(2,vi h)],[.box 148 (.agg [.own 2,vi f]), .box 148 (.agg [.nils,vi 0]),Ab 5 u],[[(1,vq b),(2,vi a),(3, .ptr 0 []),(6, .ptr 1 []),(40,vq b),(41,vi a)]]⟩
def x15(b:UInt64)(a:Int)(m:UInt64)(h f:Int)(o:LB):Option R_:=H.e P_ [r,r,r,l,(call 2 167),d] (t15 b a m h f o)
def x28(g:Int)(p:LB):Option R_:=H.e P_ [r,r,r,r] ⟨[(3, .ptr 0 []),(6, .ptr 1 [])],[.box 148 (.agg [.own 2,vi g]), .box 148 (.agg [.nils,vi 0]),Ab 5 p],[]⟩
def x26(kn22:K_)(b:UInt64)(a:Int)(n:UInt64)(k g:Int)(y:LB):Option R_:=H.e P_ [r,r,r,l,(call 2 167),d,(lp kn22),r,d,r,r,r] ⟨[(0, .ptr 0 []),(1,vq n),(2,vi k),(7,vi (Db k (Ah (8:Int) (Cx g (7:Int)))))],[.box 148 (.agg [.own 2,vi g]), .box 148 (.agg [.nils,vi 0]),Ab 5 y],[[(1,vq b),(2,vi a),(3, .ptr 0 []),(6, .ptr 1 []),(40,vq b),(41,vi a)]]⟩
def x25(kn22:K_)(b:UInt64)(a:Int)(n:UInt64)(k g:Int)(v:LB):Option R_:=H.e P_ [r,r,r,l,(call 2 167),d,(lp kn22),r,d,r] ⟨[(0, .ptr 0 []),(1,vq n),(2,vi k)],[.box 148 (.agg [.own 2,vi g]), .box 148 (.agg [.nils,vi 0]),Ab 5 v],[[(1,vq b),(2,vi a),(3, .ptr 0 []),(6, .ptr 1 []),(40,vq b),(41,vi a)]]⟩
def x22(b:UInt64)(a:Int)(n:UInt64)(k g:Int)(p:LB):Option R_:=H.e P_ [r,r,r,l,(call 2 167),d] (t22 b a n k g p)
theorem e21:x21=Avh:=by kernel_rfl
theorem e19(kn15:K_)(b:UInt64)(a:Int):x19 kn15 b a=Aw0 (fun m h f o=>kn15 (t15 b a m h f o)) b a:=by kernel_rfl
theorem e18(kn15:K_)(b:UInt64)(a:Int):x18 kn15 b a=Avz (fun m h f o=>kn15 (t15 b a m h f o)) b a:=Eq.trans (b:=Aww (x19 kn15 b a) b a) (by kernel_rfl) (by simp only[e19]<;>rfl)
theorem i15(b:UInt64)(a:Int):∀(q:Nat) (m:UInt64) (h f:Int) (o:LB),z15 q (t15 b a m h f o)=Als b a q m h f o:=
 ind (fun _ _ _ _=>by kernel_rfl) fun q ih m h f o=>Eq.trans (b:=Axa (x18 (z15 q) b a) x21 b a m h f o) (by kernel_rfl) (by simp only[e18,e21,ih]<;>rfl)
theorem e15:x15=Aw4:=by funext b a m h f o;exact Eq.trans (by kernel_rfl) ((i15 b a Cf m h f o).trans (by rw[Ar];rfl))
theorem e28:x28=Avo:=by kernel_rfl
theorem e26(kn22:K_)(b:UInt64)(a:Int):x26 kn22 b a=Avj (fun n k g p=>kn22 (t22 b a n k g p)) b a:=by kernel_rfl
theorem e25(kn22:K_)(b:UInt64)(a:Int):x25 kn22 b a=Aw6 (fun n k g p=>kn22 (t22 b a n k g p)) b a:=Eq.trans (b:=Av6 (x26 kn22 b a) b a) (by kernel_rfl) (by simp only[e26]<;>rfl)
theorem i22(b:UInt64)(a:Int):∀(q:Nat) (n:UInt64) (k g:Int) (p:LB),z22 q (t22 b a n k g p)=Am0 b a q n k g p:=
 ind (fun _ _ _ _=>by kernel_rfl) fun q ih n k g p=>Eq.trans (b:=Aw8 (x25 (z22 q) b a) x28 b a n k g p) (by kernel_rfl) (by simp only[e25,e28,ih]<;>rfl)
theorem e22:x22=Awb:=by funext b a n k g p;exact Eq.trans (by kernel_rfl) ((i22 b a Cf n k g p).trans (by rw[Ar];rfl))
noncomputable def F:=u4 Ap5
theorem rn x:H.u P_ x=F x:=Eq.trans (b:=u4 (Azl x15 x22) x) (by kernel_rfl) (by simp only[e15,e22]<;>rfl)
noncomputable def c:Con:=⟨H.p,H.r,F⟩
theorem ok:ConOk P_ gl 206 c:=cr H func206 (.cons F140.ok (.cons F216.ok .nil)) (AnsOk.cons ent167 AnsOk.nil) rn
end F206
namespace F195
noncomputable def H:Hd:=⟨[Su,Si],[Sz], .d,⟨[],gl,false⟩,[],f195⟩
noncomputable def F:=u2 Afo
theorem rn x:H.u P_ x=F x:=by kernel_rfl
noncomputable def c:Con:=⟨H.p,H.r,F⟩
theorem ok:ConOk P_ gl 195 c:=co H func195 .nil rn
end F195
namespace F219
noncomputable def H:Hd:=⟨[Si],[Si,Si], .d,⟨[],gl,false⟩,[],f219⟩
noncomputable def F:=Avx
theorem rn x:H.u P_ x=F x:=by kernel_rfl
noncomputable def c:Con:=⟨H.p,H.r,F⟩
theorem ok:ConOk P_ gl 219 c:=co H func219 .nil rn
end F219
namespace F217
noncomputable def H:Hd:=⟨[.agg [Sb,Si],Si],[.agg [Ob 5,Si],Si], .d,⟨[(140,F140.c),(206,F206.c),(219,F219.c)],gl,false⟩,[],f217⟩
noncomputable def F:=u3 Azt
theorem rn x:H.u P_ x=F x:=by kernel_rfl
noncomputable def c:Con:=⟨H.p,H.r,F⟩
theorem ok:ConOk P_ gl 217 c:=co H func217 (.cons F140.ok (.cons F206.ok (.cons F219.ok .nil))) rn
end F217
namespace F207
abbrev R_:=(LB×Int×Int)
noncomputable def H:Hd:=⟨[.agg [Sb,Si],Su,Si],[.agg [Ob 5,Si],Si],(.seq .d (.seq .d (.seq .d (.seq .d (.cut [3,6,9,10,11] [] .d .d))))),⟨[(140,F140.c),(195,F195.c),(206,F206.c),(217,F217.c)],gl,false⟩,[],f207⟩
def x2(b:LB)(f h:Int)(k:UInt32)(m:Int):Option R_:=H.e P_ [r,r,r,r,r] ⟨[(3, .ptr 0 []),(6, .ptr 1 []),(9,vi h),(10,vu k),(11,vi m)],[.box 148 (.agg [vb b,vi f]), .box 148 (.agg [.nils,vi 0])],[]⟩
theorem e2:x2=At5:=by kernel_rfl
noncomputable def F:=u4 Bbg
theorem rn x:H.u P_ x=F x:=Eq.trans (b:=u4 (At6 x2) x) (by kernel_rfl) (by simp only[e2]<;>rfl)
noncomputable def c:Con:=⟨H.p,H.r,F⟩
theorem ok:ConOk P_ gl 207 c:=co H func207 (.cons F140.ok (.cons F195.ok (.cons F206.ok (.cons F217.ok .nil)))) rn
end F207
namespace F186
def Ad8(k u n:Int)(a:UInt64)(b:UInt32)(o:UInt64)(m:LB):Option (LB×Int×Int×Int×UInt64×UInt64×Int):=
(fun af:Option (LB×Int×Int×Int×UInt64×UInt64×Int)=>
both (
bo (
af)) [
af]) (
some (m,k,u,n,(Ad a (Ah (Ae b:UInt64) (Bk a (GI.toZ (4:UInt64)).toNat))),o,0))
theorem Aud: @Ad8= @Ahy:=by
  unfold Ad8 Ahy
  try simp only[Avw,Amb,Ank]
  all_goals
    repeat (refine funext fun _=>?_)
    repeat' first
      |with_reducible rfl
      |with_reducible refine Qy ?_ ?_
      |with_reducible refine Qh ?_ ?_ ?_
      |with_reducible refine Qi ?_ ?_ ?_ ?_
      |((with_reducible refine Zu ?_ ?_);focus (intro h;first|(subst h;rfl)|(simp only[h];rfl)|(simp[Ew,Ac,h];done)))
      |with_reducible refine Aaa fun x=>?_
      |with_reducible refine Agm (fun _=>?_) (fun _=>?_)
      |(refine Jg (fun h=>by simp only[h,Xm,Gm,Fz,ite_self]) (fun x h=>?_);(try simp only[h,Gm]))
      |(refine Md (fun h=>?_) (fun h=>?_)<;>simp only[h,if_true,if_false,Bool.false_eq_true])
abbrev R_:=(LB×Int×Int×Int×UInt64×UInt64×Int)
noncomputable def H:Hd:=⟨[.agg [Sb,Si], .agg [Si,Si,Sq,Sq],Su],[.agg [Ob 5,Si], .agg [Si,Si,Sq,Sq],Si],(.seq .d (.cut [2,3,4,6,7] [] .d (.seq .d (.seq .d (.cut [2,3,4,6,7,11] [] .d (.seq .d (.cut [3,4,6,7] [] (.keep [2,3,4,6,7,65] true) (.seq (.mode false) .d)))))))),⟨[(140,F140.c),(168,F168.c),(197,F197.c),(206,F206.c),(207,F207.c)],gl,false⟩,[(170,(.seq .d (.seq .d (.seq .d (.blk (.cut [0,1,4] [] (.blk (.seq .d (.keep [0,1,4,6,18,19,20,21,22,23,24,25] true))) (.cut [] [] (.keep [0,1,4,27,28,29,30,31,32,33,34] true) .d))))))),(196, .d)],f186⟩
def x10(k u n:Int)(a:UInt64)(b:UInt32)(o:UInt64)(m:LB):Option R_:=H.e P_ [r,r,r,r,r,r,r] ⟨[(3, .ptr 0 []),(4, .ptr 1 []),(6, .ptr 2 []),(7, .ptr 3 [])],[.box 148 (.agg [.own 4,vi k]), .box 196 (.agg [vi u,vi n,vq (Ad a (Ah (Ae b:UInt64) (Bk a (GI.toZ (4:UInt64)).toNat))),vq o]), .box 148 (.agg [.nils,vi 0]), .box 196 (.agg [vi 0,vi 0,vq 0,vq 0]),Ab 5 m],[]⟩
def x9(b:UInt32)(k n:Int)(a o:UInt64)(m:LB)(u:Int):Option R_:=H.e P_ [r,r,r,r,r,r,l,(call 1 170),r,r,r,d,r,r] ⟨[],[.box 148 (.agg [.own 4,vi k]), .box 196 (.agg [vi u,vi n,vq (Ad a (Ah (Ae b:UInt64) (Bk a (GI.toZ (4:UInt64)).toNat))),vq o]), .box 148 (.agg [.nils,vi 0]), .box 196 (.agg [vi 0,vi 0,vq 0,vq 0]),Ab 5 m],[[(2,vu b),(3, .ptr 0 []),(4, .ptr 1 []),(6, .ptr 2 []),(7, .ptr 3 []),(65,vu b)]]⟩
def x8(b:UInt32)(f:Int)(a:UInt64)(k:Int)(m:LB)(n:Int)(o:UInt64):Option R_:=H.e P_ [r,r,r,r,r,r,l,(call 1 170),r,r,r,d,r] ⟨[(0, .ptr 0 []),(1,vu b),(4, .fn 196 [])],[.box 196 (.agg [vi f,vi n,vq a,vq o]), .box 148 (.agg [.own 4,vi k]), .box 148 (.agg [.nils,vi 0]), .box 196 (.agg [vi 0,vi 0,vq 0,vq 0]),Ab 5 m],[[(2,vu b),(3, .ptr 1 []),(4, .ptr 0 []),(6, .ptr 2 []),(7, .ptr 3 []),(65,vu b)]]⟩
def x7(b:UInt32)(f h:Int)(a g:UInt64)(y k:Int)(m:LB):Option R_:=H.e P_ [r,r,r,r,r] ⟨[(2,vu b),(3, .ptr 0 []),(4, .ptr 1 []),(6, .ptr 2 []),(7, .ptr 3 []),(11,vi y)],[.box 148 (.agg [.own 4,vi k]), .box 196 (.agg [vi f,vi h,vq a,vq g]), .box 148 (.agg [.nils,vi 0]), .box 196 (.agg [vi 0,vi 0,vq 0,vq 0]),Ab 5 m],[]⟩
def x6(b:UInt32)(v:LB)(w f h:Int)(a g:UInt64):Option R_:=H.e P_ [r,r] ⟨[(2,vu b),(3, .ptr 0 []),(4, .ptr 1 []),(6, .ptr 2 []),(7, .ptr 3 [])],[.box 148 (.agg [vb v,vi w]), .box 196 (.agg [vi f,vi h,vq a,vq g]), .box 148 (.agg [.nils,vi 0]), .box 196 (.agg [vi 0,vi 0,vq 0,vq 0])],[]⟩
theorem e10:x10=Aqs:=Eq.trans (b:=Ad8) (by kernel_rfl) (by rw[Aud];rfl)
theorem e9:x9=Atx:=Eq.trans (b:=Ath x10) (by kernel_rfl) (by simp only[e10]<;>rfl)
theorem e8:x8=Ati:=Eq.trans (b:=Ata x9) (by kernel_rfl) (by simp only[e9]<;>rfl)
theorem e7:x7=At2:=Eq.trans (b:=Atk x8) (by kernel_rfl) (by simp only[e8]<;>rfl)
theorem e6:x6=Atb:=Eq.trans (b:=Atn x7) (by kernel_rfl) (by simp only[e7]<;>rfl)
noncomputable def F:=u7 Bc5
theorem rn x:H.u P_ x=F x:=Eq.trans (b:=u7 (At1 x6) x) (by kernel_rfl) (by simp only[e6]<;>rfl)
noncomputable def c:Con:=⟨H.p,H.r,F⟩
theorem ok:ConOk P_ gl 186 c:=cr H func186 (.cons F140.ok (.cons F168.ok (.cons F197.ok (.cons F206.ok (.cons F207.ok .nil))))) (AnsOk.cons ent170 (AnsOk.cons ent196 AnsOk.nil)) rn
end F186
namespace F126
abbrev R_:=(UInt32×Int)
abbrev K_:=S→Option R_
noncomputable def H:Hd:=⟨[Su,Sb],[Su,Si],(.seq .d (.seq .d (.cut [0,1,6] [] (.keep [0,1,6,12] true) (.cut [0] [] (.seq .d (.blk (.loop [0,6,13,14,15] [] .d))) .d)))),⟨[],gl,false⟩,[(161,(.seq .d (.seq .d (.cut [1] [] (.seq .d (.blk (.loop [1,5] [] (.seq .d (.seq .d (.cut [1,5] [] (.blk (.seq .d (.seq .d (.cut [1,2,3,5] [] (.seq .d (.blk (.loop [1,2,3,5,10] [] .d))) .d)))) .d)))))) .d))))],f126⟩
def t28(a:LB)(b:LU)(h:UInt32)(m:Int):S:=⟨[(0,vu h),(6, .ptr 0 []),(13,vb a),(14,vi (Ac a)),(15,vi m)],[.box 267 (.val (.vec 256 (.int .u32)) b)],[]⟩
def z28:Nat→S→Option R_:=H.i P_ [r,r,r,l,r,d]
def t21(f:UInt32)(a:LB)(g:Int)(b:LU)(k:UInt32)(n:Int):S:=⟨[(1, .ptr 0 []),(2,vi g),(3,vu k),(5,vi g),(10,vi n)],[.box 267 (.val (.vec 256 (.int .u32)) b)],[[(0,vu f),(1,vb a)]]⟩
def z21(kn16:K_):Nat→S→Option R_:=H.i P_ [r,r,l,(call 0 161),r,r,l,r,d,(lp kn16),r,r,l,d,r,r,l,r,d]
def t16(f:UInt32)(a:LB)(g:Int)(b:LU):S:=⟨[(1, .ptr 0 []),(5,vi g)],[.box 267 (.val (.vec 256 (.int .u32)) b)],[[(0,vu f),(1,vb a)]]⟩
def z16:Nat→S→Option R_:=H.i P_ [r,r,l,(call 0 161),r,r,l,r,d]
def x30(h:UInt32):Option R_:=H.e P_ [r,r,r,r] ⟨[(0,vu h)],[],[]⟩
def x28(a:LB)(b:LU)(h:UInt32)(m:Int):Option R_:=H.e P_ [r,r,r,l,r,d] (t28 a b h m)
def x27(f:UInt32)(a:LB)(b:LU):Option R_:=H.e P_ [r,r,r] ⟨[(0,vu f),(1,vb a),(6, .ptr 0 [])],[.box 267 (.val (.vec 256 (.int .u32)) b)],[]⟩
def x26(f:UInt32)(a:LB)(b:LU):Option R_:=H.e P_ [r,r,l,(call 0 161),r,r,r] ⟨[(1, .ptr 0 [])],[.box 267 (.val (.vec 256 (.int .u32)) b)],[[(0,vu f),(1,vb a)]]⟩
def x24(kn16:K_)(f:UInt32)(a:LB)(g:Int)(o:LU):Option R_:=H.e P_ [r,r,l,(call 0 161),r,r,l,r,d,(lp kn16),r,r,r] ⟨[(1, .ptr 0 []),(5,vi g)],[.box 267 (.val (.vec 256 (.int .u32)) o)],[[(0,vu f),(1,vb a)]]⟩
def x23(kn16:K_)(f:UInt32)(a:LB)(g:Int)(k:UInt32)(b:LU):Option R_:=H.e P_ [r,r,l,(call 0 161),r,r,l,r,d,(lp kn16),r,r,l,d,r,r,r] ⟨[(1, .ptr 0 []),(2,vi g),(3,vu k),(5,vi g)],[.box 267 (.val (.vec 256 (.int .u32)) b)],[[(0,vu f),(1,vb a)]]⟩
def x21(kn16:K_)(f:UInt32)(a:LB)(g:Int)(b:LU)(k:UInt32)(n:Int):Option R_:=H.e P_ [r,r,l,(call 0 161),r,r,l,r,d,(lp kn16),r,r,l,d,r,r,l,r,d] (t21 f a g b k n)
def x16(f:UInt32)(a:LB)(g:Int)(b:LU):Option R_:=H.e P_ [r,r,l,(call 0 161),r,r,l,r,d] (t16 f a g b)
theorem e30:x30=Aht:=by kernel_rfl
theorem i28(a:LB)(b:LU):∀(q:Nat) (h:UInt32) (m:Int),z28 q (t28 a b h m)=Lu a b q h m:=
 ind (fun _ _=>by kernel_rfl) fun q ih h m=>Eq.trans (b:=Zd x30 (fun h m=>(z28 q) (t28 a b h m)) a b h m) (by kernel_rfl) (by simp only[e30,ih]<;>rfl)
theorem e28:x28=Agr:=by funext a b h m;exact Eq.trans (by kernel_rfl) ((i28 a b Cf h m).trans (by rw[Ar];rfl))
theorem e27:x27=Ag1:=Eq.trans (b:=Ah1 x28) (by kernel_rfl) (by simp only[e28]<;>rfl)
theorem e26:x26=Yn:=Eq.trans (b:=Agj x27) (by kernel_rfl) (by simp only[e27]<;>rfl)
theorem e24(kn16:K_)(f:UInt32)(a:LB):x24 kn16 f a=Af5 (fun g b=>kn16 (t16 f a g b)) f a:=by kernel_rfl
theorem e23(kn16:K_)(f:UInt32)(a:LB):x23 kn16 f a=Zx (fun g b=>kn16 (t16 f a g b)) f a:=Eq.trans (b:=Agu (x24 kn16 f a) f a) (by kernel_rfl) (by simp only[e24]<;>rfl)
theorem i21(kn16:K_)(f:UInt32)(a:LB)(g:Int)(b:LU):∀(q:Nat) (k:UInt32) (n:Int),z21 kn16 q (t21 f a g b k n)=Mn (fun g b=>kn16 (t16 f a g b)) f a g b q k n:=
 ind (fun _ _=>by kernel_rfl) fun q ih k n=>Eq.trans (b:=Xf (x23 kn16 f a) (fun k n=>(z21 kn16 q) (t21 f a g b k n)) f a g b k n) (by kernel_rfl) (by simp only[e23,ih]<;>rfl)
theorem e21(kn16:K_)(f:UInt32)(a:LB):x21 kn16 f a=Ahs (fun g b=>kn16 (t16 f a g b)) f a:=by funext g b k n;exact Eq.trans (by kernel_rfl) ((i21 kn16 f a g b Cf k n).trans (by rw[Ar];rfl))
theorem i16(f:UInt32)(a:LB):∀(q:Nat) (g:Int) (b:LU),z16 q (t16 f a g b)=Ju f a q g b:=
 ind (fun _ _=>by kernel_rfl) fun q ih g b=>Eq.trans (b:=Ym (x21 (z16 q) f a) x26 f a g b) (by kernel_rfl) (by simp only[e21,e26,ih]<;>rfl)
theorem e16:x16=Ahb:=by funext f a g b;exact Eq.trans (by kernel_rfl) ((i16 f a Cf g b).trans (by rw[Ar];rfl))
noncomputable def F:=u2 Alu
theorem rn x:H.u P_ x=F x:=Eq.trans (b:=u2 (Aka x16) x) (by kernel_rfl) (by simp only[e16]<;>rfl)
noncomputable def c:Con:=⟨H.p,H.r,F⟩
theorem ok:ConOk P_ gl 126 c:=cr H func126 .nil (AnsOk.cons ent161 AnsOk.nil) rn
end F126
namespace F80
noncomputable def H:Hd:=⟨[Sb],[Su,Si], .d,⟨[(126,F126.c)],gl,false⟩,[],f80⟩
noncomputable def F:=Rz
theorem rn x:H.u P_ x=F x:=by kernel_rfl
noncomputable def c:Con:=⟨H.p,H.r,F⟩
theorem ok:ConOk P_ gl 80 c:=co H func80 (.cons F126.ok .nil) rn
end F80
namespace F162
noncomputable def H:Hd:=⟨[Sq,Si],[Sz], .d,⟨[],gl,false⟩,[],f162⟩
noncomputable def F:=u2 Bap
theorem rn x:H.u P_ x=F x:=by kernel_rfl
noncomputable def c:Con:=⟨H.p,H.r,F⟩
theorem ok:ConOk P_ gl 162 c:=co H func162 .nil rn
end F162
namespace F128
abbrev R_:=(LB×Int)
noncomputable def H:Hd:=⟨[Sq,Si],[Ob 5,Si],(.seq .d (.seq .d (.seq .d (.seq .d (.cut [6] [] (.seq .d (.blk (.loop [0,6,21,22] [] .d))) .d))))),⟨[(162,F162.c)],gl,false⟩,[],f128⟩
def t4(f:UInt64)(g:LB)(b:Int)(a:LB):S:=⟨[(0,vq f),(6, .own 0),(21,vi (Ac g)),(22,vi b)],[Ab 5 a],[]⟩
def z4:Nat→S→Option R_:=H.i P_ [r,r,r,r,l,r,d]
def x6(a:LB):Option R_:=H.e P_ [r,r,r,r,r] ⟨[(6, .own 0)],[Ab 5 a],[]⟩
def x4(f:UInt64)(g:LB)(b:Int)(a:LB):Option R_:=H.e P_ [r,r,r,r,l,r,d] (t4 f g b a)
theorem e6:x6=Aqf:=by kernel_rfl
theorem i4(f:UInt64)(g:LB):∀(q:Nat) (b:Int) (a:LB),z4 q (t4 f g b a)=Ws f g q b a:=
 ind (fun _ _=>by kernel_rfl) fun q ih b a=>Eq.trans (b:=Aix x6 (fun b a=>(z4 q) (t4 f g b a)) f g b a) (by kernel_rfl) (by simp only[e6,ih]<;>rfl)
theorem e4:x4=Apv:=by funext f g b a;exact Eq.trans (by kernel_rfl) ((i4 f g Cf b a).trans (by rw[Ar];rfl))
noncomputable def F:=u2 Uf
theorem rn x:H.u P_ x=F x:=Eq.trans (b:=u2 (Aqx x4) x) (by kernel_rfl) (by simp only[e4]<;>rfl)
noncomputable def c:Con:=⟨H.p,H.r,F⟩
theorem ok:ConOk P_ gl 128 c:=co H func128 (.cons F162.ok .nil) rn
end F128
namespace F188
abbrev R_:=LB
noncomputable def H:Hd:=⟨[.lf (.list (.list (.int .u8))) none],[Ob 5],(.seq .d (.seq .d (.cut [0,3] [] (.seq .d (.blk (.loop [0,3,9,10,11] [] .d))) (.cut [0,6] [⟨6,[], .own 5 (.int .u8)⟩] (.keep [0,3,6,23,24] true) (.cut [6] [] (.seq .d (.blk (.loop [6,25,26,27] [] .d))) .d))))),⟨[],gl,true⟩,[(208,(.seq .d (.cut [0,1] [] .d .d)))],f188⟩
def t14(a:List LB)(g:Int)(f:LB):S:=⟨[(6, .own 0),(25, .val (.list (.list (.int .u8))) a),(26,vi (Ac a)),(27,vi g)],[Ab 5 f],[]⟩
def z14:Nat→S→Option R_:=H.i P_ [r,r,r,r,l,r,d]
def t9(a:List LB)(b h:Int):S:=⟨[(0, .val (.list (.list (.int .u8))) a),(3,vi b),(9, .val (.list (.list (.int .u8))) a),(10,vi (Ac a)),(11,vi h)],[],[]⟩
def z9:Nat→S→Option R_:=H.i P_ [r,r,l,r,d]
def x16(f:LB):Option R_:=H.e P_ [r,r,r,r,r] ⟨[(6, .own 0)],[Ab 5 f],[]⟩
def x14(a:List LB)(g:Int)(f:LB):Option R_:=H.e P_ [r,r,r,r,l,r,d] (t14 a g f)
def x13(a:List LB)(k:LB):Option R_:=H.e P_ [r,r,r,r] ⟨[(0, .val (.list (.list (.int .u8))) a),(6, .own 0)],[Ab 5 k],[]⟩
def x12(b:Int)(a:List LB):Option R_:=H.e P_ [r,r,r,l,(call 1 208),r,r] ⟨[(0, .nils),(1,vi b)],[],[[(0, .val (.list (.list (.int .u8))) a),(3,vi b),(23,vi b)]]⟩
def x11(a:List LB)(b:Int):Option R_:=H.e P_ [r,r,r] ⟨[(0, .val (.list (.list (.int .u8))) a),(3,vi b)],[],[]⟩
def x9(a:List LB)(b h:Int):Option R_:=H.e P_ [r,r,l,r,d] (t9 a b h)
theorem e16:x16=Pz:=by kernel_rfl
theorem i14(a:List LB):∀(q:Nat) (g:Int) (f:LB),z14 q (t14 a g f)=Is a q g f:=
 ind (fun _ _=>by kernel_rfl) fun q ih g f=>Eq.trans (b:=Pr x16 (fun g f=>(z14 q) (t14 a g f)) a g f) (by kernel_rfl) (by simp only[e16,ih]<;>rfl)
theorem e14:x14=Pu:=by funext a g f;exact Eq.trans (by kernel_rfl) ((i14 a Cf g f).trans (by rw[Ar];rfl))
theorem e13:x13=Pw:=Eq.trans (b:=Pk x14) (by kernel_rfl) (by simp only[e14]<;>rfl)
theorem e12:x12=Pv:=Eq.trans (b:=Pp x13) (by kernel_rfl) (by simp only[e13]<;>rfl)
theorem e11:x11=Pn:=Eq.trans (b:=Pm x12) (by kernel_rfl) (by simp only[e12]<;>rfl)
theorem i9(a:List LB):∀(q:Nat) (b h:Int),z9 q (t9 a b h)=Jo a q b h:=
 ind (fun _ _=>by kernel_rfl) fun q ih b h=>Eq.trans (b:=Rk x11 (fun b h=>(z9 q) (t9 a b h)) a b h) (by kernel_rfl) (by simp only[e11,ih]<;>rfl)
theorem e9:x9=Qc:=by funext a b h;exact Eq.trans (by kernel_rfl) ((i9 a Cf b h).trans (by rw[Ar];rfl))
noncomputable def F:=Vu
theorem rn x:H.u P_ x=F x:=Eq.trans (b:=Qo x9 x) (by kernel_rfl) (by simp only[e9]<;>rfl)
noncomputable def c:Con:=⟨H.p,H.r,F⟩
theorem ok:ConOk P_ gl 188 c:=cr H func188 .nil (AnsOk.cons ent208 AnsOk.nil) rn
end F188
namespace F156
abbrev R_:=(LB×Int)
abbrev K_:=S→Option R_
noncomputable def H:Hd:=⟨[.agg [Si,Si], .lf (.vec 16 (.int .i32)) none,Sw],[Ob 5,Si],(.seq .d (.seq .d (.seq .d (.seq .d (.seq .d (.cut [11] [] (.seq .d (.blk (.loop [3,10,11,30,31,32] [⟨11,[0], .own 5 (.int .u8)⟩] (.seq .d (.seq .d (.cut [3,10,11,30,31,32] [] (.blk (.seq .d (.seq .d (.seq .d (.seq .d (.keep [3,10,11,14,30,31,32,59] true)))))) .d)))))) .d)))))),⟨[(80,F80.c),(128,F128.c),(184,F184.c),(185,F185.c),(186,F186.c),(188,F188.c)],gl,false⟩,[(187,(.seq .d (.seq .d (.blk (.loop [0,3,7,8] [] (.seq .d (.seq .d (.seq (.blk (.seq .d (.cut [0,3,4,7,8] [] .d (.seq .d (.cut [0,3,7,8] [] .d .d))))) .d))))))))],f156⟩
def t44(a:LU)(b f h g:Int)(k:List (Int×Int×UInt64×UInt64×Unit))(m:LB)(o n:Int)(v:LB):S:=⟨[(0, .ptr 0 []),(3, .ptr 1 []),(7,vi h),(8,vi o)],[.box 148 (.agg [.own 7,vi n]), .box 148 (.agg [.own 6,vi h]), .box 44 (.agg [vi b,vi f]), .box 197 (.val (.vec 6 (.cons (.int .i64) (.cons (.int .i64) (.cons (.int .u64) (.cons (.int .u64) .nil))))) k), .box 148 (.agg [.own 6,vi h]),Av 131 a,Ab 5 m,Ab 5 v],[[(3, .ptr 2 []),(10, .ptr 3 []),(11, .ptr 0 []),(14, .ptr 4 []),(30, .own 5),(31,vi (Ac a)),(32,vi g),(59, .agg [.own 6,vi h])]]⟩
def z44(kn27:K_):Nat→S→Option R_:=H.i P_ [r,r,r,r,r,l,r,d,(lp kn27),r,r,l,d,r,r,r,r,(call 1 187),r,r,d]
def t27(a:LU)(b f g:Int)(w:List (Int×Int×UInt64×UInt64×Unit))(u:Int)(p:LB):S:=⟨[(3, .ptr 0 []),(10, .ptr 1 []),(11, .ptr 2 []),(30, .own 3),(31,vi (Ac a)),(32,vi g)],[.box 44 (.agg [vi b,vi f]), .box 197 (.val (.vec 6 (.cons (.int .i64) (.cons (.int .i64) (.cons (.int .u64) (.cons (.int .u64) .nil))))) w), .box 148 (.agg [.own 4,vi u]),Av 131 a,Ab 5 p],[]⟩
def z27:Nat→S→Option R_:=H.i P_ [r,r,r,r,r,l,r,d]
def x52(u:Int)(p:LB):Option R_:=H.e P_ [r,r,r,r,r,r] ⟨[(11, .ptr 0 [])],[.box 148 (.agg [.own 1,vi u]),Ab 5 p],[]⟩
def x50(kn27:K_)(a:LU)(b f g:Int)(k:List (Int×Int×UInt64×UInt64×Unit))(n:Int)(v:LB):Option R_:=H.e P_ [r,r,r,r,r,l,r,d,(lp kn27),r,r,r] ⟨[(3, .ptr 0 []),(10, .ptr 1 []),(11, .ptr 2 []),(30, .own 3),(31,vi (Ac a)),(32,vi g)],[.box 44 (.agg [vi b,vi f]), .box 197 (.val (.vec 6 (.cons (.int .i64) (.cons (.int .i64) (.cons (.int .u64) (.cons (.int .u64) .nil))))) k), .box 148 (.agg [.own 4,vi n]),Av 131 a,Ab 5 v],[]⟩
def x48(kn27 kn44:K_)(h:Int)(a:LU)(g b f:Int)(k:List (Int×Int×UInt64×UInt64×Unit))(m:LB)(o n:Int)(aa:LB):Option R_:=H.e P_ [r,r,r,r,r,l,r,d,(lp kn27),r,r,l,d,r,r,r,r,(call 1 187),r,r,d,(lp kn44),r,r,l,d,r,r,r,r] ⟨[(0, .ptr 0 []),(3, .ptr 1 []),(7,vi h),(8,vi o)],[.box 148 (.agg [.own 7,vi n]), .box 148 (.agg [.own 6,vi h]), .box 44 (.agg [vi b,vi f]), .box 197 (.val (.vec 6 (.cons (.int .i64) (.cons (.int .i64) (.cons (.int .u64) (.cons (.int .u64) .nil))))) k), .box 148 (.agg [.own 6,vi h]),Av 131 a,Ab 5 m,Ab 5 aa],[[(3, .ptr 2 []),(10, .ptr 3 []),(11, .ptr 0 []),(14, .ptr 4 []),(30, .own 5),(31,vi (Ac a)),(32,vi g),(59, .agg [.own 6,vi h])]]⟩
def x47(kn27 kn44:K_)(h:Int)(a:LU)(g b f:Int)(k:List (Int×Int×UInt64×UInt64×Unit))(m:LB)(o n:Int)(y:LB):Option R_:=H.e P_ [r,r,r,r,r,l,r,d,(lp kn27),r,r,l,d,r,r,r,r,(call 1 187),r,r,d,(lp kn44),r,r,l,d,r,r] ⟨[(0, .ptr 0 []),(3, .ptr 1 []),(4,vi o),(7,vi h),(8,vi o)],[.box 148 (.agg [.own 7,vi n]), .box 148 (.agg [.own 6,vi h]), .box 44 (.agg [vi b,vi f]), .box 197 (.val (.vec 6 (.cons (.int .i64) (.cons (.int .i64) (.cons (.int .u64) (.cons (.int .u64) .nil))))) k), .box 148 (.agg [.own 6,vi h]),Av 131 a,Ab 5 m,Ab 5 y],[[(3, .ptr 2 []),(10, .ptr 3 []),(11, .ptr 0 []),(14, .ptr 4 []),(30, .own 5),(31,vi (Ac a)),(32,vi g),(59, .agg [.own 6,vi h])]]⟩
def x44(kn27:K_)(a:LU)(b f h g:Int)(k:List (Int×Int×UInt64×UInt64×Unit))(m:LB)(o n:Int)(v:LB):Option R_:=H.e P_ [r,r,r,r,r,l,r,d,(lp kn27),r,r,l,d,r,r,r,r,(call 1 187),r,r,d] (t44 a b f h g k m o n v)
def x27(a:LU)(b f g:Int)(w:List (Int×Int×UInt64×UInt64×Unit))(u:Int)(p:LB):Option R_:=H.e P_ [r,r,r,r,r,l,r,d] (t27 a b f g w u p)
theorem e52:x52=Agv:=by kernel_rfl
theorem e50(kn27:K_)(a:LU)(b f:Int):x50 kn27 a b f=Agy (fun g w u p=>kn27 (t27 a b f g w u p)) a b f:=by kernel_rfl
theorem e48(kn27 kn44:K_)(a:LU)(b f h g:Int)(k:List (Int×Int×UInt64×UInt64×Unit))(m:LB):x48 kn27 kn44 h a g b f k m=Ah2 (fun o n v=>kn44 (t44 a b f h g k m o n v)) h a g b f k m:=by kernel_rfl
theorem e47(kn27 kn44:K_)(a:LU)(b f h g:Int)(k:List (Int×Int×UInt64×UInt64×Unit))(m:LB):x47 kn27 kn44 h a g b f k m=Aih (fun o n v=>kn44 (t44 a b f h g k m o n v)) h a g b f k m:=Eq.trans (b:=Ag5 (x48 kn27 kn44 h a g b f k m) h a g b f k m) (by kernel_rfl) (by simp only[e48]<;>rfl)
theorem i44(kn27:K_)(a:LU)(b f h g:Int)(k:List (Int×Int×UInt64×UInt64×Unit))(m:LB):∀(q:Nat) (o n:Int) (v:LB),z44 kn27 q (t44 a b f h g k m o n v)=Vq (fun g w u p=>kn27 (t27 a b f g w u p)) a b f h g k m q o n v:=
 ind (fun _ _ _=>by kernel_rfl) fun q ih o n v=>Eq.trans (b:=Aic (x47 kn27 (z44 kn27 q) h a g b f k m) (x50 kn27 a b f) a b f h g k m o n v) (by kernel_rfl) (by simp only[e47,e50,ih]<;>rfl)
theorem e44(kn27:K_)(a:LU)(b f:Int):x44 kn27 a b f=Af9 (fun g w u p=>kn27 (t27 a b f g w u p)) a b f:=by funext h g k m o n v;exact Eq.trans (by kernel_rfl) ((i44 kn27 a b f h g k m Cf o n v).trans (by rw[Ar];rfl))
theorem i27(a:LU)(b f:Int):∀(q:Nat) (g:Int) (w:List (Int×Int×UInt64×UInt64×Unit)) (u:Int) (p:LB),z27 q (t27 a b f g w u p)=Vo a b f q g w u p:=
 ind (fun _ _ _ _=>by kernel_rfl) fun q ih g w u p=>Eq.trans (b:=Af3 (x44 (z27 q) a b f) x52 a b f g w u p) (by kernel_rfl) (by simp only[e44,e52,ih]<;>rfl)
theorem e27:x27=Ags:=by funext a b f g w u p;exact Eq.trans (by kernel_rfl) ((i27 a b f Cf g w u p).trans (by rw[Ar];rfl))
noncomputable def F:=u4 Zs
theorem rn x:H.u P_ x=F x:=Eq.trans (b:=u4 (Ai6 x27) x) (by kernel_rfl) (by simp only[e27]<;>rfl)
noncomputable def c:Con:=⟨H.p,H.r,F⟩
theorem ok:ConOk P_ gl 156 c:=cr H func156 (.cons F80.ok (.cons F128.ok (.cons F184.ok (.cons F185.ok (.cons F186.ok (.cons F188.ok .nil)))))) (AnsOk.cons ent187 AnsOk.nil) rn
end F156
theorem Ba2:ConOk Tryz.prog gl 116 Ajt:=Bbn F154.ok F45.ok F86.ok F156.ok F157.ok
namespace F81
abbrev R_:=Bool
noncomputable def H:Hd:=⟨[.agg [Si,Si,Si,Si,Si]],[Sz],(.seq .d (.cut [1] [] .d .d)),⟨[],gl,false⟩,[],f81⟩
def x2(b f a g h:Int):Option R_:=H.e P_ [r,r] ⟨[(1, .ptr 0 [])],[.box 26 (.agg [vi b,vi f,vi a,vi g,vi h])],[]⟩
theorem e2:x2=Sf:=by kernel_rfl
noncomputable def F:=u5 Ue
theorem rn x:H.u P_ x=F x:=Eq.trans (b:=u5 (Abh x2) x) (by kernel_rfl) (by simp only[e2]<;>rfl)
noncomputable def c:Con:=⟨H.p,H.r,F⟩
theorem ok:ConOk P_ gl 81 c:=co H func81 .nil rn
end F81
namespace F82
noncomputable def H:Hd:=⟨[.agg [Si,Si,Si,Si,Si]],[Sz], .d,⟨[(49,F49.c)],gl,false⟩,[],f82⟩
noncomputable def F:=u5 Adl
theorem rn x:H.u P_ x=F x:=by kernel_rfl
noncomputable def c:Con:=⟨H.p,H.r,F⟩
theorem ok:ConOk P_ gl 82 c:=co H func82 (.cons F49.ok .nil) rn
end F82
namespace F85
noncomputable def H:Hd:=⟨[.agg [Si,Si,Si,Si,Si]],[Si], .d,⟨[(81,F81.c),(82,F82.c)],gl,false⟩,[],f85⟩
noncomputable def F:=u5 Xx
theorem rn x:H.u P_ x=F x:=by kernel_rfl
noncomputable def c:Con:=⟨H.p,H.r,F⟩
theorem ok:ConOk P_ gl 85 c:=co H func85 (.cons F81.ok (.cons F82.ok .nil)) rn
end F85
namespace F117
abbrev R_:=(LB×Int)
noncomputable def H:Hd:=⟨[.agg [Si,Si,Si,Si,Si]],[Ob 5,Si],(.seq .d (.seq .d (.seq .d (.cut [5] [] (.seq .d (.blk (.loop [5,31,32] [] .d))) .d)))),⟨[(80,F80.c),(85,F85.c),(128,F128.c)],gl,false⟩,[],f117⟩
def t4(b f g h k m:Int)(a:LB):S:=⟨[(5, .own 0),(31, .val (.vec 5 (.int .i64)) ([b,f,g,h,k]:LI)),(32,vi m)],[Ab 5 a],[]⟩
def z4:Nat→S→Option R_:=H.i P_ [r,r,r,l,r,d]
def x6(a:LB):Option R_:=H.e P_ [r,r,r,r] ⟨[(5, .own 0)],[Ab 5 a],[]⟩
def x4(b f g h k m:Int)(a:LB):Option R_:=H.e P_ [r,r,r,l,r,d] (t4 b f g h k m a)
theorem e6:x6=An3:=by kernel_rfl
theorem i4(b f g h k:Int):∀(q:Nat) (m:Int) (a:LB),z4 q (t4 b f g h k m a)=Aee b f g h k q m a:=
 ind (fun _ _=>by kernel_rfl) fun q ih m a=>Eq.trans (b:=Aoh x6 (fun m a=>(z4 q) (t4 b f g h k m a)) b f g h k m a) (by kernel_rfl) (by simp only[e6,ih]<;>rfl)
theorem e4:x4=Aog:=by funext b f g h k m a;exact Eq.trans (by kernel_rfl) ((i4 b f g h k Cf m a).trans (by rw[Ar];rfl))
noncomputable def F:=u5 Av3
theorem rn x:H.u P_ x=F x:=Eq.trans (b:=u5 (Anq x4) x) (by kernel_rfl) (by simp only[e4]<;>rfl)
noncomputable def c:Con:=⟨H.p,H.r,F⟩
theorem ok:ConOk P_ gl 117 c:=co H func117 (.cons F80.ok (.cons F85.ok (.cons F128.ok .nil))) rn
end F117
namespace F127
noncomputable def H:Hd:=⟨[Ss],[Sq,Si], .d,⟨[(92,F92.c)],gl,false⟩,[],f127⟩
noncomputable def F:=Ayc
theorem rn x:H.u P_ x=F x:=by kernel_rfl
noncomputable def c:Con:=⟨H.p,H.r,F⟩
theorem ok:ConOk P_ gl 127 c:=co H func127 (.cons F92.ok .nil) rn
end F127
namespace F83
noncomputable def H:Hd:=⟨[Ss],[Ob 5,Si], .d,⟨[(127,F127.c),(128,F128.c)],gl,false⟩,[],f83⟩
noncomputable def F:=Wy
theorem rn x:H.u P_ x=F x:=by kernel_rfl
noncomputable def c:Con:=⟨H.p,H.r,F⟩
theorem ok:ConOk P_ gl 83 c:=co H func83 (.cons F127.ok (.cons F128.ok .nil)) rn
end F83
namespace F87
abbrev R_:=Int
noncomputable def H:Hd:=⟨[Sl],[Si],(.seq .d (.seq .d (.seq .d (.cut [] [] (.seq .d (.blk (.loop [3,14,15,16] [] .d))) .d)))),⟨[],gl,false⟩,[],f87⟩
def t4(a:LI)(f b:Int):S:=⟨[(3,vi f),(14,vl a),(15,vi (Ac a)),(16,vi b)],[],[]⟩
def z4:Nat→S→Option R_:=H.i P_ [r,r,r,l,r,d]
def x6:Option R_:=H.e P_ [r,r,r,r] ⟨[],[],[]⟩
def x4(a:LI)(f b:Int):Option R_:=H.e P_ [r,r,r,l,r,d] (t4 a f b)
theorem e6:x6=Ark:=by kernel_rfl
theorem i4(a:LI):∀(q:Nat) (f b:Int),z4 q (t4 a f b)=Mm a q f b:=
 ind (fun _ _=>by kernel_rfl) fun q ih f b=>Eq.trans (b:=Yb x6 (fun f b=>(z4 q) (t4 a f b)) a f b) (by kernel_rfl) (by simp only[e6,ih]<;>rfl)
theorem e4:x4=Af6:=by funext a f b;exact Eq.trans (by kernel_rfl) ((i4 a Cf f b).trans (by rw[Ar];rfl))
noncomputable def F:=Ky
theorem rn x:H.u P_ x=F x:=Eq.trans (b:=Xp x4 x) (by kernel_rfl) (by simp only[e4]<;>rfl)
noncomputable def c:Con:=⟨H.p,H.r,F⟩
theorem ok:ConOk P_ gl 87 c:=co H func87 .nil rn
end F87
namespace F118
abbrev R_:=(LB×Int)
abbrev K_:=S→Option R_
noncomputable def H:Hd:=⟨[Sl],[Ob 5,Si],(.seq .d (.seq .d (.seq .d (.seq .d (.cut [5,6] [] (.seq .d (.blk (.loop [5,6,17,18,19] [⟨5,[], .own 5 (.int .u8)⟩,⟨6,[0], .own 5 (.int .u8)⟩] (.seq .d (.seq .d (.cut [5,6,17,18,19] [] (.blk (.seq .d (.keep [5,6,8,17,18,19,23,24,25] true))) .d)))))) (.seq .d (.cut [5] [] (.keep [5,6,9,33,34,35] true) .d))))))),⟨[(80,F80.c),(87,F87.c),(128,F128.c)],gl,false⟩,[(158, .d)],f118⟩
def t8(a:LI)(f:Int)(b:LB):S:=⟨[(5, .ptr 0 []),(6, .fn 158 [.ptr 0 []]),(17,vl a),(18,vi (Ac a)),(19,vi f)],[.box 22 (.own 1),Ab 5 b],[]⟩
def z8:Nat→S→Option R_:=H.i P_ [r,r,r,r,l,r,d]
def x14(g:LB):Option R_:=H.e P_ [r,r,r,r,r,r,r] ⟨[(5, .ptr 0 [])],[.box 22 (.own 1),Ab 5 g],[]⟩
def x13(b:LB):Option R_:=H.e P_ [r,r,r,r,r] ⟨[(5, .ptr 0 []),(6, .fn 158 [.ptr 0 []])],[.box 22 (.own 1),Ab 5 b],[]⟩
def x11(kn8:K_)(a:LI)(f:Int)(h:LB):Option R_:=H.e P_ [r,r,r,r,l,r,d,(lp kn8),r,r,r] ⟨[(5, .ptr 0 []),(6, .fn 158 [.ptr 0 []]),(17,vl a),(18,vi (Ac a)),(19,vi f)],[.box 22 (.own 1),Ab 5 h],[]⟩
def x8(a:LI)(f:Int)(b:LB):Option R_:=H.e P_ [r,r,r,r,l,r,d] (t8 a f b)
theorem e14:x14=Aoj:=by kernel_rfl
theorem e13:x13=Ant:=Eq.trans (b:=An0 x14) (by kernel_rfl) (by simp only[e14]<;>rfl)
theorem e11(kn8:K_)(a:LI):x11 kn8 a=Aoe (fun f b=>kn8 (t8 a f b)) a:=by kernel_rfl
theorem i8(a:LI):∀(q:Nat) (f:Int) (b:LB),z8 q (t8 a f b)=Aho a q f b:=
 ind (fun _ _=>by kernel_rfl) fun q ih f b=>Eq.trans (b:=Arb (x11 (z8 q) a) x13 a f b) (by kernel_rfl) (by simp only[e11,e13,ih]<;>rfl)
theorem e8:x8=Aqh:=by funext a f b;exact Eq.trans (by kernel_rfl) ((i8 a Cf f b).trans (by rw[Ar];rfl))
noncomputable def F:=Ayv
theorem rn x:H.u P_ x=F x:=Eq.trans (b:=Aqj x8 x) (by kernel_rfl) (by simp only[e8]<;>rfl)
noncomputable def c:Con:=⟨H.p,H.r,F⟩
theorem ok:ConOk P_ gl 118 c:=cr H func118 (.cons F80.ok (.cons F87.ok (.cons F128.ok .nil))) (AnsOk.cons ent158 AnsOk.nil) rn
end F118
namespace F120
noncomputable def H:Hd:=⟨[Sb],[Si], .d,⟨[],gl,false⟩,[],f120⟩
noncomputable def F:=Atl
theorem rn x:H.u P_ x=F x:=by kernel_rfl
noncomputable def c:Con:=⟨H.p,H.r,F⟩
theorem ok:ConOk P_ gl 120 c:=co H func120 .nil rn
end F120
namespace F121
abbrev R_:=LB
noncomputable def H:Hd:=⟨[.lf (.list (.list (.int .u8))) none],[Ob 5],(.seq .d (.seq .d (.cut [3] [] (.seq .d (.blk (.loop [3,6,7,8] [⟨3,[], .own 5 (.int .u8)⟩] .d))) .d))),⟨[],gl,false⟩,[],f121⟩
def t4(b:List LB)(f:Int)(a:LB):S:=⟨[(3, .own 0),(6, .val (.list (.list (.int .u8))) b),(7,vi (Ac b)),(8,vi f)],[Ab 5 a],[]⟩
def z4:Nat→S→Option R_:=H.i P_ [r,r,l,r,d]
def x6(a:LB):Option R_:=H.e P_ [r,r,r] ⟨[(3, .own 0)],[Ab 5 a],[]⟩
def x4(b:List LB)(f:Int)(a:LB):Option R_:=H.e P_ [r,r,l,r,d] (t4 b f a)
theorem e6:x6=Aq6:=by kernel_rfl
theorem i4(b:List LB):∀(q:Nat) (f:Int) (a:LB),z4 q (t4 b f a)=Ah9 b q f a:=
 ind (fun _ _=>by kernel_rfl) fun q ih f a=>Eq.trans (b:=Ar2 x6 (fun f a=>(z4 q) (t4 b f a)) b f a) (by kernel_rfl) (by simp only[e6,ih]<;>rfl)
theorem e4:x4=Are:=by funext b f a;exact Eq.trans (by kernel_rfl) ((i4 b Cf f a).trans (by rw[Ar];rfl))
noncomputable def F:=Ay5
theorem rn x:H.u P_ x=F x:=Eq.trans (b:=Arj x4 x) (by kernel_rfl) (by simp only[e4]<;>rfl)
noncomputable def c:Con:=⟨H.p,H.r,F⟩
theorem ok:ConOk P_ gl 121 c:=co H func121 .nil rn
end F121
namespace F76
abbrev R_:=(LB×Int)
abbrev K_:=S→Option R_
noncomputable def H:Hd:=⟨[.agg [Si,Si,Si,Sw],Ss],[Ob 5,Si],(.seq .d (.seq .d (.seq .d (.seq .d (.seq .d (.seq .d (.seq .d (.seq .d (.cut [8,9,10] [⟨10,[], .own 5 (.int .u8)⟩] .d (.cut [7,8,9,10,11] [] (.keep [7,8,9,10,11,46,48,49,50,51] true) .d)))))))))),⟨[(83,F83.c),(115,F115.c),(116,Ajt),(117,F117.c),(118,F118.c),(120,F120.c),(121,F121.c)],gl,false⟩,[(119,(.seq .d (.seq .d (.cut [5] [] (.seq .d (.blk (.loop [1,5,11,12,13] [] (.seq .d (.seq .d (.cut [1,5,11,12,13] [] .d .d)))))) .d))))],f76⟩
def t9(a:List LB)(b f:LB)(g:Int)(h:LI):S:=⟨[(1, .fn 120 []),(5, .own 0),(11, .own 1),(12,vi (Ac a)),(13,vi g)],[Ai 3 h, .arr 22 (.list (.int .u8)) a,Ab 5 b,Ab 5 f],[[(8, .own 1),(9, .own 2),(10, .own 3)]]⟩
def z9:Nat→S→Option R_:=H.i P_ [r,r,r,r,r,r,r,r,r,l,(call 1 119),r,r,l,r,d]
def x14(k:Int)(a:List LB)(b f n:LB):Option R_:=H.e P_ [r,r,r,r,r,r,r,r,r,r] ⟨[(7,vi k),(8, .own 0),(9, .own 1),(10, .own 2),(11, .own 3)],[.arr 22 (.list (.int .u8)) a,Ab 5 b,Ab 5 f,Ab 5 n],[]⟩
def x13(h:LI)(a:List LB)(b f:LB):Option R_:=H.e P_ [r,r,r,r,r,r,r,r,r,l,(call 1 119),r,r,r] ⟨[(5, .own 0)],[Ai 3 h, .arr 22 (.list (.int .u8)) a,Ab 5 b,Ab 5 f],[[(8, .own 1),(9, .own 2),(10, .own 3)]]⟩
def x11(kn9:K_)(a:List LB)(b f:LB)(g:Int)(m:LI):Option R_:=H.e P_ [r,r,r,r,r,r,r,r,r,l,(call 1 119),r,r,l,r,d,(lp kn9),r,r,r] ⟨[(1, .fn 120 []),(5, .own 0),(11, .own 1),(12,vi (Ac a)),(13,vi g)],[Ai 3 m, .arr 22 (.list (.int .u8)) a,Ab 5 b,Ab 5 f],[[(8, .own 1),(9, .own 2),(10, .own 3)]]⟩
def x9(a:List LB)(b f:LB)(g:Int)(h:LI):Option R_:=H.e P_ [r,r,r,r,r,r,r,r,r,l,(call 1 119),r,r,l,r,d] (t9 a b f g h)
def x8(a:List LB)(b f:LB):Option R_:=H.e P_ [r,r,r,r,r,r,r,r,r] ⟨[(8, .own 0),(9, .own 1),(10, .own 2)],[.arr 22 (.list (.int .u8)) a,Ab 5 b,Ab 5 f],[]⟩
theorem e14:x14=Aop:=by kernel_rfl
theorem e13:x13=Aoc:=Eq.trans (b:=Anu x14) (by kernel_rfl) (by simp only[e14]<;>rfl)
theorem e11(kn9:K_)(a:List LB)(b f:LB):x11 kn9 a b f=An9 (fun g h=>kn9 (t9 a b f g h)) a b f:=by kernel_rfl
theorem i9(a:List LB)(b f:LB):∀(q:Nat) (g:Int) (h:LI),z9 q (t9 a b f g h)=Aig a b f q g h:=
 ind (fun _ _=>by kernel_rfl) fun q ih g h=>Eq.trans (b:=Aq1 (x11 (z9 q) a b f) x13 a b f g h) (by kernel_rfl) (by simp only[e11,e13,ih]<;>rfl)
theorem e9:x9=Aqw:=by funext a b f g h;exact Eq.trans (by kernel_rfl) ((i9 a b f Cf g h).trans (by rw[Ar];rfl))
theorem e8:x8=Aqk:=Eq.trans (b:=Ap0 x9) (by kernel_rfl) (by simp only[e9]<;>rfl)
noncomputable def F:=u5 Azx
theorem rn x:H.u P_ x=F x:=Eq.trans (b:=u5 (Ap2 x8) x) (by kernel_rfl) (by simp only[e8]<;>rfl)
noncomputable def c:Con:=⟨H.p,H.r,F⟩
theorem ok:ConOk P_ gl 76 c:=cr H func76 (.cons F83.ok (.cons F115.ok (.cons Ba2 (.cons F117.ok (.cons F118.ok (.cons F120.ok (.cons F121.ok .nil))))))) (AnsOk.cons ent119 AnsOk.nil) rn
end F76
namespace F34
noncomputable def H:Hd:=⟨[],[Ob 5,Sz], .d,⟨[(76,F76.c)],gl,false⟩,[],f34⟩
noncomputable def F(x:Unit):=Ag9
theorem rn x:H.u P_ x=F x:=by kernel_rfl
noncomputable def c:Con:=⟨H.p,H.r,F⟩
theorem ok:ConOk P_ gl 34 c:=co H func34 (.cons F76.ok .nil) rn
end F34
namespace F84
noncomputable def H:Hd:=⟨[Sb,Sb],[Sz], .d,⟨[],gl,false⟩,[],f84⟩
noncomputable def F:=u2 Fj
theorem rn x:H.u P_ x=F x:=by kernel_rfl
noncomputable def c:Con:=⟨H.p,H.r,F⟩
theorem ok:ConOk P_ gl 84 c:=co H func84 .nil rn
end F84
namespace F132
noncomputable def H:Hd:=⟨[Sb,Sb],[Sz], .d,⟨[(84,F84.c)],gl,false⟩,[],f132⟩
noncomputable def F:=u2 Ib
theorem rn x:H.u P_ x=F x:=by kernel_rfl
noncomputable def c:Con:=⟨H.p,H.r,F⟩
theorem ok:ConOk P_ gl 132 c:=co H func132 (.cons F84.ok .nil) rn
end F132
namespace F189
abbrev R_:=(Int×Int)
noncomputable def H:Hd:=⟨[Sb],[Si,Si],(.seq .d (.seq .d (.seq .d (.cut [4] [] (.seq .d (.blk (.loop [4,10,11,12] [] .d))) .d)))),⟨[],gl,false⟩,[],f189⟩
def t4(a:LB)(b f:Int):S:=⟨[(4,vi b),(10,vb a),(11,vi (Ac a)),(12,vi f)],[],[]⟩
def z4:Nat→S→Option R_:=H.i P_ [r,r,r,l,r,d]
def x6(b:Int):Option R_:=H.e P_ [r,r,r,r] ⟨[(4,vi b)],[],[]⟩
def x4(a:LB)(b f:Int):Option R_:=H.e P_ [r,r,r,l,r,d] (t4 a b f)
theorem e6:x6=Ak0:=by kernel_rfl
theorem i4(a:LB):∀(q:Nat) (b f:Int),z4 q (t4 a b f)=Jc a q b f:=
 ind (fun _ _=>by kernel_rfl) fun q ih b f=>Eq.trans (b:=Rr x6 (fun b f=>(z4 q) (t4 a b f)) a b f) (by kernel_rfl) (by simp only[e6,ih]<;>rfl)
theorem e4:x4=Abe:=by funext a b f;exact Eq.trans (by kernel_rfl) ((i4 a Cf b f).trans (by rw[Ar];rfl))
noncomputable def F:=Ab4
theorem rn x:H.u P_ x=F x:=Eq.trans (b:=Aba x4 x) (by kernel_rfl) (by simp only[e4]<;>rfl)
noncomputable def c:Con:=⟨H.p,H.r,F⟩
theorem ok:ConOk P_ gl 189 c:=co H func189 .nil rn
end F189
namespace F159
def Ab0(j5:LB→UInt8→UInt8→Option (Int×Int))(a:LB):Option (Int×Int):=
(Ib a ([(73:UInt8),(68:UInt8),(51:UInt8)]:LB)).bind fun n=>
if(!n)then
some (0,6)
else
if(Bt (Ac a) 10)then
some (0,24)
else
(getI a 3).bind fun f=>
(getI a 5).bind fun b=>
(fun o:Option (Int×Int)=>
(fun p:Option (Int×Int)=>
both (
both (
bo (
j5 a f b)) [
o,
o]) [
bo2 (
bo (
j5 a f b)),
p,
p]) (
both (
o) [
bo (
j5 a f b),
both (
bo (
j5 a f b)) [
j5 a f b]])) (
both (
j5 a f b) [
bo (
j5 a f b)])
theorem Asw: @Ab0= @Ui:=by
  unfold Ab0 Ui
  try simp only[Avw,Amb,Ank]
  all_goals
    repeat (refine funext fun _=>?_)
    repeat' first
      |with_reducible rfl
      |with_reducible refine Qy ?_ ?_
      |with_reducible refine Qh ?_ ?_ ?_
      |with_reducible refine Qi ?_ ?_ ?_ ?_
      |((with_reducible refine Zu ?_ ?_);focus (intro h;first|(subst h;rfl)|(simp only[h];rfl)|(simp[Ew,Ac,h];done)))
      |with_reducible refine Aaa fun x=>?_
      |with_reducible refine Agm (fun _=>?_) (fun _=>?_)
      |(refine Jg (fun h=>by simp only[h,Xm,Gm,Fz,ite_self]) (fun x h=>?_);(try simp only[h,Gm]))
      |(refine Md (fun h=>?_) (fun h=>?_)<;>simp only[h,if_true,if_false,Bool.false_eq_true])
abbrev R_:=(Int×Int)
noncomputable def H:Hd:=⟨[Sb],[Si,Si],(.seq .d (.seq .d (.seq .d (.cut [0,4,5] [] (.mode false) (.seq .d (.seq .d (.cut [0,5,6] [] (.cut [0,5,6,43] [] (.keep [0,5,6,7,8,31,32,33,34,35,36,37,38,39,40,41,42,43] true) .d) (.seq .d (.cut [0,5,6] [] .d .d))))))))),⟨[(84,F84.c),(132,F132.c),(189,F189.c)],gl,false⟩,[(190, .d)],f159⟩
def x8(a:LB)(b:UInt8)(h:Int):Option R_:=H.e P_ [r,r,r,r,r,r,r,r,r] ⟨[(0,vb a),(5, .ptr 0 []),(6,vi h)],[.box 5 (vc b)],[]⟩
def x7(a:LB)(g:Int)(b:UInt8):Option R_:=H.e P_ [r,r,r,r,r,r,r] ⟨[(0,vb a),(5, .ptr 0 []),(6,vi g)],[.box 5 (vc b)],[]⟩
def x6(a:LB)(g:Int)(b:UInt8)(m:Bool):Option R_:=H.e P_ [r,r,r,r,r,r,l,r] ⟨[(0,vb a),(5, .ptr 0 []),(6,vi g),(43,vt m)],[.box 5 (vc b)],[]⟩
def x5(a:LB)(f b:UInt8):Option R_:=H.e P_ [r,r,r,r] ⟨[(0,vb a),(4, .ptr 0 []),(5, .ptr 1 [])],[.box 5 (vc f), .box 5 (vc b)],[]⟩
theorem e8:x8=Uj:=by kernel_rfl
theorem e7:x7=Uk:=Eq.trans (b:=Aei x8) (by kernel_rfl) (by simp only[e8]<;>rfl)
theorem e6:x6=Aer:=Eq.trans (b:=Aeb x7) (by kernel_rfl) (by simp only[e7]<;>rfl)
theorem e5:x5=Ad7:=Eq.trans (b:=Ad4 x6) (by kernel_rfl) (by simp only[e6]<;>rfl)
noncomputable def F:=Afk
theorem rn x:H.u P_ x=F x:=Eq.trans (b:=Ab0 x5 x) (by kernel_rfl) (by unfold F;rw[Asw];simp only[e5]<;>rfl)
noncomputable def c:Con:=⟨H.p,H.r,F⟩
theorem ok:ConOk P_ gl 159 c:=cr H func159 (.cons F84.ok (.cons F132.ok (.cons F189.ok .nil))) (AnsOk.cons ent190 AnsOk.nil) rn
end F159
namespace F125
abbrev R_:=(UInt64×Int)
noncomputable def H:Hd:=⟨[Sb],[Sq,Si],(.seq .d (.seq .d (.seq .d (.cut [4] [] (.seq .d (.blk (.loop [4,15,16,17] [] .d))) .d)))),⟨[],gl,false⟩,[],f125⟩
def t4(a:LB)(b:UInt64)(f:Int):S:=⟨[(4,vq b),(15,vb a),(16,vi (Ac a)),(17,vi f)],[],[]⟩
def z4:Nat→S→Option R_:=H.i P_ [r,r,r,l,r,d]
def x6(b:UInt64):Option R_:=H.e P_ [r,r,r,r] ⟨[(4,vq b)],[],[]⟩
def x4(a:LB)(b:UInt64)(f:Int):Option R_:=H.e P_ [r,r,r,l,r,d] (t4 a b f)
theorem e6:x6=Azk:=by kernel_rfl
theorem i4(a:LB):∀(q:Nat) (b:UInt64) (f:Int),z4 q (t4 a b f)=Wr a q b f:=
 ind (fun _ _=>by kernel_rfl) fun q ih b f=>Eq.trans (b:=Ajg x6 (fun b f=>(z4 q) (t4 a b f)) a b f) (by kernel_rfl) (by simp only[e6,ih]<;>rfl)
theorem e4:x4=Apy:=by funext a b f;exact Eq.trans (by kernel_rfl) ((i4 a Cf b f).trans (by rw[Ar];rfl))
noncomputable def F:=Arl
theorem rn x:H.u P_ x=F x:=Eq.trans (b:=Apu x4 x) (by kernel_rfl) (by simp only[e4]<;>rfl)
noncomputable def c:Con:=⟨H.p,H.r,F⟩
theorem ok:ConOk P_ gl 125 c:=co H func125 .nil rn
end F125
namespace F79
noncomputable def H:Hd:=⟨[Sb,Si,Si],[Sq,Si], .d,⟨[(125,F125.c)],gl,false⟩,[],f79⟩
noncomputable def F:=u3 Ali
theorem rn x:H.u P_ x=F x:=by kernel_rfl
noncomputable def c:Con:=⟨H.p,H.r,F⟩
theorem ok:ConOk P_ gl 79 c:=co H func79 (.cons F125.ok .nil) rn
end F79
namespace F134
abbrev R_:=LB
noncomputable def H:Hd:=⟨[Si,Si,Sq],[Ob 5],(.seq .d (.seq .d (.cut [7] [] (.seq .d (.blk (.loop [7,20,21,22] [] .d))) .d))),⟨[(128,F128.c)],gl,false⟩,[],f134⟩
def t4(a b:Int)(f:UInt64)(h:Int)(g:LB):S:=⟨[(7, .own 0),(20, .own 1),(21,vi (Ac ([(2000:UInt64),(Ae (Ad a (32:Int)):UInt64),(Ae b:UInt64),f,(0:UInt64),(0:UInt64)]:LQ))),(22,vi h)],[Ab 5 g, .arr 128 (.int .u64) ([(2000:UInt64),(Ae (Ad a (32:Int)):UInt64),(Ae b:UInt64),f,(0:UInt64),(0:UInt64)]:LQ)],[]⟩
def z4:Nat→S→Option R_:=H.i P_ [r,r,l,r,d]
def x6(g:LB):Option R_:=H.e P_ [r,r,r] ⟨[(7, .own 0)],[Ab 5 g],[]⟩
def x4(a b:Int)(f:UInt64)(h:Int)(g:LB):Option R_:=H.e P_ [r,r,l,r,d] (t4 a b f h g)
theorem e6:x6=Au1:=by kernel_rfl
theorem i4(a b:Int)(f:UInt64):∀(q:Nat) (h:Int) (g:LB),z4 q (t4 a b f h g)=Uq a b f q h g:=
 ind (fun _ _=>by kernel_rfl) fun q ih h g=>Eq.trans (b:=Anf x6 (fun h g=>(z4 q) (t4 a b f h g)) a b f h g) (by kernel_rfl) (by simp only[e6,ih]<;>rfl)
theorem e4:x4=Au0:=by funext a b f h g;exact Eq.trans (by kernel_rfl) ((i4 a b f Cf h g).trans (by rw[Ar];rfl))
noncomputable def F:=u3 Asl
theorem rn x:H.u P_ x=F x:=Eq.trans (b:=u3 (Avc x4) x) (by kernel_rfl) (by simp only[e4]<;>rfl)
noncomputable def c:Con:=⟨H.p,H.r,F⟩
theorem ok:ConOk P_ gl 134 c:=co H func134 (.cons F128.ok .nil) rn
end F134
namespace F133
noncomputable def H:Hd:=⟨[Sb,Sq],[.agg [Si,Si],Sz], .d,⟨[(79,F79.c),(84,F84.c),(134,F134.c)],gl,false⟩,[],f133⟩
noncomputable def F:=u2 Afy
theorem rn x:H.u P_ x=F x:=by kernel_rfl
noncomputable def c:Con:=⟨H.p,H.r,F⟩
theorem ok:ConOk P_ gl 133 c:=co H func133 (.cons F79.ok (.cons F84.ok (.cons F134.ok .nil))) rn
end F133
namespace F160
noncomputable def H:Hd:=⟨[Sb],[Si,Si], .d,⟨[(84,F84.c),(132,F132.c),(133,F133.c),(134,F134.c)],gl,false⟩,[],f160⟩
noncomputable def F:=Asi
theorem rn x:H.u P_ x=F x:=by kernel_rfl
noncomputable def c:Con:=⟨H.p,H.r,F⟩
theorem ok:ConOk P_ gl 160 c:=co H func160 (.cons F84.ok (.cons F132.ok (.cons F133.ok (.cons F134.ok .nil)))) rn
end F160
namespace F123
noncomputable def H:Hd:=⟨[Sb],[Si,Si], .d,⟨[(159,F159.c),(160,F160.c)],gl,false⟩,[],f123⟩
noncomputable def F:=Qw
theorem rn x:H.u P_ x=F x:=by kernel_rfl
noncomputable def c:Con:=⟨H.p,H.r,F⟩
theorem ok:ConOk P_ gl 123 c:=co H func123 (.cons F159.ok (.cons F160.ok .nil)) rn
end F123
theorem Apk:ConOk Tryz.prog gl 35 Acb:=Bd1 ent35 F123.ok
namespace F124
noncomputable def H:Hd:=⟨[Ss,Ss],[Sz], .d,⟨[],gl,false⟩,[],f124⟩
noncomputable def F:=u2 Hg
theorem rn x:H.u P_ x=F x:=by kernel_rfl
noncomputable def c:Con:=⟨H.p,H.r,F⟩
theorem ok:ConOk P_ gl 124 c:=co H func124 .nil rn
end F124
namespace F78
noncomputable def H:Hd:=⟨[Ss,Ss],[Sz], .d,⟨[(124,F124.c)],gl,false⟩,[],f78⟩
noncomputable def F:=u2 Pf
theorem rn x:H.u P_ x=F x:=by kernel_rfl
noncomputable def c:Con:=⟨H.p,H.r,F⟩
theorem ok:ConOk P_ gl 78 c:=co H func78 (.cons F124.ok .nil) rn
end F78
namespace F36
abbrev R_:=(Int×Int×Int×Int×Int×Int)
noncomputable def H:Hd:=⟨[Sb],[.agg [Si,Si,Si,Si,Si],Si],(.seq .d (.seq .d (.seq .d (.seq .d (.seq .d (.seq .d (.seq .d (.cut [2,8] [] (.seq .d (.blk (.loop [0,2,8,9,44,45] [] .d))) .d)))))))),⟨[(78,F78.c),(79,F79.c),(80,F80.c),(81,F81.c),(82,F82.c)],gl,false⟩,[],f36⟩
def t4(b:LB)(g f:Int)(a:LI):S:=⟨[(0,vb b),(2, .ptr 0 []),(8, .ptr 1 []),(9,vi g),(44, .val (.vec 5 (.int .i64)) ([(2:Int),(2:Int),(2:Int),(4:Int),(4:Int)]:LI)),(45,vi f)],[.box 26 (.agg [vi 0,vi 0,vi 0,vi 0,vi 0]), .box 134 (.val (.vec 5 (.int .i64)) a)],[]⟩
def z4:Nat→S→Option R_:=H.i P_ [r,r,r,r,r,r,r,l,r,d]
def x6(a:LI):Option R_:=H.e P_ [r,r,r,r,r,r,r,r] ⟨[(2, .ptr 0 []),(8, .ptr 1 [])],[.box 26 (.agg [vi 0,vi 0,vi 0,vi 0,vi 0]), .box 134 (.val (.vec 5 (.int .i64)) a)],[]⟩
def x4(b:LB)(g f:Int)(a:LI):Option R_:=H.e P_ [r,r,r,r,r,r,r,l,r,d] (t4 b g f a)
theorem e6:x6=Zj:=by kernel_rfl
theorem i4(b:LB):∀(q:Nat) (g f:Int) (a:LI),z4 q (t4 b g f a)=Jr b q g f a:=
 ind (fun _ _ _=>by kernel_rfl) fun q ih g f a=>Eq.trans (b:=Zo x6 (fun g f a=>(z4 q) (t4 b g f a)) b g f a) (by kernel_rfl) (by simp only[e6,ih]<;>rfl)
theorem e4:x4=Zh:=by funext b g f a;exact Eq.trans (by kernel_rfl) ((i4 b Cf g f a).trans (by rw[Ar];rfl))
noncomputable def F:=Adx
theorem rn x:H.u P_ x=F x:=Eq.trans (b:=Ag8 x4 x) (by kernel_rfl) (by simp only[e4]<;>rfl)
noncomputable def c:Con:=⟨H.p,H.r,F⟩
theorem ok:ConOk P_ gl 36 c:=co H func36 (.cons F78.ok (.cons F79.ok (.cons F80.ok (.cons F81.ok (.cons F82.ok .nil))))) rn
end F36
namespace F37
noncomputable def H:Hd:=⟨[Sb,Ss],[Sz,Si], .d,⟨[(83,F83.c),(84,F84.c)],gl,false⟩,[],f37⟩
noncomputable def F:=u2 Sd
theorem rn x:H.u P_ x=F x:=by kernel_rfl
noncomputable def c:Con:=⟨H.p,H.r,F⟩
theorem ok:ConOk P_ gl 37 c:=co H func37 (.cons F83.ok (.cons F84.ok .nil)) rn
end F37
namespace F38
noncomputable def H:Hd:=⟨[.agg [Si,Si,Si,Si,Si]],[Ol 3,Si], .d,⟨[(85,F85.c),(86,F86.c)],gl,false⟩,[],f38⟩
noncomputable def F:=u5 Lj
theorem rn x:H.u P_ x=F x:=by kernel_rfl
noncomputable def c:Con:=⟨H.p,H.r,F⟩
theorem ok:ConOk P_ gl 38 c:=co H func38 (.cons F85.ok (.cons F86.ok .nil)) rn
end F38
namespace F39
abbrev R_:=(LI×Int)
noncomputable def H:Hd:=⟨[Sb,Si],[Ol 3,Si],(.seq .d (.seq .d (.seq .d (.seq .d (.seq .d (.seq .d (.cut [10] [] (.seq .d (.blk (.loop [0,10,48,49] [] .d))) .d))))))),⟨[(79,F79.c),(80,F80.c),(87,F87.c)],gl,false⟩,[],f39⟩
def t4(b:LB)(f:LI)(g:Int)(a:LI):S:=⟨[(0,vb b),(10, .own 0),(48,vi (Ac f)),(49,vi g)],[Ai 3 a],[]⟩
def z4:Nat→S→Option R_:=H.i P_ [r,r,r,r,r,r,l,r,d]
def x6(a:LI):Option R_:=H.e P_ [r,r,r,r,r,r,r] ⟨[(10, .own 0)],[Ai 3 a],[]⟩
def x4(b:LB)(f:LI)(g:Int)(a:LI):Option R_:=H.e P_ [r,r,r,r,r,r,l,r,d] (t4 b f g a)
theorem e6:x6=Acf:=by kernel_rfl
theorem i4(b:LB)(f:LI):∀(q:Nat) (g:Int) (a:LI),z4 q (t4 b f g a)=Ny b f q g a:=
 ind (fun _ _=>by kernel_rfl) fun q ih g a=>Eq.trans (b:=Ab5 x6 (fun g a=>(z4 q) (t4 b f g a)) b f g a) (by kernel_rfl) (by simp only[e6,ih]<;>rfl)
theorem e4:x4=Ajj:=by funext b f g a;exact Eq.trans (by kernel_rfl) ((i4 b f Cf g a).trans (by rw[Ar];rfl))
noncomputable def F:=u2 Agt
theorem rn x:H.u P_ x=F x:=Eq.trans (b:=u2 (Ajn x4) x) (by kernel_rfl) (by simp only[e4]<;>rfl)
noncomputable def c:Con:=⟨H.p,H.r,F⟩
theorem ok:ConOk P_ gl 39 c:=co H func39 (.cons F79.ok (.cons F80.ok (.cons F87.ok .nil))) rn
end F39
namespace F10
abbrev R_:=(Int×Int×Int×Int×Int×Int×LI×Int)
noncomputable def H:Hd:=⟨[Sb,Ss],[.agg [.agg [Si,Si,Si,Si,Si],Si,Ol 3],Si],(.seq .d (.seq .d (.seq .d (.seq .d (.seq .d (.seq .d (.seq .d (.seq .d (.seq .d (.cut [0,4,6,8] [] .d .d)))))))))),⟨[(35,Acb),(36,F36.c),(37,F37.c),(38,F38.c),(39,F39.c)],gl,false⟩,[],f10⟩
def x2(a:LB)(b f g h k n:Int):Option R_:=H.e P_ [r,r,r,r,r,r,r,r,r,r] ⟨[(0,vb a),(4, .ptr 0 []),(6,vi n),(8, .ptr 1 [])],[.box 29 (.agg [.agg [vi 0,vi 0,vi 0,vi 0,vi 0],vi 0, .nils]), .box 26 (.agg [vi b,vi f,vi g,vi h,vi k])],[]⟩
theorem e2:x2=Lw:=by kernel_rfl
noncomputable def F:=u2 seekto_Open
theorem rn x:H.u P_ x=F x:=Eq.trans (b:=u2 (Qv x2) x) (by kernel_rfl) (by simp only[e2]<;>rfl)
noncomputable def c:Con:=⟨H.p,H.r,F⟩
theorem ok:ConOk P_ gl 10 c:=co H func10 (.cons Apk (.cons F36.ok (.cons F37.ok (.cons F38.ok (.cons F39.ok .nil))))) rn
end F10
namespace F88
abbrev R_:=(LI×Int)
abbrev K_:=S→Option R_
noncomputable def H:Hd:=⟨[Sl],[Ol 3,Si],(.seq .d (.seq .d (.seq .d (.seq .d (.seq .d (.cut [7] [] (.seq .d (.blk (.loop [6,7,17,18,19] [] (.seq .d (.seq .d (.cut [6,7,17,18,19] [] (.blk (.seq .d (.keep [6,7,9,17,18,19,23,24,25,26,27,28] true))) .d)))))) .d)))))),⟨[(87,F87.c)],gl,false⟩,[(131, .d)],f88⟩
def t6(a:LI)(b g:Int)(f:LI):S:=⟨[(6, .fn 131 [.ptr 0 []]),(7, .own 1),(17,vl a),(18,vi (Ac a)),(19,vi b)],[.box 3 (vi g),Ai 3 f],[]⟩
def z6:Nat→S→Option R_:=H.i P_ [r,r,r,r,r,l,r,d]
def x10(f:LI):Option R_:=H.e P_ [r,r,r,r,r,r] ⟨[(7, .own 0)],[Ai 3 f],[]⟩
def x8(kn6:K_)(a:LI)(b g h:Int)(k:LI):Option R_:=H.e P_ [r,r,r,r,r,l,r,d,(lp kn6),r,r,r] ⟨[(6, .fn 131 [.ptr 0 []]),(7, .own 1),(17,vl a),(18,vi (Ac a)),(19,vi b)],[.box 3 (vi (Ad g h)),Ai 3 k],[]⟩
def x6(a:LI)(b g:Int)(f:LI):Option R_:=H.e P_ [r,r,r,r,r,l,r,d] (t6 a b g f)
theorem e10:x10=Aim:=by kernel_rfl
theorem e8(kn6:K_)(a:LI):x8 kn6 a=Abv (fun b g f=>kn6 (t6 a b g f)) a:=by kernel_rfl
theorem i6(a:LI):∀(q:Nat) (b g:Int) (f:LI),z6 q (t6 a b g f)=Jd a q b g f:=
 ind (fun _ _ _=>by kernel_rfl) fun q ih b g f=>Eq.trans (b:=Rq (x8 (z6 q) a) x10 a b g f) (by kernel_rfl) (by simp only[e8,e10,ih]<;>rfl)
theorem e6:x6=Ak7:=by funext a b g f;exact Eq.trans (by kernel_rfl) ((i6 a Cf b g f).trans (by rw[Ar];rfl))
noncomputable def F:=Tv
theorem rn x:H.u P_ x=F x:=Eq.trans (b:=Abc x6 x) (by kernel_rfl) (by simp only[e6]<;>rfl)
noncomputable def c:Con:=⟨H.p,H.r,F⟩
theorem ok:ConOk P_ gl 88 c:=cr H func88 (.cons F87.ok .nil) (AnsOk.cons ent131 AnsOk.nil) rn
end F88
namespace F95
noncomputable def H:Hd:=⟨[Sb],[Sb,Si], .d,⟨[(80,F80.c),(125,F125.c)],gl,false⟩,[],f95⟩
noncomputable def F:=Xy
theorem rn x:H.u P_ x=F x:=by kernel_rfl
noncomputable def c:Con:=⟨H.p,H.r,F⟩
theorem ok:ConOk P_ gl 95 c:=co H func95 (.cons F80.ok (.cons F125.ok .nil)) rn
end F95
namespace F96
noncomputable def H:Hd:=⟨[Sb],[.agg [Ob 5,Si],Si], .d,⟨[(136,F136.c)],gl,false⟩,[],f96⟩
noncomputable def F:=Bhm
theorem rn x:H.u P_ x=F x:=by kernel_rfl
noncomputable def c:Con:=⟨H.p,H.r,F⟩
theorem ok:ConOk P_ gl 96 c:=co H func96 (.cons F136.ok .nil) rn
end F96
namespace F141
abbrev R_:=UInt64
noncomputable def H:Hd:=⟨[.agg [Sb,Si],Si,Si],[Sq],(.seq .d (.seq .d (.cut [7] [] (.blk (.loop [1,2,3,7,8] [] .d)) .d))),⟨[],gl,false⟩,[],f141⟩
def t4(b f:Int)(h:LB)(k:Int)(g:UInt64)(a:Int):S:=⟨[(1,vi b),(2,vi f),(3, .ptr 0 []),(7,vq g),(8,vi a)],[.box 148 (.agg [vb h,vi k])],[]⟩
def z4:Nat→S→Option R_:=H.i P_ [r,r,l,d]
def x6(g:UInt64):Option R_:=H.e P_ [r,r,r] ⟨[(7,vq g)],[],[]⟩
def x4(b f:Int)(h:LB)(k:Int)(g:UInt64)(a:Int):Option R_:=H.e P_ [r,r,l,d] (t4 b f h k g a)
theorem e6:x6=Azi:=by kernel_rfl
theorem i4(b f:Int)(h:LB)(k:Int):∀(q:Nat) (g:UInt64) (a:Int),z4 q (t4 b f h k g a)=Adj b f h k q g a:=
 ind (fun _ _=>by kernel_rfl) fun q ih g a=>Eq.trans (b:=Arw x6 (fun g a=>(z4 q) (t4 b f h k g a)) b f h k g a) (by kernel_rfl) (by simp only[e6,ih]<;>rfl)
theorem e4:x4=Azf:=by funext b f h k g a;exact Eq.trans (by kernel_rfl) ((i4 b f h k Cf g a).trans (by rw[Ar];rfl))
noncomputable def F:=u4 Av1
theorem rn x:H.u P_ x=F x:=Eq.trans (b:=u4 (Azo x4) x) (by kernel_rfl) (by simp only[e4]<;>rfl)
noncomputable def c:Con:=⟨H.p,H.r,F⟩
theorem ok:ConOk P_ gl 141 c:=co H func141 .nil rn
end F141
namespace F138
abbrev R_:=(LB×Int×Int)
abbrev K_:=S→Option R_
noncomputable def H:Hd:=⟨[.agg [Sb,Si],Si,Si],[.agg [Ob 5,Si],Si],(.seq .d (.seq .d (.seq .d (.seq .d (.cut [6,8] [] (.seq .d (.blk (.loop [2,3,6,8,9] [⟨8,[0], .own 5 (.int .u8)⟩] (.seq .d (.cut [2,3,6,8,9] [] (.blk (.seq .d (.keep [2,3,6,8,9,10,39,40,41,42,43] true))) .d))))) .d))))),⟨[(140,F140.c),(141,F141.c)],gl,false⟩,[(167,(.blk (.loop [0,1,2] [] (.seq .d (.blk (.cut [0,1,2] [] .d (.seq .d (.cut [0,1,2,7] [] .d .d))))))))],f138⟩
def t44(a:Int)(g:LB)(f b:Int)(k n:UInt64)(m h:Int)(u:LB):S:=⟨[(0, .ptr 0 []),(1,vq n),(2,vi m)],[.box 148 (.agg [.own 3,vi h]), .box 148 (.agg [vb g,vi f]), .box 148 (.agg [.nils,vi 0]),Ab 5 u],[[(2,vi a),(3, .ptr 1 []),(6, .ptr 2 []),(8, .ptr 0 []),(9,vi b),(10,vi (Db (64:Int) (Ah a b))),(39, .agg [vb g,vi f]),(40,vi b),(41,vi (Db (64:Int) (Ah a b))),(42,vq k),(43,vi (Db (64:Int) (Ah a b)))]]⟩
def z44(kn27:K_):Nat→S→Option R_:=H.i P_ [r,r,r,r,l,r,d,(lp kn27),r,l,d,r,(call 5 167),d]
def t27(a:Int)(g:LB)(f b o:Int)(p:LB):S:=⟨[(2,vi a),(3, .ptr 0 []),(6, .ptr 1 []),(8, .ptr 2 []),(9,vi b)],[.box 148 (.agg [vb g,vi f]), .box 148 (.agg [.nils,vi 0]), .box 148 (.agg [.own 3,vi o]),Ab 5 p],[]⟩
def z27:Nat→S→Option R_:=H.i P_ [r,r,r,r,l,r,d]
def x52(o:Int)(p:LB):Option R_:=H.e P_ [r,r,r,r,r] ⟨[(6, .ptr 0 []),(8, .ptr 1 [])],[.box 148 (.agg [.nils,vi 0]), .box 148 (.agg [.own 2,vi o]),Ab 5 p],[]⟩
def x50(kn27:K_)(a:Int)(g:LB)(f b h:Int)(u:LB):Option R_:=H.e P_ [r,r,r,r,l,r,d,(lp kn27),r,r] ⟨[(2,vi a),(3, .ptr 0 []),(6, .ptr 1 []),(8, .ptr 2 []),(9,vi b)],[.box 148 (.agg [vb g,vi f]), .box 148 (.agg [.nils,vi 0]), .box 148 (.agg [.own 3,vi h]),Ab 5 u],[]⟩
def x48(kn27 kn44:K_)(a b:Int)(g:LB)(f:Int)(k n:UInt64)(m h:Int)(w:LB):Option R_:=H.e P_ [r,r,r,r,l,r,d,(lp kn27),r,l,d,r,(call 5 167),d,(lp kn44),r,d,r,r,r] ⟨[(0, .ptr 0 []),(1,vq n),(2,vi m),(7,vi (Db m (Ah (8:Int) (Cx h (7:Int)))))],[.box 148 (.agg [.own 3,vi h]), .box 148 (.agg [vb g,vi f]), .box 148 (.agg [.nils,vi 0]),Ab 5 w],[[(2,vi a),(3, .ptr 1 []),(6, .ptr 2 []),(8, .ptr 0 []),(9,vi b),(10,vi (Db (64:Int) (Ah a b))),(39, .agg [vb g,vi f]),(40,vi b),(41,vi (Db (64:Int) (Ah a b))),(42,vq k),(43,vi (Db (64:Int) (Ah a b)))]]⟩
def x47(kn27 kn44:K_)(a b:Int)(g:LB)(f:Int)(k n:UInt64)(m h:Int)(v:LB):Option R_:=H.e P_ [r,r,r,r,l,r,d,(lp kn27),r,l,d,r,(call 5 167),d,(lp kn44),r,d,r] ⟨[(0, .ptr 0 []),(1,vq n),(2,vi m)],[.box 148 (.agg [.own 3,vi h]), .box 148 (.agg [vb g,vi f]), .box 148 (.agg [.nils,vi 0]),Ab 5 v],[[(2,vi a),(3, .ptr 1 []),(6, .ptr 2 []),(8, .ptr 0 []),(9,vi b),(10,vi (Db (64:Int) (Ah a b))),(39, .agg [vb g,vi f]),(40,vi b),(41,vi (Db (64:Int) (Ah a b))),(42,vq k),(43,vi (Db (64:Int) (Ah a b)))]]⟩
def x44(kn27:K_)(a:Int)(g:LB)(f b:Int)(k n:UInt64)(m h:Int)(u:LB):Option R_:=H.e P_ [r,r,r,r,l,r,d,(lp kn27),r,l,d,r,(call 5 167),d] (t44 a g f b k n m h u)
def x27(a:Int)(g:LB)(f b o:Int)(p:LB):Option R_:=H.e P_ [r,r,r,r,l,r,d] (t27 a g f b o p)
theorem e52:x52=Ane:=by kernel_rfl
theorem e50(kn27:K_)(a:Int)(g:LB)(f:Int):x50 kn27 a g f=Afr (fun b o p=>kn27 (t27 a g f b o p)) a g f:=by kernel_rfl
theorem e48(kn27 kn44:K_)(a:Int)(g:LB)(f b:Int)(k:UInt64):x48 kn27 kn44 a b g f k=Al8 (fun n m h u=>kn44 (t44 a g f b k n m h u)) a b g f k:=by kernel_rfl
theorem e47(kn27 kn44:K_)(a:Int)(g:LB)(f b:Int)(k:UInt64):x47 kn27 kn44 a b g f k=Afq (fun n m h u=>kn44 (t44 a g f b k n m h u)) a b g f k:=Eq.trans (b:=Alx (x48 kn27 kn44 a b g f k) a b g f k) (by kernel_rfl) (by simp only[e48]<;>rfl)
theorem i44(kn27:K_)(a:Int)(g:LB)(f b:Int)(k:UInt64):∀(q:Nat) (n:UInt64) (m h:Int) (u:LB),z44 kn27 q (t44 a g f b k n m h u)=Kt (fun b o p=>kn27 (t27 a g f b o p)) a g f b k q n m h u:=
 ind (fun _ _ _ _=>by kernel_rfl) fun q ih n m h u=>Eq.trans (b:=Afl (x47 kn27 (z44 kn27 q) a b g f k) (x50 kn27 a g f) a g f b k n m h u) (by kernel_rfl) (by simp only[e47,e50,ih]<;>rfl)
theorem e44(kn27:K_)(a:Int)(g:LB)(f:Int):x44 kn27 a g f=Amv (fun b o p=>kn27 (t27 a g f b o p)) a g f:=by funext b k n m h u;exact Eq.trans (by kernel_rfl) ((i44 kn27 a g f b k Cf n m h u).trans (by rw[Ar];rfl))
theorem i27(a:Int)(g:LB)(f:Int):∀(q:Nat) (b o:Int) (p:LB),z27 q (t27 a g f b o p)=Rs a g f q b o p:=
 ind (fun _ _ _=>by kernel_rfl) fun q ih b o p=>Eq.trans (b:=Anj (x44 (z27 q) a g f) x52 a g f b o p) (by kernel_rfl) (by simp only[e44,e52,ih]<;>rfl)
theorem e27:x27=Am1:=by funext a g f b o p;exact Eq.trans (by kernel_rfl) ((i27 a g f Cf b o p).trans (by rw[Ar];rfl))
noncomputable def F:=u4 Aqi
theorem rn x:H.u P_ x=F x:=Eq.trans (b:=u4 (Apl x27) x) (by kernel_rfl) (by simp only[e27]<;>rfl)
noncomputable def c:Con:=⟨H.p,H.r,F⟩
theorem ok:ConOk P_ gl 138 c:=cr H func138 (.cons F140.ok (.cons F141.ok .nil)) (AnsOk.cons ent167 AnsOk.nil) rn
end F138
namespace F98
noncomputable def H:Hd:=⟨[.agg [Sb,Si],Si,Si],[Sq,Si], .d,⟨[(140,F140.c),(141,F141.c)],gl,false⟩,[],f98⟩
noncomputable def F:=u4 Yu
theorem rn x:H.u P_ x=F x:=by kernel_rfl
noncomputable def c:Con:=⟨H.p,H.r,F⟩
theorem ok:ConOk P_ gl 98 c:=co H func98 (.cons F140.ok (.cons F141.ok .nil)) rn
end F98
namespace F210
noncomputable def H:Hd:=⟨[Sq],[Si], .d,⟨[],gl,false⟩,[],f210⟩
noncomputable def F:=Ej
theorem rn x:H.u P_ x=F x:=by kernel_rfl
noncomputable def c:Con:=⟨H.p,H.r,F⟩
theorem ok:ConOk P_ gl 210 c:=co H func210 .nil rn
end F210
namespace F194
def Ag0(j6:Int→UInt64→Int→LB→Int→Option (Int×Int×Int))(g:LB)(b a:Int):Option (Int×Int×Int):=
(Hk g b).bind fun m=>
if(Bb m 0)then
some (0,0,m)
else
if(Bt a 0)then
some (0,0,2)
else
if(Ja a b)then
some (0,0,24)
else
(fun n:Option (Int×Int×Int)=>
(fun o:Option (Int×Int×Int)=>
bo2 (
o)) (
bo (
n))) (
(Yu g b a (Db 48 (Ah b a))).bind fun(k,h)=>
j6 h k a g b)
theorem Aw1: @Ag0= @Ub:=by
  unfold Ag0 Ub
  simp only[Avw,Amb,Ank]
abbrev R_:=(Int×Int×Int)
noncomputable def H:Hd:=⟨[.agg [Sb,Si],Si],[Si,Si,Si],(.seq .d (.seq .d (.seq .d (.seq .d (.seq .d (.cut [3,5,6,8,9] [] (.keep [2,3,5,6,8,9,22,23,24,25,26,27,28,29] false) (.seq .d (.seq .d (.cut [] [] (.blk (.seq (.blk (.seq (.blk (.cut [] [] (.cut [3,4,5] [] (.cut [3,4,5,36] [] (.keep [3,4,5,8,36,37,38,39,40] true) .d) .d) .d)) .d)) .d)) .d))))))))),⟨[(98,F98.c),(140,F140.c),(210,F210.c)],gl,false⟩,[(209, .d)],f194⟩
def x10:Option R_:=H.e P_ [r,r,r,r,r,r,r,r,r] ⟨[],[],[]⟩
def x9:Option R_:=H.e P_ [r,r,r,r,r,r,r,r,l,d,l,d,l,d,r] ⟨[],[],[]⟩
def x8(f a:Int):Option R_:=H.e P_ [r,r,r,r,r,r,r,r,l,d,l,d,l,d,l,r] ⟨[(3, .ptr 0 []),(4,vi f),(5,vi 0)],[.box 3 (vi a)],[]⟩
def x7(f b a:Int):Option R_:=H.e P_ [r,r,r,r,r,r,r,r,l,d,l,d,l,d,l,l,r] ⟨[(3, .ptr 0 []),(4,vi f),(5,vi 0),(36,vt (Bt f (Db (48:Int) (Ah b a))))],[.box 3 (vi a)],[]⟩
def x6(h:Int)(k:UInt64)(a:Int)(g:LB)(b:Int):Option R_:=H.e P_ [r,r,r,r,r,r] ⟨[(3, .ptr 0 []),(5,vi 0),(6,vi h),(8, .fn 209 [.ptr 1 [], .ptr 0 []]),(9,vq k)],[.box 3 (vi a), .box 148 (.agg [vb g,vi b])],[]⟩
theorem e10:x10=Aqg:=by kernel_rfl
theorem e9:x9=Atv:=Eq.trans (b:=Ats x10) (by kernel_rfl) (by simp only[e10]<;>rfl)
theorem e8:x8=Aj1:=Eq.trans (b:=Akd x9) (by kernel_rfl) (by simp only[e9]<;>rfl)
theorem e7:x7=Ajo:=Eq.trans (b:=Akc x8) (by kernel_rfl) (by simp only[e8]<;>rfl)
theorem e6:x6=Ajp:=Eq.trans (b:=Ajr x7) (by kernel_rfl) (by simp only[e7]<;>rfl)
noncomputable def F:=u3 Abq
theorem rn x:H.u P_ x=F x:=Eq.trans (b:=u3 (Ag0 x6) x) (by kernel_rfl) (by unfold F;rw[Aw1];simp only[e6]<;>rfl)
noncomputable def c:Con:=⟨H.p,H.r,F⟩
theorem ok:ConOk P_ gl 194 c:=cr H func194 (.cons F98.ok (.cons F140.ok (.cons F210.ok .nil))) (AnsOk.cons ent209 AnsOk.nil) rn
end F194
namespace F169
abbrev R_:=(UInt32×Int×Int)
noncomputable def H:Hd:=⟨[.agg [Sb,Si],Si,Si],[Su,Si,Si],(.seq .d (.seq .d (.seq .d (.seq .d (.seq .d (.seq .d (.cut [2,3,7,10,11] [] .d .d))))))),⟨[(98,F98.c),(140,F140.c),(194,F194.c),(195,F195.c)],gl,false⟩,[],f169⟩
def x2(a b f:Int)(g:LB)(h k:Int):Option R_:=H.e P_ [r,r,r,r,r,r,r] ⟨[(2,vi a),(3, .ptr 0 []),(7,vi b),(10,vi f),(11,vi k)],[.box 148 (.agg [vb g,vi h])],[]⟩
theorem e2:x2=Afp:=by kernel_rfl
noncomputable def F:=u4 Ar8
theorem rn x:H.u P_ x=F x:=Eq.trans (b:=u4 (Ami x2) x) (by kernel_rfl) (by simp only[e2]<;>rfl)
noncomputable def c:Con:=⟨H.p,H.r,F⟩
theorem ok:ConOk P_ gl 169 c:=co H func169 (.cons F98.ok (.cons F140.ok (.cons F194.ok (.cons F195.ok .nil)))) rn
end F169
namespace F139
abbrev R_:=(UInt32×Int×Int×Int×UInt64×UInt64×Int)
noncomputable def H:Hd:=⟨[.agg [Sb,Si],Si, .agg [Si,Si,Sq,Sq]],[Su,Si, .agg [Si,Si,Sq,Sq],Si],(.seq .d (.cut [1,3,5,8] [] .d (.seq .d (.seq .d (.cut [5,6,7,8] [] .d (.cut [5,6,7,8] [] (.keep [5,6,7,8,81] true) .d)))))),⟨[(98,F98.c),(140,F140.c),(168,F168.c),(169,F169.c),(197,F197.c)],gl,false⟩,[(170,(.seq .d (.seq .d (.seq .d (.blk (.cut [0,1,4] [] (.blk (.seq .d (.keep [0,1,4,6,18,19,20,21,22,23,24,25] true))) (.cut [] [] (.keep [0,1,4,27,28,29,30,31,32,33,34] true) .d))))))),(196, .d)],f139⟩
def x10(f:UInt32)(k w m:Int)(a n:UInt64):Option R_:=H.e P_ [r,r,r,r,r,r] ⟨[(5, .ptr 0 []),(6,vu f),(7,vi k),(8, .ptr 1 [])],[.box 196 (.agg [vi w,vi m,vq (Ad a (Ah (Ae f:UInt64) (Bk a (GI.toZ (4:UInt64)).toNat))),vq n]), .box 196 (.agg [vi 0,vi 0,vq 0,vq 0])],[]⟩
def x9(f:UInt32)(k m:Int)(a n:UInt64)(w:Int):Option R_:=H.e P_ [r,r,r,r,r,l,(call 1 170),r,r,r,d,r,r] ⟨[],[.box 196 (.agg [vi w,vi m,vq (Ad a (Ah (Ae f:UInt64) (Bk a (GI.toZ (4:UInt64)).toNat))),vq n]), .box 196 (.agg [vi 0,vi 0,vq 0,vq 0])],[[(5, .ptr 0 []),(6,vu f),(7,vi k),(8, .ptr 1 []),(81,vu f)]]⟩
def x8(f:UInt32)(k b:Int)(a:UInt64)(m:Int)(n:UInt64):Option R_:=H.e P_ [r,r,r,r,r,l,(call 1 170),r,r,r,d,r] ⟨[(0, .ptr 0 []),(1,vu f),(4, .fn 196 [])],[.box 196 (.agg [vi b,vi m,vq a,vq n]), .box 196 (.agg [vi 0,vi 0,vq 0,vq 0])],[[(5, .ptr 0 []),(6,vu f),(7,vi k),(8, .ptr 1 []),(81,vu f)]]⟩
def x7(b h:Int)(a g:UInt64)(f:UInt32)(k:Int):Option R_:=H.e P_ [r,r,r,r,r] ⟨[(5, .ptr 0 []),(6,vu f),(7,vi k),(8, .ptr 1 [])],[.box 196 (.agg [vi b,vi h,vq a,vq g]), .box 196 (.agg [vi 0,vi 0,vq 0,vq 0])],[]⟩
def x6(p:Int)(u:LB)(v b h:Int)(a g:UInt64):Option R_:=H.e P_ [r,r] ⟨[(1,vi p),(3, .ptr 0 []),(5, .ptr 1 []),(8, .ptr 2 [])],[.box 148 (.agg [vb u,vi v]), .box 196 (.agg [vi b,vi h,vq a,vq g]), .box 196 (.agg [vi 0,vi 0,vq 0,vq 0])],[]⟩
theorem e10:x10=Aj2:=by kernel_rfl
theorem e9:x9=Amo:=Eq.trans (b:=Ann x10) (by kernel_rfl) (by simp only[e10]<;>rfl)
theorem e8:x8=Zn:=Eq.trans (b:=Amd x9) (by kernel_rfl) (by simp only[e9]<;>rfl)
theorem e7:x7=Afm:=Eq.trans (b:=Al7 x8) (by kernel_rfl) (by simp only[e8]<;>rfl)
theorem e6:x6=Ana:=Eq.trans (b:=Alv x7) (by kernel_rfl) (by simp only[e7]<;>rfl)
noncomputable def F:=u7 Abp
theorem rn x:H.u P_ x=F x:=Eq.trans (b:=u7 (Aml x6) x) (by kernel_rfl) (by simp only[e6]<;>rfl)
noncomputable def c:Con:=⟨H.p,H.r,F⟩
theorem ok:ConOk P_ gl 139 c:=cr H func139 (.cons F98.ok (.cons F140.ok (.cons F168.ok (.cons F169.ok (.cons F197.ok .nil))))) (AnsOk.cons ent170 (AnsOk.cons ent196 AnsOk.nil)) rn
end F139
namespace F97
def Tn(j21:Int→Int→Int→UInt32→Int→(List (Int×Int×UInt64×UInt64×Unit))→LU→Int→Int→UInt64→UInt64→Option (LU×Int×Int))(j24:Int→LU→Option (LU×Int×Int))(a f:Int)(g:LB)(b k h:Int)(n:List (Int×Int×UInt64×UInt64×Unit))(m:LU):Option (LU×Int×Int):=
if(Bt h (Ax f a))then
(Aqi g b k (Db (Ad k 81) b)).bind fun(ah,ae,af)=>
if(Bb af 0)then
some (([]:LU),0,af)
else
(Gj (Bb a 0)).bind fun _=>
(getI n (Fa h a)).bind fun _=>
(fun ai:Option (LU×Int×Int)=>
both (
both (
(getI n (Fa h a)).bind fun p=>
(fun ao:Option (LU×Int×Int)=>
bo (
ao)) (
(Abp ah ae 0 p.1 p.2.1 p.2.2.1 p.2.2.2.1).bind fun(w,v,aa,ab,ac,ad,y)=>
j21 k h y w v n m aa ab ac ad)) [
ai]) [
(getI n (Fa h a)).bind fun p=>
(fun aj:Option (LU×Int×Int)=>
both (
bo (
aj)) [
aj]) (
(Abp ah ae 0 p.1 p.2.1 p.2.2.1 p.2.2.2.1).bind fun(w,v,aa,ab,ac,ad,y)=>
j21 k h y w v n m aa ab ac ad),
bo (
ai)]) (
(getI n (Fa h a)).bind fun p=>
(Abp ah ae 0 p.1 p.2.1 p.2.2.1 p.2.2.2.1).bind fun(w,v,aa,ab,ac,ad,y)=>
j21 k h y w v n m aa ab ac ad)
else
j24 k m
theorem Amg: @Tn= @Ms:=by
  unfold Tn Ms
  try simp only[Avw,Amb,Ank]
  all_goals
    repeat (refine funext fun _=>?_)
    repeat' first
      |with_reducible rfl
      |with_reducible refine Qy ?_ ?_
      |with_reducible refine Qh ?_ ?_ ?_
      |with_reducible refine Qi ?_ ?_ ?_ ?_
      |((with_reducible refine Zu ?_ ?_);focus (intro h;first|(subst h;rfl)|(simp only[h];rfl)|(simp[Ew,Ac,h];done)))
      |with_reducible refine Aaa fun x=>?_
      |with_reducible refine Agm (fun _=>?_) (fun _=>?_)
      |(refine Jg (fun h=>by simp only[h,Xm,Gm,Fz,ite_self]) (fun x h=>?_);(try simp only[h,Gm]))
      |(refine Md (fun h=>?_) (fun h=>?_)<;>simp only[h,if_true,if_false,Bool.false_eq_true])
abbrev R_:=(LU×Int×Int)
abbrev K_:=S→Option R_
noncomputable def H:Hd:=⟨[Si,Si, .agg [Sb,Si]],[Ov 131,Si,Si],(.seq .d (.seq .d (.cut [0,1,5,9] [] (.seq .d (.blk (.loop [0,1,5,9,19] [] .d))) (.seq .d (.seq .d (.cut [11,12] [] (.seq .d (.blk (.loop [0,5,9,11,12,28,29] [⟨11,[], .own 131 (.int .u32)⟩] (.seq .d (.seq .d (.seq (.blk (.seq .d (.seq .d (.seq .d (.cut [0,5,9,11,12,13,15,16,17,18,28,29] [] (.mode false) (.seq .d (.cut [0,5,9,11,12,16,28,29] [] .d .d))))))) .d)))))) .d)))))),⟨[(137,F137.c),(138,F138.c),(139,F139.c)],gl,false⟩,[],f97⟩
def t16(a f:Int)(g:LB)(b k h:Int)(n:List (Int×Int×UInt64×UInt64×Unit))(m:LU):S:=⟨[(0,vi a),(5, .ptr 0 []),(9, .ptr 1 []),(11, .own 2),(12,vi k),(28,vi (Ax f a)),(29,vi h)],[.box 148 (.agg [vb g,vi b]), .box 197 (.val (.vec 6 (.cons (.int .i64) (.cons (.int .i64) (.cons (.int .u64) (.cons (.int .u64) .nil))))) n),Av 131 m],[]⟩
def z16:Nat→S→Option R_:=H.i P_ [r,r,r,r,r,l,r,d]
def t13(a f:Int)(g:LB)(b u:Int)(o:List (Int×Int×UInt64×UInt64×Unit)):S:=⟨[(0,vi a),(1,vi f),(5, .ptr 0 []),(9, .ptr 1 []),(19,vi u)],[.box 148 (.agg [vb g,vi b]), .box 197 (.val (.vec 6 (.cons (.int .i64) (.cons (.int .i64) (.cons (.int .u64) (.cons (.int .u64) .nil))))) o)],[]⟩
def z13:Nat→S→Option R_:=H.i P_ [r,r,l,r,d]
def x24(k:Int)(m:LU):Option R_:=H.e P_ [r,r,r,r,r,r] ⟨[(11, .own 0),(12,vi k)],[Av 131 m],[]⟩
def x22(kn16:K_)(a f:Int)(g:LB)(b k v:Int)(w:UInt32)(h:Int)(ag:List (Int×Int×UInt64×UInt64×Unit))(m:LU):Option R_:=H.e P_ [r,r,r,r,r,l,r,d,(lp kn16),r,r,l,d,r,r,r,r,r,r] ⟨[(0,vi a),(5, .ptr 0 []),(9, .ptr 1 []),(11, .own 2),(12,vi (Ad k v)),(16,vu w),(28,vi (Ax f a)),(29,vi h)],[.box 148 (.agg [vb g,vi b]), .box 197 (.val (.vec 6 (.cons (.int .i64) (.cons (.int .i64) (.cons (.int .u64) (.cons (.int .u64) .nil))))) ag),Av 131 m],[]⟩
def x21(kn16:K_)(a f:Int)(g:LB)(b k h y:Int)(w:UInt32)(v:Int)(n:List (Int×Int×UInt64×UInt64×Unit))(m:LU)(aa ab:Int)(ac ad:UInt64):Option R_:=H.e P_ [r,r,r,r,r,l,r,d,(lp kn16),r,r,l,d,r,r,r,r] ⟨[(0,vi a),(5, .ptr 0 []),(9, .ptr 1 []),(11, .own 2),(12,vi k),(13,vi h),(15,vi y),(16,vu w),(17,vi v),(18, .ptr 3 []),(28,vi (Ax f a)),(29,vi h)],[.box 148 (.agg [vb g,vi b]), .box 197 (.val (.vec 6 (.cons (.int .i64) (.cons (.int .i64) (.cons (.int .u64) (.cons (.int .u64) .nil))))) n),Av 131 m, .box 196 (.agg [vi aa,vi ab,vq ac,vq ad])],[]⟩
def x16(a f:Int)(g:LB)(b k h:Int)(n:List (Int×Int×UInt64×UInt64×Unit))(m:LU):Option R_:=H.e P_ [r,r,r,r,r,l,r,d] (t16 a f g b k h n m)
def x15(a f:Int)(g:LB)(b:Int)(o:List (Int×Int×UInt64×UInt64×Unit)):Option R_:=H.e P_ [r,r,r] ⟨[(0,vi a),(1,vi f),(5, .ptr 0 []),(9, .ptr 1 [])],[.box 148 (.agg [vb g,vi b]), .box 197 (.val (.vec 6 (.cons (.int .i64) (.cons (.int .i64) (.cons (.int .u64) (.cons (.int .u64) .nil))))) o)],[]⟩
def x13(a f:Int)(g:LB)(b u:Int)(o:List (Int×Int×UInt64×UInt64×Unit)):Option R_:=H.e P_ [r,r,l,r,d] (t13 a f g b u o)
theorem e24:x24=Ago:=by kernel_rfl
theorem e22(kn16:K_)(a f:Int)(g:LB)(b:Int):x22 kn16 a f g b=Us (fun k h n m=>kn16 (t16 a f g b k h n m)) a f g b:=by kernel_rfl
theorem e21(kn16:K_)(a f:Int)(g:LB)(b:Int):x21 kn16 a f g b=Np (fun k h n m=>kn16 (t16 a f g b k h n m)) a f g b:=Eq.trans (b:=Nm (x22 kn16 a f g b) a f g b) (by kernel_rfl) (by simp only[e22]<;>rfl)
theorem i16(a f:Int)(g:LB)(b:Int):∀(q:Nat) (k h:Int) (n:List (Int×Int×UInt64×UInt64×Unit)) (m:LU),z16 q (t16 a f g b k h n m)=Jp a f g b q k h n m:=
 ind (fun _ _ _ _=>by kernel_rfl) fun q ih k h n m=>Eq.trans (b:=Tn (x21 (z16 q) a f g b) x24 a f g b k h n m) (by kernel_rfl) (by rw[Amg];simp only[e21,e24,ih]<;>rfl)
theorem e16:x16=Agx:=by funext a f g b k h n m;exact Eq.trans (by kernel_rfl) ((i16 a f g b Cf k h n m).trans (by rw[Ar];rfl))
theorem e15:x15=Vl:=Eq.trans (b:=Af4 x16) (by kernel_rfl) (by simp only[e16]<;>rfl)
theorem i13(a f:Int)(g:LB)(b:Int):∀(q:Nat) (u:Int) (o:List (Int×Int×UInt64×UInt64×Unit)),z13 q (t13 a f g b u o)=Uy a f g b q u o:=
 ind (fun _ _=>by kernel_rfl) fun q ih u o=>Eq.trans (b:=Agw x15 (fun u o=>(z13 q) (t13 a f g b u o)) a f g b u o) (by kernel_rfl) (by simp only[e15,ih]<;>rfl)
theorem e13:x13=Nk:=by funext a f g b u o;exact Eq.trans (by kernel_rfl) ((i13 a f g b Cf u o).trans (by rw[Ar];rfl))
noncomputable def F:=u4 Yc
theorem rn x:H.u P_ x=F x:=Eq.trans (b:=u4 (Zp x13) x) (by kernel_rfl) (by simp only[e13]<;>rfl)
noncomputable def c:Con:=⟨H.p,H.r,F⟩
theorem ok:ConOk P_ gl 97 c:=co H func97 (.cons F137.ok (.cons F138.ok (.cons F139.ok .nil))) rn
end F97
namespace F144
noncomputable def H:Hd:=⟨[Su],[Sx], .d,⟨[],gl,false⟩,[],f144⟩
noncomputable def F:=Se
theorem rn x:H.u P_ x=F x:=by kernel_rfl
noncomputable def c:Con:=⟨H.p,H.r,F⟩
theorem ok:ConOk P_ gl 144 c:=co H func144 .nil rn
end F144
namespace F174
noncomputable def H:Hd:=⟨[.agg [Si, .lf (.vec 16 (.int .i32)) none, .lf (.vec 16 (.int .i32)) none],Sx],[Sx, .agg [Si, .lf (.vec 16 (.int .i32)) none, .lf (.vec 16 (.int .i32)) none],Si], .d,⟨[(200,F200.c),(201,F201.c)],gl,false⟩,[],f174⟩
noncomputable def F:=u4 Ar4
theorem rn x:H.u P_ x=F x:=by kernel_rfl
noncomputable def c:Con:=⟨H.p,H.r,F⟩
theorem ok:ConOk P_ gl 174 c:=co H func174 (.cons F200.ok (.cons F201.ok .nil)) rn
end F174
namespace F143
def Ahu(a:Int)(b:Int32)(f:Int)(g h:LX)(o:Int32):Option (Int32×Int×Int32×Int×LX×LX×Int):=
(Rb a b f g h).bind fun k=>
if(Bb k 0)then
some (0,0,0,0,(List.replicate 16 (0:Int32)),(List.replicate 16 (0:Int32)),k)
else
(Rj a b).bind fun(m,y)=>
(Ar4 f g h o).bind fun(n,p,u,v,w)=>
(fun aa:Option (Int32×Int×Int32×Int×LX×LX×Int)=>
bo (
aa)) (
some ((Ad n m),a,(Ad n m),p,u,v,w))
theorem Avt: @Ahu= @Ie:=by
  unfold Ahu Ie
  simp only[Avw,Amb,Ank]
noncomputable def H:Hd:=⟨[.agg [Si,Sx, .agg [Si, .lf (.vec 16 (.int .i32)) none, .lf (.vec 16 (.int .i32)) none]],Sx],[Sx, .agg [Si,Sx, .agg [Si, .lf (.vec 16 (.int .i32)) none, .lf (.vec 16 (.int .i32)) none]],Si],(.seq .d (.seq .d (.seq .d (.seq .d (.seq (.mode false) .d))))),⟨[(172,F172.c),(173,F173.c),(174,F174.c)],gl,false⟩,[],f143⟩
noncomputable def F:=u6 Ie
theorem rn x:H.u P_ x=F x:=Eq.trans (b:=u6 Ahu x) (by kernel_rfl) (by rw[Avt];rfl)
noncomputable def c:Con:=⟨H.p,H.r,F⟩
theorem ok:ConOk P_ gl 143 c:=co H func143 (.cons F172.ok (.cons F173.ok (.cons F174.ok .nil))) rn
end F143
namespace F145
abbrev R_:=(LX×Int)
abbrev K_:=S→Option R_
noncomputable def H:Hd:=⟨[Si,Sw],[Ow 21,Si],(.seq .d (.seq .d (.seq .d (.cut [7] [] (.seq .d (.blk (.loop [0,7,8] [] (.seq .d (.cut [0,7,8] [] (.blk (.keep [0,7,8,24,25,26,27,28,29] true)) .d))))) .d)))),⟨[(175,F175.c),(176,F176.c)],gl,true⟩,[(177,(.seq .d (.cut [0,2] [] .d (.seq .d (.blk (.loop [0,3] [] .d))))))],f145⟩
def t18(b a g:Int)(h:LX):S:=⟨[(0, .view true 0 [] (.int .i32) a ((Ad a b)-a)),(3,vi g)],[Aw 21 h],[[(0,vi b),(7, .own 0),(8,vi a),(24, .own 0),(25,vi a),(26,vi a),(27,vi b),(28,vi (Ad a b)),(29, .view true 0 [] (.int .i32) a ((Ad a b)-a))]]⟩
def z18(kn12:K_):Nat→S→Option R_:=H.i P_ [r,r,r,l,r,d,(lp kn12),r,l,d,(call 6 177),r,r,r,d]
def t12(b a:Int)(f:LX):S:=⟨[(0,vi b),(7, .own 0),(8,vi a)],[Aw 21 f],[]⟩
def z12:Nat→S→Option R_:=H.i P_ [r,r,r,l,r,d]
def x22(f:LX):Option R_:=H.e P_ [r,r,r,r] ⟨[(7, .own 0)],[Aw 21 f],[]⟩
def x20(kn12:K_)(b a:Int)(h:LX):Option R_:=H.e P_ [r,r,r,l,r,d,(lp kn12),r,r] ⟨[(0,vi b),(7, .own 0),(8,vi a)],[Aw 21 h],[]⟩
def x18(kn12:K_)(b a g:Int)(h:LX):Option R_:=H.e P_ [r,r,r,l,r,d,(lp kn12),r,l,d,(call 6 177),r,r,r,d] (t18 b a g h)
def x17(kn12:K_)(b a:Int)(k:LX):Option R_:=H.e P_ [r,r,r,l,r,d,(lp kn12),r,l,d,(call 6 177),r,r] ⟨[(0, .view true 0 [] (.int .i32) a ((Ad a b)-a)),(2,vi (Ah ((Ad a b)-a) (1:Int)))],[Aw 21 k],[[(0,vi b),(7, .own 0),(8,vi a),(24, .own 0),(25,vi a),(26,vi a),(27,vi b),(28,vi (Ad a b)),(29, .view true 0 [] (.int .i32) a ((Ad a b)-a))]]⟩
def x12(b a:Int)(f:LX):Option R_:=H.e P_ [r,r,r,l,r,d] (t12 b a f)
theorem e22:x22=Avi:=by kernel_rfl
theorem e20(kn12:K_)(b:Int):x20 kn12 b=Amq (fun a f=>kn12 (t12 b a f)) b:=by kernel_rfl
theorem i18(kn12:K_)(b a:Int):∀(q:Nat) (g:Int) (h:LX),z18 kn12 q (t18 b a g h)=Rv (fun a f=>kn12 (t12 b a f)) b a q g h:=
 ind (fun _ _=>by kernel_rfl) fun q ih g h=>Eq.trans (b:=Afi (x20 kn12 b) (fun g h=>(z18 kn12 q) (t18 b a g h)) b a g h) (by kernel_rfl) (by simp only[e20,ih]<;>rfl)
theorem e18(kn12:K_)(b:Int):x18 kn12 b=Al3 (fun a f=>kn12 (t12 b a f)) b:=by funext a g h;exact Eq.trans (by kernel_rfl) ((i18 kn12 b a Cf g h).trans (by rw[Ar];rfl))
theorem e17(kn12:K_)(b:Int):x17 kn12 b=Afj (fun a f=>kn12 (t12 b a f)) b:=Eq.trans (b:=Ama (x18 kn12 b) b) (by kernel_rfl) (by simp only[e18]<;>rfl)
theorem i12(b:Int):∀(q:Nat) (a:Int) (f:LX),z12 q (t12 b a f)=Nj b q a f:=
 ind (fun _ _=>by kernel_rfl) fun q ih a f=>Eq.trans (b:=Al4 (x17 (z12 q) b) x22 b a f) (by kernel_rfl) (by simp only[e17,e22,ih]<;>rfl)
theorem e12:x12=Anb:=by funext b a f;exact Eq.trans (by kernel_rfl) ((i12 b Cf a f).trans (by rw[Ar];rfl))
noncomputable def F:=u2 Avk
theorem rn x:H.u P_ x=F x:=Eq.trans (b:=u2 (Ars x12) x) (by kernel_rfl) (by simp only[e12]<;>rfl)
noncomputable def c:Con:=⟨H.p,H.r,F⟩
theorem ok:ConOk P_ gl 145 c:=cr H func145 (.cons F175.ok (.cons F176.ok .nil)) (AnsOk.cons ent177 AnsOk.nil) rn
end F145
namespace F99
def Qj(j16:Int→Int32→Int→(List (Int×Int32×(Int×LX×LX×Unit)×Unit))→LX→Int→Int32→Int→LX→LX→Option (LX×Int))(j18:Int→Int→LX→Option (LX×Int))(f:LU)(a b g:Int)(h:List (Int×Int32×(Int×LX×LX×Unit)×Unit))(k:LX):Option (LX×Int):=
if(Bt g (Ac f))then
(getI f g).bind fun ag=>
(Gj (Bb a 0)).bind fun _=>
(getI h (Fa g a)).bind fun _=>
both (
(getI h (Fa g a)).bind fun m=>
both (
(Se ag).bind fun ae=>
(fun ao:Option (LX×Int)=>
bo (
ao)) (
(Ie m.1 m.2.1 m.2.2.1.1 m.2.2.1.2.1 m.2.2.1.2.2.1 ae).bind fun(w,y,v,aa,ab,ac,u)=>
j16 g w u h k y v aa ab ac)) [
(Se ag).bind fun ae=>
(Ie m.1 m.2.1 m.2.2.1.1 m.2.2.1.2.1 m.2.2.1.2.2.1 ae).bind fun(w,y,v,aa,ab,ac,u)=>
j16 g w u h k y v aa ab ac]) [
(Se ag).bind fun af=>
both (
(getI h (Fa g a)).bind fun ad=>
(fun ap:Option (LX×Int)=>
bo (
ap)) (
(Ie ad.1 ad.2.1 ad.2.2.1.1 ad.2.2.1.2.1 ad.2.2.1.2.2.1 af).bind fun(w,y,v,aa,ab,ac,u)=>
j16 g w u h k y v aa ab ac)) [
(getI h (Fa g a)).bind fun ad=>
(Ie ad.1 ad.2.1 ad.2.2.1.1 ad.2.2.1.2.1 ad.2.2.1.2.2.1 af).bind fun(w,y,v,aa,ab,ac,u)=>
j16 g w u h k y v aa ab ac],
both (
(getI h (Fa g a)).bind fun m=>
(Se ag).bind fun ae=>
(Ie m.1 m.2.1 m.2.2.1.1 m.2.2.1.2.1 m.2.2.1.2.2.1 ae).bind fun(w,y,v,aa,ab,ac,u)=>
j16 g w u h k y v aa ab ac) [
(Se ag).bind fun af=>
(getI h (Fa g a)).bind fun ad=>
(Ie ad.1 ad.2.1 ad.2.2.1.1 ad.2.2.1.2.1 ad.2.2.1.2.2.1 af).bind fun(w,y,v,aa,ab,ac,u)=>
j16 g w u h k y v aa ab ac]]
else
j18 a b k
theorem Ald: @Qj= @Ij:=by
  unfold Qj Ij
  try simp only[Avw,Amb,Ank]
  all_goals
    repeat (refine funext fun _=>?_)
    repeat' first
      |with_reducible rfl
      |with_reducible refine Qy ?_ ?_
      |with_reducible refine Qh ?_ ?_ ?_
      |with_reducible refine Qi ?_ ?_ ?_ ?_
      |((with_reducible refine Zu ?_ ?_);focus (intro h;first|(subst h;rfl)|(simp only[h];rfl)|(simp[Ew,Ac,h];done)))
      |with_reducible refine Aaa fun x=>?_
      |with_reducible refine Agm (fun _=>?_) (fun _=>?_)
      |(refine Jg (fun h=>by simp only[h,Xm,Gm,Fz,ite_self]) (fun x h=>?_);(try simp only[h,Gm]))
      |(refine Md (fun h=>?_) (fun h=>?_)<;>simp only[h,if_true,if_false,Bool.false_eq_true])
abbrev R_:=(LX×Int)
abbrev K_:=S→Option R_
noncomputable def H:Hd:=⟨[.agg [Si,Si], .lf (.vec 16 (.int .i32)) none,Sv],[Ow 21,Si],(.seq .d (.seq .d (.cut [2,3,8] [] (.seq .d (.blk (.loop [2,3,4,8,20] [] .d))) (.seq .d (.cut [3,10] [] (.seq .d (.blk (.loop [3,8,10,33,34,35] [⟨10,[], .own 21 (.int .i32)⟩] (.seq .d (.seq .d (.seq (.blk (.seq .d (.seq .d (.cut [3,8,10,13,14,15,16,33,34,35] [] (.mode false) .d)))) .d)))))) .d))))),⟨[(47,F47.c),(142,F142.c),(143,F143.c),(144,F144.c),(145,F145.c)],gl,false⟩,[],f99⟩
def t13(f:LU)(a b g:Int)(h:List (Int×Int32×(Int×LX×LX×Unit)×Unit))(k:LX):S:=⟨[(3, .ptr 0 []),(8, .ptr 1 []),(10, .own 2),(33,vv f),(34,vi (Ac f)),(35,vi g)],[.box 44 (.agg [vi a,vi b]), .box 208 (.val (.vec 6 (.cons (.int .i64) (.cons (.int .i32) (.cons (.cons (.int .i64) (.cons (.vec 16 (.int .i32)) (.cons (.vec 16 (.int .i32)) .nil))) .nil)))) h),Aw 21 k],[]⟩
def z13:Nat→S→Option R_:=H.i P_ [r,r,r,r,l,r,d]
def t10(f:LU)(a b:Int)(o:LX)(p:Int)(n:List (Int×Int32×(Int×LX×LX×Unit)×Unit)):S:=⟨[(2,vv f),(3, .ptr 0 []),(4, .ptr 1 []),(8, .ptr 2 []),(20,vi p)],[.box 44 (.agg [vi a,vi b]), .box 92 (.val (.vec 16 (.int .i32)) o), .box 208 (.val (.vec 6 (.cons (.int .i64) (.cons (.int .i32) (.cons (.cons (.int .i64) (.cons (.vec 16 (.int .i32)) (.cons (.vec 16 (.int .i32)) .nil))) .nil)))) n)],[]⟩
def z10:Nat→S→Option R_:=H.i P_ [r,r,l,r,d]
def x18(a b:Int)(k:LX):Option R_:=H.e P_ [r,r,r,r,r] ⟨[(3, .ptr 0 []),(10, .own 1)],[.box 44 (.agg [vi a,vi b]),Aw 21 k],[]⟩
def x16(kn13:K_)(a:Int)(f:LU)(b g:Int)(w:Int32)(u:Int)(h:List (Int×Int32×(Int×LX×LX×Unit)×Unit))(k:LX)(y:Int)(v:Int32)(aa:Int)(ab ac:LX):Option R_:=H.e P_ [r,r,r,r,l,r,d,(lp kn13),r,r,l,d,r,r,r] ⟨[(3, .ptr 0 []),(8, .ptr 1 []),(10, .own 2),(13, .ptr 1 [.idx (Fa g a) 35]),(14,vx w),(15, .ptr 3 []),(16,vi u),(33,vv f),(34,vi (Ac f)),(35,vi g)],[.box 44 (.agg [vi a,vi b]), .box 208 (.val (.vec 6 (.cons (.int .i64) (.cons (.int .i32) (.cons (.cons (.int .i64) (.cons (.vec 16 (.int .i32)) (.cons (.vec 16 (.int .i32)) .nil))) .nil)))) h),Aw 21 k, .box 207 (.agg [vi y,vx v, .agg [vi aa, .val (.vec 16 (.int .i32)) ab, .val (.vec 16 (.int .i32)) ac]])],[]⟩
def x13(f:LU)(a b g:Int)(h:List (Int×Int32×(Int×LX×LX×Unit)×Unit))(k:LX):Option R_:=H.e P_ [r,r,r,r,l,r,d] (t13 f a b g h k)
def x12(f:LU)(a b:Int)(n:List (Int×Int32×(Int×LX×LX×Unit)×Unit)):Option R_:=H.e P_ [r,r,r] ⟨[(2,vv f),(3, .ptr 0 []),(8, .ptr 1 [])],[.box 44 (.agg [vi a,vi b]), .box 208 (.val (.vec 6 (.cons (.int .i64) (.cons (.int .i32) (.cons (.cons (.int .i64) (.cons (.vec 16 (.int .i32)) (.cons (.vec 16 (.int .i32)) .nil))) .nil)))) n)],[]⟩
def x10(f:LU)(a b:Int)(o:LX)(p:Int)(n:List (Int×Int32×(Int×LX×LX×Unit)×Unit)):Option R_:=H.e P_ [r,r,l,r,d] (t10 f a b o p n)
theorem e18:x18=Io:=by kernel_rfl
theorem e16(kn13:K_)(f:LU)(a b:Int):x16 kn13 a f b=To (fun g h k=>kn13 (t13 f a b g h k)) a f b:=by kernel_rfl
theorem i13(f:LU)(a b:Int):∀(q:Nat) (g:Int) (h:List (Int×Int32×(Int×LX×LX×Unit)×Unit)) (k:LX),z13 q (t13 f a b g h k)=Gd f a b q g h k:=
 ind (fun _ _ _=>by kernel_rfl) fun q ih g h k=>Eq.trans (b:=Qj (x16 (z13 q) a f b) x18 f a b g h k) (by kernel_rfl) (by rw[Ald];simp only[e16,e18,ih]<;>rfl)
theorem e13:x13=Afc:=by funext f a b g h k;exact Eq.trans (by kernel_rfl) ((i13 f a b Cf g h k).trans (by rw[Ar];rfl))
theorem e12:x12=Tc:=Eq.trans (b:=Ae9 x13) (by kernel_rfl) (by simp only[e13]<;>rfl)
theorem i10(f:LU)(a b:Int)(o:LX):∀(q:Nat) (p:Int) (n:List (Int×Int32×(Int×LX×LX×Unit)×Unit)),z10 q (t10 f a b o p n)=Tf f a b o q p n:=
 ind (fun _ _=>by kernel_rfl) fun q ih p n=>Eq.trans (b:=Ae6 x12 (fun p n=>(z10 q) (t10 f a b o p n)) f a b o p n) (by kernel_rfl) (by simp only[e12,ih]<;>rfl)
theorem e10:x10=Ls:=by funext f a b o p n;exact Eq.trans (by kernel_rfl) ((i10 f a b o Cf p n).trans (by rw[Ar];rfl))
noncomputable def F:=u4 Nu
theorem rn x:H.u P_ x=F x:=Eq.trans (b:=u4 (Ur x10) x) (by kernel_rfl) (by simp only[e10]<;>rfl)
noncomputable def c:Con:=⟨H.p,H.r,F⟩
theorem ok:ConOk P_ gl 99 c:=co H func99 (.cons F47.ok (.cons F142.ok (.cons F143.ok (.cons F144.ok (.cons F145.ok .nil))))) rn
end F99
namespace F46
noncomputable def H:Hd:=⟨[.agg [Si,Si], .lf (.vec 16 (.int .i32)) none,Si,Sb],[Ow 21,Si], .d,⟨[(94,F94.c),(95,F95.c),(96,F96.c),(97,F97.c),(98,F98.c),(99,F99.c)],gl,false⟩,[],f46⟩
noncomputable def F:=u5 deframe_Decode
theorem rn x:H.u P_ x=F x:=by kernel_rfl
noncomputable def c:Con:=⟨H.p,H.r,F⟩
theorem ok:ConOk P_ gl 46 c:=co H func46 (.cons F94.ok (.cons F95.ok (.cons F96.ok (.cons F97.ok (.cons F98.ok (.cons F99.ok .nil)))))) rn
end F46
namespace F14
abbrev R_:=(LB×Int)
abbrev K_:=S→Option R_
noncomputable def H:Hd:=⟨[Si,Sw],[Ob 5,Si],(.seq .d (.seq .d (.seq .d (.cut [7] [] (.seq .d (.blk (.loop [0,7,17,18,19] [⟨7,[], .own 5 (.int .u8)⟩] (.seq .d (.seq .d (.cut [0,7,17,18,19] [] (.blk (.seq .d (.cut [0,7,9,17,18,19] [] .d (.seq .d (.blk (.loop [0,7,9,17,18,19,28,29] [] .d)))))) .d)))))) .d)))),⟨[(47,F47.c)],gl,false⟩,[],f14⟩
def t26(b:Int)(a:LX)(k:Int32)(f m:Int)(h:LB):S:=⟨[(0,vi b),(7, .own 0),(9,vx k),(17,vw a),(18,vi (Ac a)),(19,vi f),(28,vi (Bq b (8:Int))),(29,vi m)],[Ab 5 h],[]⟩
def z26(kn16:K_):Nat→S→Option R_:=H.i P_ [r,r,r,l,r,d,(lp kn16),r,r,l,d,r,r,r,d]
def t16(b:Int)(a:LX)(f:Int)(g:LB):S:=⟨[(0,vi b),(7, .own 0),(17,vw a),(18,vi (Ac a)),(19,vi f)],[Ab 5 g],[]⟩
def z16:Nat→S→Option R_:=H.i P_ [r,r,r,l,r,d]
def x30(g:LB):Option R_:=H.e P_ [r,r,r,r] ⟨[(7, .own 0)],[Ab 5 g],[]⟩
def x28(kn16:K_)(b:Int)(a:LX)(f:Int)(h:LB):Option R_:=H.e P_ [r,r,r,l,r,d,(lp kn16),r,r,r] ⟨[(0,vi b),(7, .own 0),(17,vw a),(18,vi (Ac a)),(19,vi f)],[Ab 5 h],[]⟩
def x26(kn16:K_)(b:Int)(a:LX)(k:Int32)(f m:Int)(h:LB):Option R_:=H.e P_ [r,r,r,l,r,d,(lp kn16),r,r,l,d,r,r,r,d] (t26 b a k f m h)
def x25(kn16:K_)(b:Int)(a:LX)(f:Int)(g:LB)(k:Int32):Option R_:=H.e P_ [r,r,r,l,r,d,(lp kn16),r,r,l,d,r,r] ⟨[(0,vi b),(7, .own 0),(9,vx k),(17,vw a),(18,vi (Ac a)),(19,vi f)],[Ab 5 g],[]⟩
def x16(b:Int)(a:LX)(f:Int)(g:LB):Option R_:=H.e P_ [r,r,r,l,r,d] (t16 b a f g)
theorem e30:x30=Aon:=by kernel_rfl
theorem e28(kn16:K_)(b:Int)(a:LX):x28 kn16 b a=Aea (fun f g=>kn16 (t16 b a f g)) b a:=by kernel_rfl
theorem i26(kn16:K_)(b:Int)(a:LX)(k:Int32)(f:Int):∀(q:Nat) (m:Int) (h:LB),z26 kn16 q (t26 b a k f m h)=Gh (fun f g=>kn16 (t16 b a f g)) b a k f q m h:=
 ind (fun _ _=>by kernel_rfl) fun q ih m h=>Eq.trans (b:=Uh (x28 kn16 b a) (fun m h=>(z26 kn16 q) (t26 b a k f m h)) b a k f m h) (by kernel_rfl) (by simp only[e28,ih]<;>rfl)
theorem e26(kn16:K_)(b:Int)(a:LX):x26 kn16 b a=Aef (fun f g=>kn16 (t16 b a f g)) b a:=by funext k f m h;exact Eq.trans (by kernel_rfl) ((i26 kn16 b a k f Cf m h).trans (by rw[Ar];rfl))
theorem e25(kn16:K_)(b:Int)(a:LX):x25 kn16 b a=Ih (fun f g=>kn16 (t16 b a f g)) b a:=Eq.trans (b:=Ad6 (x26 kn16 b a) b a) (by kernel_rfl) (by simp only[e26]<;>rfl)
theorem i16(b:Int)(a:LX):∀(q:Nat) (f:Int) (g:LB),z16 q (t16 b a f g)=Ee b a q f g:=
 ind (fun _ _=>by kernel_rfl) fun q ih f g=>Eq.trans (b:=Up (x25 (z16 q) b a) x30 b a f g) (by kernel_rfl) (by simp only[e25,e30,ih]<;>rfl)
theorem e16:x16=Aoo:=by funext b a f g;exact Eq.trans (by kernel_rfl) ((i16 b a Cf f g).trans (by rw[Ar];rfl))
noncomputable def F:=u2 width_Bytes
theorem rn x:H.u P_ x=F x:=Eq.trans (b:=u2 (Aha x16) x) (by kernel_rfl) (by simp only[e16]<;>rfl)
noncomputable def c:Con:=⟨H.p,H.r,F⟩
theorem ok:ConOk P_ gl 14 c:=co H func14 (.cons F47.ok .nil) rn
end F14
namespace F12
abbrev R_:=(LB×Int)
noncomputable def H:Hd:=⟨[Sb,Ss,Si],[Ob 5,Si],(.seq .d (.cut [2,8,9,11] [] (.keep [0,1,2,8,9,11,12,13,14,15,16,17,18,19] true) (.seq .d (.seq .d (.cut [6,7] [⟨6,[], .own 5 (.int .u8)⟩] (.keep [2,6,7,8,30,31,32,33,34] true) .d))))),⟨[(10,F10.c),(14,F14.c),(38,F38.c),(45,F45.c),(46,F46.c),(88,F88.c)],gl,false⟩,[(40, .d),(89,(.seq .d (.cut [0,3,4,5,6,10,11] [] .d (.seq .d (.cut [4,12,13] [] .d .d)))))],f12⟩
def x6(a ac:Int):Option R_:=H.e P_ [r,r] ⟨[(2,vi a),(8, .cst .nilFunc),(9,vi 0),(11,vi ac)],[],[]⟩
def x10(ad:Int)(ae:LB):Option R_:=H.e P_ [r,r,r,r,r] ⟨[(6, .own 0),(7,vi ad)],[Ab 5 ae],[]⟩
def x9(w a h b:Int)(aa:LX)(n o p k:Int)(m:LB)(u:LX)(v f g:LI):Option R_:=H.e P_ [r,r,r,r,l,(call 2 89),r,r,r,r] ⟨[(4, .ptr 0 []),(12, .own 1),(13,vi w)],[.box 44 (.agg [vi h,vi b]),Aw 21 aa, .box 29 (.agg [.agg [vi n,vi h,vi b,vi o,vi p],vi k, .own 7]), .box 27 (.own 8), .box 22 (vb m), .box 92 (.val (.vec 16 (.int .i32)) u), .box 27 (.own 9),Ai 3 v,Ai 3 f,Ai 3 g],[[(2,vi a),(8, .fn 89 [.ptr 2 [], .ptr 3 [], .ptr 4 [], .ptr 0 [], .ptr 5 [], .ptr 6 []]),(30, .fn 89 [.ptr 2 [], .ptr 3 [], .ptr 4 [], .ptr 0 [], .ptr 5 [], .ptr 6 []]),(31,vi a)]]⟩
def x8(a k ab y:Int)(m:LB)(h b:Int)(u:LX)(n o p:Int)(g v f:LI):Option R_:=H.e P_ [r,r,r,r,l,(call 2 89),r,r] ⟨[(0,vi a),(3, .ptr 0 []),(4, .ptr 1 []),(5, .ptr 2 []),(6, .ptr 3 []),(10,vi (Ad k ab)),(11,vi (Ad k y))],[.box 22 (vb m), .box 44 (.agg [vi h,vi b]), .box 92 (.val (.vec 16 (.int .i32)) u), .box 27 (.own 6), .box 29 (.agg [.agg [vi n,vi h,vi b,vi o,vi p],vi k, .own 7]), .box 27 (.own 8),Ai 3 g,Ai 3 v,Ai 3 f],[[(2,vi a),(8, .fn 89 [.ptr 4 [], .ptr 5 [], .ptr 0 [], .ptr 1 [], .ptr 2 [], .ptr 3 []]),(30, .fn 89 [.ptr 4 [], .ptr 5 [], .ptr 0 [], .ptr 1 [], .ptr 2 [], .ptr 3 []]),(31,vi a)]]⟩
def x7(a:Int)(g:LI)(n h b o p k:Int)(m:LB)(u:LX)(v f:LI):Option R_:=H.e P_ [r,r] ⟨[(2,vi a),(8, .fn 89 [.ptr 0 [], .ptr 1 [], .ptr 2 [], .ptr 3 [], .ptr 4 [], .ptr 5 []]),(9,vi (Ac g)),(11,vi 0)],[.box 29 (.agg [.agg [vi n,vi h,vi b,vi o,vi p],vi k, .own 6]), .box 27 (.own 7), .box 22 (vb m), .box 44 (.agg [vi h,vi b]), .box 92 (.val (.vec 16 (.int .i32)) u), .box 27 (.own 8),Ai 3 v,Ai 3 f,Ai 3 g],[]⟩
theorem e6:x6=An1:=by kernel_rfl
theorem e10:x10=Abf:=by kernel_rfl
theorem e9:x9=Ans:=Eq.trans (b:=Anz x10) (by kernel_rfl) (by simp only[e10]<;>rfl)
theorem e8:x8=Anv:=Eq.trans (b:=An2 x10 x9) (by kernel_rfl) (by simp only[e10,e9]<;>rfl)
theorem e7:x7=Aok:=Eq.trans (b:=Aom x8) (by kernel_rfl) (by simp only[e8]<;>rfl)
noncomputable def F:=u3 Ang
theorem rn x:H.u P_ x=F x:=Eq.trans (b:=u3 (Aoq x6 x7) x) (by kernel_rfl) (by simp only[e6,e7]<;>rfl)
noncomputable def c:Con:=⟨H.p,H.r,F⟩
theorem ok:ConOk P_ gl 12 c:=cr H func12 (.cons F10.ok (.cons F14.ok (.cons F38.ok (.cons F45.ok (.cons F46.ok (.cons F88.ok .nil)))))) (AnsOk.cons ent40 (AnsOk.cons ent89 AnsOk.nil)) rn
end F12
namespace F91
abbrev R_:=(Int×Int)
noncomputable def H:Hd:=⟨[Sb],[Si,Si],(.seq .d (.seq .d (.cut [0,4] [] .d .d))),⟨[(84,F84.c),(132,F132.c),(133,F133.c),(134,F134.c)],gl,false⟩,[],f91⟩
def x2(a:LB):Option R_:=H.e P_ [r,r,r] ⟨[(0,vb a),(4,vi (Ah (Ac a) (32:Int)))],[],[]⟩
theorem e2:x2=Aq4:=by kernel_rfl
noncomputable def F:=Avr
theorem rn x:H.u P_ x=F x:=Eq.trans (b:=Arv x2 x) (by kernel_rfl) (by simp only[e2]<;>rfl)
noncomputable def c:Con:=⟨H.p,H.r,F⟩
theorem ok:ConOk P_ gl 91 c:=co H func91 (.cons F84.ok (.cons F132.ok (.cons F133.ok (.cons F134.ok .nil)))) rn
end F91
namespace F41
abbrev R_:=(Int×Int)
abbrev K_:=S→Option R_
noncomputable def H:Hd:=⟨[Sb],[Si,Si],(.seq .d (.seq .d (.seq .d (.seq .d (.cut [5] [] (.blk (.loop [1,4,5] [] (.seq .d (.cut [1,4,5] [] (.blk (.cut [1,4,5,6] [] (.keep [1,4,5,6,16,17] true) .d)) .d)))) .d))))),⟨[(91,F91.c)],gl,false⟩,[(90, .d)],f41⟩
def t8(a:Int)(b:LB):S:=⟨[(1, .ptr 0 []),(4, .fn 90 [.ptr 0 []]),(5,vi a)],[.box 22 (vb b)],[]⟩
def z8:Nat→S→Option R_:=H.i P_ [r,r,r,r,l,d]
def x14(a:Int):Option R_:=H.e P_ [r,r,r,r,r] ⟨[(5,vi a)],[],[]⟩
def x12(kn8:K_)(a:Int)(g:LB):Option R_:=H.e P_ [r,r,r,r,l,d,(lp kn8),r,r] ⟨[(1, .ptr 0 []),(4, .fn 90 [.ptr 0 []]),(5,vi a)],[.box 22 (vb g)],[]⟩
def x11(kn8:K_)(a f:Int)(b:LB):Option R_:=H.e P_ [r,r,r,r,l,d,(lp kn8),r,l,d,r] ⟨[(1, .ptr 0 []),(4, .fn 90 [.ptr 0 []]),(5,vi a),(6,vi f)],[.box 22 (vb b)],[]⟩
def x8(a:Int)(b:LB):Option R_:=H.e P_ [r,r,r,r,l,d] (t8 a b)
theorem e14:x14=Alj:=by kernel_rfl
theorem e12(kn8:K_):x12 kn8=Abu (fun a b=>kn8 (t8 a b)):=by kernel_rfl
theorem e11(kn8:K_):x11 kn8=Abm (fun a b=>kn8 (t8 a b)):=Eq.trans (b:=Abt (x12 kn8)) (by kernel_rfl) (by simp only[e12]<;>rfl)
theorem i8:∀(q:Nat) (a:Int) (b:LB),z8 q (t8 a b)=Nt q a b:=
 ind (fun _ _=>by kernel_rfl) fun q ih a b=>Eq.trans (b:=Aed (x11 (z8 q)) x14 a b) (by kernel_rfl) (by simp only[e11,e14,ih]<;>rfl)
theorem e8:x8=Ano:=by funext a b;exact Eq.trans (by kernel_rfl) ((i8 Cf a b).trans (by rw[Ar];rfl))
noncomputable def F:=Sa
theorem rn x:H.u P_ x=F x:=Eq.trans (b:=Aeh x8 x) (by kernel_rfl) (by simp only[e8]<;>rfl)
noncomputable def c:Con:=⟨H.p,H.r,F⟩
theorem ok:ConOk P_ gl 41 c:=cr H func41 (.cons F91.ok .nil) (AnsOk.cons ent90 AnsOk.nil) rn
end F41
namespace F11
abbrev R_:=(LB×Int)
abbrev K_:=S→Option R_
noncomputable def H:Hd:=⟨[Sb,Ss,Si],[Ob 5,Si],(.seq .d (.cut [0,2,8,9,10,11] [] (.keep [0,1,2,8,9,10,11,18,19,20,21,22,23,24,25] true) (.seq .d (.seq .d (.seq .d (.cut [0,10,12] [] (.seq .d (.blk (.loop [0,8,9,10,12,13] [⟨12,[], .own 5 (.int .u8)⟩] (.seq .d (.cut [0,8,9,10,12,13] [] (.blk (.cut [0,8,9,10,12,13,14,15] [⟨14,[], .own 5 (.int .u8)⟩] (.keep [0,8,9,10,12,13,14,15,42,43,44,45,46,47] true) .d)) .d))))) .d)))))),⟨[(10,F10.c),(14,F14.c),(38,F38.c),(41,F41.c),(45,F45.c),(46,F46.c),(88,F88.c)],gl,false⟩,[(40, .d),(89,(.seq .d (.cut [0,3,4,5,6,10,11] [] .d (.seq .d (.cut [4,12,13] [] .d .d)))))],f11⟩
def t19(a:LB)(aa:Int):S:=⟨[(0,vb a),(8, .cst .nilFunc),(9,vi 0),(10,vi 0),(12, .own 0),(13,vi aa)],[Ab 5 ([]:LB)],[]⟩
def z19:Nat→S→Option R_:=H.i P_ [r,r,r,r,r,l,r,d]
def t22(a:LB)(f:LI)(b m n h g o p:Int)(u:LX)(v k:LI)(w:Int)(y:LB):S:=⟨[(0,vb a),(8, .fn 89 [.ptr 0 [], .ptr 1 [], .ptr 2 [], .ptr 3 [], .ptr 4 [], .ptr 5 []]),(9,vi (Ac f)),(10,vi (Ad b m)),(12, .own 6),(13,vi w)],[.box 29 (.agg [.agg [vi n,vi h,vi g,vi o,vi p],vi b, .own 7]), .box 27 (.own 8), .box 22 (vb a), .box 44 (.agg [vi h,vi g]), .box 92 (.val (.vec 16 (.int .i32)) u), .box 27 (.own 9),Ab 5 y,Ai 3 v,Ai 3 k,Ai 3 f],[]⟩
def z22:Nat→S→Option R_:=H.i P_ [r,r,r,r,r,l,r,d]
def x21(a:LB):Option R_:=H.e P_ [r,r,r,r,r,r] ⟨[(0,vb a),(10,vi 0),(12, .own 0)],[Ab 5 ([]:LB)],[]⟩
def x19(a:LB)(aa:Int):Option R_:=H.e P_ [r,r,r,r,r,l,r,d] (t19 a aa)
def x17(a:LB)(aa ag:Int):Option R_:=H.e P_ [r,r] ⟨[(0,vb a),(2,vi aa),(8, .cst .nilFunc),(9,vi 0),(10,vi 0),(11,vi ag)],[],[]⟩
def x32(a:LB)(b m:Int)(y:LB):Option R_:=H.e P_ [r,r,r,r,r,r] ⟨[(0,vb a),(10,vi (Ad b m)),(12, .own 0)],[Ab 5 y],[]⟩
def x30(kn22:K_)(a:LB)(f:LI)(b m n h g o p:Int)(u:LX)(v k:LI)(w:Int)(ad:LB):Option R_:=H.e P_ [r,r,r,r,r,l,r,d,(lp kn22),r,r] ⟨[(0,vb a),(8, .fn 89 [.ptr 0 [], .ptr 1 [], .ptr 2 [], .ptr 3 [], .ptr 4 [], .ptr 5 []]),(9,vi (Ac f)),(10,vi (Ad b m)),(12, .own 6),(13,vi w)],[.box 29 (.agg [.agg [vi n,vi h,vi g,vi o,vi p],vi b, .own 7]), .box 27 (.own 8), .box 22 (vb a), .box 44 (.agg [vi h,vi g]), .box 92 (.val (.vec 16 (.int .i32)) u), .box 27 (.own 9),Ab 5 ad,Ai 3 v,Ai 3 k,Ai 3 f],[]⟩
def x29(kn22:K_)(a:LB)(f:LI)(b m n h g o p:Int)(u:LX)(v k:LI)(w:Int)(y:LB)(ah:Int)(ai:LB):Option R_:=H.e P_ [r,r,r,r,r,l,r,d,(lp kn22),r,l,d,r] ⟨[(0,vb a),(8, .fn 89 [.ptr 0 [], .ptr 1 [], .ptr 2 [], .ptr 3 [], .ptr 4 [], .ptr 5 []]),(9,vi (Ac f)),(10,vi (Ad b m)),(12, .own 6),(13,vi w),(14, .own 7),(15,vi ah)],[.box 29 (.agg [.agg [vi n,vi h,vi g,vi o,vi p],vi b, .own 8]), .box 27 (.own 9), .box 22 (vb a), .box 44 (.agg [vi h,vi g]), .box 92 (.val (.vec 16 (.int .i32)) u), .box 27 (.own 10),Ab 5 y,Ab 5 ai,Ai 3 v,Ai 3 k,Ai 3 f],[]⟩
def x28(kn22:K_)(a:LB)(f:LI)(b m h g n o p:Int)(u:LX)(v k:LI)(ab w:Int)(ae:LX)(y:LB):Option R_:=H.e P_ [r,r,r,r,r,l,r,d,(lp kn22),r,l,d,l,(call 2 89),r,r,r,r] ⟨[(4, .ptr 0 []),(12, .own 1),(13,vi ab)],[.box 44 (.agg [vi h,vi g]),Aw 21 ae, .box 29 (.agg [.agg [vi n,vi h,vi g,vi o,vi p],vi b, .own 8]), .box 27 (.own 9), .box 22 (vb a), .box 92 (.val (.vec 16 (.int .i32)) u), .box 27 (.own 10),Ab 5 y,Ai 3 v,Ai 3 k,Ai 3 f],[[(0,vb a),(8, .fn 89 [.ptr 2 [], .ptr 3 [], .ptr 4 [], .ptr 0 [], .ptr 5 [], .ptr 6 []]),(9,vi (Ac f)),(10,vi (Ad b m)),(12, .own 7),(13,vi w),(43, .fn 89 [.ptr 2 [], .ptr 3 [], .ptr 4 [], .ptr 0 [], .ptr 5 [], .ptr 6 []]),(44,vi w)]]⟩
def x27(kn22:K_)(b:Int)(a:LB)(f:LI)(m h g:Int)(u:LX)(n o p:Int)(v k:LI)(w af ac:Int)(y:LB):Option R_:=H.e P_ [r,r,r,r,r,l,r,d,(lp kn22),r,l,d,l,(call 2 89),r,r] ⟨[(0,vi w),(3, .ptr 0 []),(4, .ptr 1 []),(5, .ptr 2 []),(6, .ptr 3 []),(10,vi (Ad b af)),(11,vi (Ad b ac))],[.box 22 (vb a), .box 44 (.agg [vi h,vi g]), .box 92 (.val (.vec 16 (.int .i32)) u), .box 27 (.own 7), .box 29 (.agg [.agg [vi n,vi h,vi g,vi o,vi p],vi b, .own 8]), .box 27 (.own 9),Ab 5 y,Ai 3 f,Ai 3 v,Ai 3 k],[[(0,vb a),(8, .fn 89 [.ptr 4 [], .ptr 5 [], .ptr 0 [], .ptr 1 [], .ptr 2 [], .ptr 3 []]),(9,vi (Ac f)),(10,vi (Ad b m)),(12, .own 6),(13,vi w),(43, .fn 89 [.ptr 4 [], .ptr 5 [], .ptr 0 [], .ptr 1 [], .ptr 2 [], .ptr 3 []]),(44,vi w)]]⟩
def x22(a:LB)(f:LI)(b m n h g o p:Int)(u:LX)(v k:LI)(w:Int)(y:LB):Option R_:=H.e P_ [r,r,r,r,r,l,r,d] (t22 a f b m n h g o p u v k w y)
def x18(a:LB)(aa:Int)(f:LI)(b m n h g o p:Int)(u:LX)(v k:LI):Option R_:=H.e P_ [r,r] ⟨[(0,vb a),(2,vi aa),(8, .fn 89 [.ptr 0 [], .ptr 1 [], .ptr 2 [], .ptr 3 [], .ptr 4 [], .ptr 5 []]),(9,vi (Ac f)),(10,vi (Ad b m)),(11,vi 0)],[.box 29 (.agg [.agg [vi n,vi h,vi g,vi o,vi p],vi b, .own 6]), .box 27 (.own 7), .box 22 (vb a), .box 44 (.agg [vi h,vi g]), .box 92 (.val (.vec 16 (.int .i32)) u), .box 27 (.own 8),Ai 3 v,Ai 3 k,Ai 3 f],[]⟩
theorem e21:x21=Aol:=by kernel_rfl
theorem i19(a:LB)(aa:Int):∀(q:Nat),z19 q (t19 a aa)=Aof a aa q:=
 ind (by kernel_rfl) fun q ih=>Eq.trans (b:=An7 x21 a aa) (by kernel_rfl) (by simp only[e21,ih]<;>rfl)
theorem e19:x19=Aor:=by funext a aa;exact Eq.trans (by kernel_rfl) ((i19 a aa Cf).trans (by rw[Ar];rfl))
theorem e17:x17=Ael:=Eq.trans (b:=Aeo x19) (by kernel_rfl) (by simp only[e19]<;>rfl)
theorem e32:x32=Aet:=by kernel_rfl
theorem e30(kn22:K_)(a:LB)(f:LI)(b m n h g o p:Int)(u:LX)(v k:LI):x30 kn22 a f b m n h g o p u v k=Aek (fun w y=>kn22 (t22 a f b m n h g o p u v k w y)) a f b m n h g o p u v k:=by kernel_rfl
theorem e29(kn22:K_)(a:LB)(f:LI)(b m n h g o p:Int)(u:LX)(v k:LI):x29 kn22 a f b m n h g o p u v k=Nv (fun w y=>kn22 (t22 a f b m n h g o p u v k w y)) a f b m n h g o p u v k:=Eq.trans (b:=Aen (x30 kn22 a f b m n h g o p u v k) a f b m n h g o p u v k) (by kernel_rfl) (by simp only[e30]<;>rfl)
theorem e28(kn22:K_)(a:LB)(f:LI)(b m n h g o p:Int)(u:LX)(v k:LI):x28 kn22 a f b m h g n o p u v k=Ad5 (fun w y=>kn22 (t22 a f b m n h g o p u v k w y)) a f b m h g n o p u v k:=Eq.trans (b:=Aep (x29 kn22 a f b m n h g o p u v k) a f b m h g n o p u v k) (by kernel_rfl) (by simp only[e29]<;>rfl)
theorem e27(kn22:K_)(a:LB)(f:LI)(b m n h g o p:Int)(u:LX)(v k:LI):x27 kn22 b a f m h g u n o p v k=Ul (fun w y=>kn22 (t22 a f b m n h g o p u v k w y)) b a f m h g u n o p v k:=Eq.trans (b:=Aeu (x29 kn22 a f b m n h g o p u v k) (x28 kn22 a f b m h g n o p u v k) b a f m h g u n o p v k) (by kernel_rfl) (by simp only[e29,e28]<;>rfl)
theorem i22(a:LB)(f:LI)(b m n h g o p:Int)(u:LX)(v k:LI):∀(q:Nat) (w:Int) (y:LB),z22 q (t22 a f b m n h g o p u v k w y)=Kq a f b m n h g o p u v k q w y:=
 ind (fun _ _=>by kernel_rfl) fun q ih w y=>Eq.trans (b:=Un (x27 (z22 q) b a f m h g u n o p v k) x32 a f b m n h g o p u v k w y) (by kernel_rfl) (by simp only[e27,e32,ih]<;>rfl)
theorem e22:x22=Aoa:=by funext a f b m n h g o p u v k w y;exact Eq.trans (by kernel_rfl) ((i22 a f b m n h g o p u v k Cf w y).trans (by rw[Ar];rfl))
theorem e18:x18=Aec:=Eq.trans (b:=Aes x22) (by kernel_rfl) (by simp only[e22]<;>rfl)
noncomputable def F:=u3 Fk
theorem rn x:H.u P_ x=F x:=Eq.trans (b:=u3 (Xv x17 x18) x) (by kernel_rfl) (by simp only[e17,e18]<;>rfl)
noncomputable def c:Con:=⟨H.p,H.r,F⟩
theorem ok:ConOk P_ gl 11 c:=cr H func11 (.cons F10.ok (.cons F14.ok (.cons F38.ok (.cons F41.ok (.cons F45.ok (.cons F46.ok (.cons F88.ok .nil))))))) (AnsOk.cons ent40 (AnsOk.cons ent89 AnsOk.nil)) rn
end F11
namespace F18
noncomputable def H:Hd:=⟨[Si,Si,Si],[Si,Si,Si], .d,⟨[(49,F49.c),(50,F50.c)],gl,false⟩,[],f18⟩
noncomputable def F:=u3 Lm
theorem rn x:H.u P_ x=F x:=by kernel_rfl
noncomputable def c:Con:=⟨H.p,H.r,F⟩
theorem ok:ConOk P_ gl 18 c:=co H func18 (.cons F49.ok (.cons F50.ok .nil)) rn
end F18
namespace F22
abbrev R_:=Bool
noncomputable def H:Hd:=⟨[Sl,Sl],[Sz],(.seq .d (.seq .d (.cut [] [] (.seq .d (.blk (.loop [0,1,5] [] .d))) .d))),⟨[],gl,false⟩,[],f22⟩
def t4(a b:LI)(f:Int):S:=⟨[(0,vl a),(1,vl b),(5,vi f)],[],[]⟩
def z4:Nat→S→Option R_:=H.i P_ [r,r,l,r,d]
def x6:Option R_:=H.e P_ [r,r,r] ⟨[],[],[]⟩
def x4(a b:LI)(f:Int):Option R_:=H.e P_ [r,r,l,r,d] (t4 a b f)
theorem e6:x6=Ts:=by kernel_rfl
theorem i4(a b:LI):∀(q:Nat) (f:Int),z4 q (t4 a b f)=Li a b q f:=
 ind (fun _=>by kernel_rfl) fun q ih f=>Eq.trans (b:=Uc x6 (fun f=>(z4 q) (t4 a b f)) a b f) (by kernel_rfl) (by simp only[e6,ih]<;>rfl)
theorem e4:x4=Ug:=by funext a b f;exact Eq.trans (by kernel_rfl) ((i4 a b Cf f).trans (by rw[Ar];rfl))
noncomputable def F:=u2 Aap
theorem rn x:H.u P_ x=F x:=Eq.trans (b:=u2 (Ty x4) x) (by kernel_rfl) (by simp only[e4]<;>rfl)
noncomputable def c:Con:=⟨H.p,H.r,F⟩
theorem ok:ConOk P_ gl 22 c:=co H func22 .nil rn
end F22
namespace F8
abbrev R_:=Bool
noncomputable def H:Hd:=⟨[],[Sz],(.seq .d (.seq .d (.seq .d (.seq .d (.seq .d (.seq .d (.cut [1,3,4,5,6,7,8,9,10] [⟨9,[], .ro (.int .u8)⟩] (.keep [1,3,4,5,6,7,8,9,10,36,37,38,39,40] true) .d))))))),⟨[(10,F10.c),(11,F11.c),(12,F12.c),(18,F18.c),(22,F22.c),(34,F34.c)],gl,false⟩,[(17, .d)],f8⟩
def x2(m b f:Int)(a:LB)(p u v w g n:Int)(h k:LB)(o:LI)(aa:LB)(ab:Int):Option R_:=H.e P_ [r,r,r,r,r,r,r] ⟨[(1, .own 0),(3, .ptr 1 []),(4,vi m),(5, .own 2),(6,vi b),(7, .own 3),(8,vi f),(9,vb aa),(10,vi ab)],[Ab 5 a, .box 29 (.agg [.agg [vi p,vi u,vi v,vi w,vi g],vi n, .own 4]),Ab 5 h,Ab 5 k,Ai 3 o],[]⟩
theorem e2:x2=Aai:=by kernel_rfl
noncomputable def F(x:Unit):=Nl
theorem rn x:H.u P_ x=F x:=Eq.trans (b:=Aax x2) (by kernel_rfl) (by simp only[e2]<;>rfl)
noncomputable def c:Con:=⟨H.p,H.r,F⟩
theorem ok:ConOk P_ gl 8 c:=cr H func8 (.cons F10.ok (.cons F11.ok (.cons F12.ok (.cons F18.ok (.cons F22.ok (.cons F34.ok .nil)))))) (AnsOk.cons ent17 AnsOk.nil) rn
end F8
namespace F9
noncomputable def H:Hd:=⟨[Sb],[Sz], .d,⟨[],gl,false⟩,[],f9⟩
noncomputable def F:=Yp
theorem rn x:H.u P_ x=F x:=by kernel_rfl
noncomputable def c:Con:=⟨H.p,H.r,F⟩
theorem ok:ConOk P_ gl 9 c:=co H func9 .nil rn
end F9
namespace F42
noncomputable def H:Hd:=⟨[Sb],[.agg [.agg [Si,Si,Si,Si,Si], .agg [Si,Si,Si,Si,Si],Ol 3],Si], .d,⟨[(35,Acb),(36,F36.c),(38,F38.c)],gl,false⟩,[],f42⟩
noncomputable def F:=Aq0
theorem rn x:H.u P_ x=F x:=by kernel_rfl
noncomputable def c:Con:=⟨H.p,H.r,F⟩
theorem ok:ConOk P_ gl 42 c:=co H func42 (.cons Apk (.cons F36.ok (.cons F38.ok .nil))) rn
end F42
namespace F13
abbrev R_:=(Int×Int×Int×LX×Int)
abbrev K_:=S→Option R_
noncomputable def H:Hd:=⟨[Sb,Ss],[.agg [Si,Si,Si,Ow 21],Si],(.seq .d (.seq .d (.seq .d (.seq .d (.cut [0,1,4,6] [] (.cut [0,1,4,6,8] [] (.keep [0,1,4,6,8,34,35,36] true) .d) (.cut [0,1,4,6,7,9] [⟨9,[], .own 3 (.int .i64)⟩] (.keep [0,1,4,6,7,9,41,42,43,44,45] true) (.seq .d (.seq .d (.seq .d (.seq .d (.seq .d (.cut [0,4,10,14] [] (.seq .d (.blk (.loop [0,4,6,10,11,12,14,75,76,77] [⟨10,[3], .own 21 (.int .i32)⟩] (.seq .d (.seq .d (.seq (.blk (.seq .d (.seq .d (.cut [0,4,6,10,11,12,14,16,17,18,75,76,77] [] .d .d)))) .d)))))) .d)))))))))))),⟨[(37,F37.c),(39,F39.c),(41,F41.c),(42,F42.c),(45,F45.c),(46,F46.c)],gl,false⟩,[(43, .d),(44,(.seq .d (.seq .d (.cut [0,6,7] [] .d (.seq .d (.seq .d (.seq .d (.cut [6] [] (.seq .d (.blk (.loop [0,6,60,61,62] [] .d))) .d))))))))],f13⟩
def t21(a:LB)(w:LI)(m b f h o p n g y ab:Int)(ac:LX)(k:LI)(aa ae:Int)(ad:LX):S:=⟨[(0,vb a),(4, .ptr 0 []),(6, .ptr 1 []),(10, .ptr 2 []),(11, .ptr 3 []),(12, .ptr 4 []),(14,vi aa),(75, .own 5),(76,vi (Ac w)),(77,vi ae)],[.box 38 (.agg [vi 0,vi 0,vi 0, .nils]), .box 88 (.agg [.agg [vi m,vi b,vi f,vi h,vi o], .agg [vi p,vi n,vi g,vi y,vi ab], .own 6]), .box 38 (.agg [vi b,vi f,vi h, .own 7]), .box 44 (.agg [vi b,vi f]), .box 92 (.val (.vec 16 (.int .i32)) ac),Ai 3 w,Ai 3 k,Aw 21 ad],[]⟩
def z21:Nat→S→Option R_:=H.i P_ [r,r,r,r,r,r,r,r,r,r,r,l,r,d]
def t17(v:LI)(a u:LB)(m b f h o p n g:Int)(k:LI)(ag af:Int):S:=⟨[(0, .ptr 0 []),(6, .own 1),(60, .own 1),(61,vi (Ac v)),(62,vi ag)],[.box 88 (.agg [.agg [vi m,vi b,vi f,vi h,vi o], .agg [vi p,vi n,vi g,vi (Ad (Ad g (Ax (4:Int) (Ac v))) (4:Int)),vi af], .own 3]),Ai 3 v, .box 38 (.agg [vi 0,vi 0,vi 0, .nils]),Ai 3 k],[[(0,vb a),(1,vs u),(4, .ptr 2 []),(6, .ptr 0 []),(42,vb a)]]⟩
def z17:Nat→S→Option R_:=H.i P_ [r,r,r,r,r,l,(call 1 44),r,r,r,r,r,r,l,r,d]
def x26(a:LB)(aa b f h:Int)(ad:LX):Option R_:=H.e P_ [r,r,r,r,r,r,r,r,r,r,r,r] ⟨[(0,vb a),(4, .ptr 0 []),(10, .ptr 1 []),(14,vi aa)],[.box 38 (.agg [vi 0,vi 0,vi 0, .nils]), .box 38 (.agg [vi b,vi f,vi h, .own 2]),Aw 21 ad],[]⟩
def x24(kn21:K_)(a:LB)(w:LI)(m b f h o p n g y ab:Int)(ac:LX)(k:LI)(aa aj ak ae:Int)(am ad:LX):Option R_:=H.e P_ [r,r,r,r,r,r,r,r,r,r,r,l,r,d,(lp kn21),r,r,l,d,r,r,r] ⟨[(0,vb a),(4, .ptr 0 []),(6, .ptr 1 []),(10, .ptr 2 []),(11, .ptr 3 []),(12, .ptr 4 []),(14,vi aa),(16,vi aj),(17, .own 5),(18,vi ak),(75, .own 6),(76,vi (Ac w)),(77,vi ae)],[.box 38 (.agg [vi 0,vi 0,vi 0, .nils]), .box 88 (.agg [.agg [vi m,vi b,vi f,vi h,vi o], .agg [vi p,vi n,vi g,vi y,vi ab], .own 7]), .box 38 (.agg [vi b,vi f,vi h, .own 8]), .box 44 (.agg [vi b,vi f]), .box 92 (.val (.vec 16 (.int .i32)) ac),Aw 21 am,Ai 3 w,Ai 3 k,Aw 21 ad],[]⟩
def x21(a:LB)(w:LI)(m b f h o p n g y ab:Int)(ac:LX)(k:LI)(aa ae:Int)(ad:LX):Option R_:=H.e P_ [r,r,r,r,r,r,r,r,r,r,r,l,r,d] (t21 a w m b f h o p n g y ab ac k aa ae ad)
def x20(a u:LB)(m b f h o p n g:Int)(k:LI)(an y ab:Int)(w:LI):Option R_:=H.e P_ [r,r,r,r,r,r] ⟨[(0,vb a),(1,vs u),(4, .ptr 0 []),(6, .ptr 1 []),(7,vi an),(9, .own 2)],[.box 38 (.agg [vi 0,vi 0,vi 0, .nils]), .box 88 (.agg [.agg [vi m,vi b,vi f,vi h,vi o], .agg [vi p,vi n,vi g,vi y,vi ab], .own 3]),Ai 3 w,Ai 3 k],[]⟩
def x19(a u:LB)(v:LI)(m b f h o p n g af:Int)(k:LI):Option R_:=H.e P_ [r,r,r,r,r,l,(call 1 44),r,r,r,r,r,r,r] ⟨[(6, .own 0)],[Ai 3 v, .box 38 (.agg [vi 0,vi 0,vi 0, .nils]), .box 88 (.agg [.agg [vi m,vi b,vi f,vi h,vi o], .agg [vi p,vi n,vi g,vi (Ad (Ad g (Ax (4:Int) (Ac v))) (4:Int)),vi af], .own 3]),Ai 3 k],[[(0,vb a),(1,vs u),(4, .ptr 1 []),(6, .ptr 2 []),(42,vb a)]]⟩
def x17(v:LI)(a u:LB)(m b f h o p n g:Int)(k:LI)(ag af:Int):Option R_:=H.e P_ [r,r,r,r,r,l,(call 1 44),r,r,r,r,r,r,l,r,d] (t17 v a u m b f h o p n g k ag af)
def x16(al:Int)(a u:LB)(m b f h o p n g ah ai:Int)(v k:LI):Option R_:=H.e P_ [r,r,r,r,r,l,(call 1 44),r,r,r] ⟨[(0, .ptr 0 []),(6, .own 1),(7,vi al)],[.box 88 (.agg [.agg [vi m,vi b,vi f,vi h,vi o], .agg [vi p,vi n,vi g,vi ah,vi ai], .own 3]),Ai 3 v, .box 38 (.agg [vi 0,vi 0,vi 0, .nils]),Ai 3 k],[[(0,vb a),(1,vs u),(4, .ptr 2 []),(6, .ptr 0 []),(42,vb a)]]⟩
def x15(a u:LB)(m b f h o p n g ah ai:Int)(k:LI):Option R_:=H.e P_ [r,r,r,r,r] ⟨[(0,vb a),(1,vs u),(4, .ptr 0 []),(6, .ptr 1 [])],[.box 38 (.agg [vi 0,vi 0,vi 0, .nils]), .box 88 (.agg [.agg [vi m,vi b,vi f,vi h,vi o], .agg [vi p,vi n,vi g,vi ah,vi ai], .own 2]),Ai 3 k],[]⟩
def x14(a u:LB)(m b f h o p n g ah ai:Int)(k:LI)(ao:Int):Option R_:=H.e P_ [r,r,r,r,l,r] ⟨[(0,vb a),(1,vs u),(4, .ptr 0 []),(6, .ptr 1 []),(8,vi ao)],[.box 38 (.agg [vi 0,vi 0,vi 0, .nils]), .box 88 (.agg [.agg [vi m,vi b,vi f,vi h,vi o], .agg [vi p,vi n,vi g,vi ah,vi ai], .own 2]),Ai 3 k],[]⟩
theorem e26:x26=Ah4:=by kernel_rfl
theorem e24(kn21:K_)(a:LB)(w:LI)(m b f h o p n g y ab:Int)(ac:LX)(k:LI):x24 kn21 a w m b f h o p n g y ab ac k=Agd (fun aa ae ad=>kn21 (t21 a w m b f h o p n g y ab ac k aa ae ad)) a w m b f h o p n g y ab ac k:=by kernel_rfl
theorem i21(a:LB)(w:LI)(m b f h o p n g y ab:Int)(ac:LX)(k:LI):∀(q:Nat) (aa ae:Int) (ad:LX),z21 q (t21 a w m b f h o p n g y ab ac k aa ae ad)=Mq a w m b f h o p n g y ab ac k q aa ae ad:=
 ind (fun _ _ _=>by kernel_rfl) fun q ih aa ae ad=>Eq.trans (b:=Za (x24 (z21 q) a w m b f h o p n g y ab ac k) x26 a w m b f h o p n g y ab ac k aa ae ad) (by kernel_rfl) (by simp only[e24,e26,ih]<;>rfl)
theorem e21:x21=Arp:=by funext a w m b f h o p n g y ab ac k aa ae ad;exact Eq.trans (by kernel_rfl) ((i21 a w m b f h o p n g y ab ac k Cf aa ae ad).trans (by rw[Ar];rfl))
theorem e20:x20=Js:=Eq.trans (b:=Ya x21) (by kernel_rfl) (by simp only[e21]<;>rfl)
theorem e19:x19=Zg:=Eq.trans (b:=Ag2 x20) (by kernel_rfl) (by simp only[e20]<;>rfl)
theorem i17(v:LI)(a u:LB)(m b f h o p n g:Int)(k:LI):∀(q:Nat) (ag af:Int),z17 q (t17 v a u m b f h o p n g k ag af)=Mh v a u m b f h o p n g k q ag af:=
 ind (fun _ _=>by kernel_rfl) fun q ih ag af=>Eq.trans (b:=Yi x19 (fun ag af=>(z17 q) (t17 v a u m b f h o p n g k ag af)) v a u m b f h o p n g k ag af) (by kernel_rfl) (by simp only[e19,ih]<;>rfl)
theorem e17:x17=Ahd:=by funext v a u m b f h o p n g k ag af;exact Eq.trans (by kernel_rfl) ((i17 v a u m b f h o p n g k Cf ag af).trans (by rw[Ar];rfl))
theorem e16:x16=Xc:=Eq.trans (b:=Zr x20 x17) (by kernel_rfl) (by simp only[e20,e17]<;>rfl)
theorem e15:x15=Qg:=Eq.trans (b:=Ag4 x20 x16) (by kernel_rfl) (by simp only[e20,e16]<;>rfl)
theorem e14:x14=Lz:=Eq.trans (b:=Xa x15) (by kernel_rfl) (by simp only[e15]<;>rfl)
noncomputable def F:=u2 Nf
theorem rn x:H.u P_ x=F x:=Eq.trans (b:=u2 (Ajz x14) x) (by kernel_rfl) (by simp only[e14]<;>rfl)
noncomputable def c:Con:=⟨H.p,H.r,F⟩
theorem ok:ConOk P_ gl 13 c:=cr H func13 (.cons F37.ok (.cons F39.ok (.cons F41.ok (.cons F42.ok (.cons F45.ok (.cons F46.ok .nil)))))) (AnsOk.cons ent43 (AnsOk.cons ent44 AnsOk.nil)) rn
end F13
namespace F15
noncomputable def H:Hd:=⟨[.agg [Si,Si]],[Si], .d,⟨[],gl,false⟩,[],f15⟩
noncomputable def F:=u2 Sp
theorem rn x:H.u P_ x=F x:=by kernel_rfl
noncomputable def c:Con:=⟨H.p,H.r,F⟩
theorem ok:ConOk P_ gl 15 c:=co H func15 .nil rn
end F15
namespace F48
noncomputable def H:Hd:=⟨[Si],[Si], .d,⟨[],gl,false⟩,[],f48⟩
noncomputable def F:=Kr
theorem rn x:H.u P_ x=F x:=by kernel_rfl
noncomputable def c:Con:=⟨H.p,H.r,F⟩
theorem ok:ConOk P_ gl 48 c:=co H func48 .nil rn
end F48
namespace F16
abbrev R_:=LI
noncomputable def H:Hd:=⟨[Si,Si],[Ol 3],(.seq .d (.seq .d (.cut [5] [] (.seq .d (.blk (.loop [0,5,6] [⟨5,[], .own 3 (.int .i64)⟩] .d))) .d))),⟨[(48,F48.c)],gl,false⟩,[],f16⟩
def t4(b f:Int)(a:LI):S:=⟨[(0,vi b),(5, .own 0),(6,vi f)],[Ai 3 a],[]⟩
def z4:Nat→S→Option R_:=H.i P_ [r,r,l,r,d]
def x6(a:LI):Option R_:=H.e P_ [r,r,r] ⟨[(5, .own 0)],[Ai 3 a],[]⟩
def x4(b f:Int)(a:LI):Option R_:=H.e P_ [r,r,l,r,d] (t4 b f a)
theorem e6:x6=Gs:=by kernel_rfl
theorem i4(b:Int):∀(q:Nat) (f:Int) (a:LI),z4 q (t4 b f a)=Cm b q f a:=
 ind (fun _ _=>by kernel_rfl) fun q ih f a=>Eq.trans (b:=Et x6 (fun f a=>(z4 q) (t4 b f a)) b f a) (by kernel_rfl) (by simp only[e6,ih]<;>rfl)
theorem e4:x4=Ot:=by funext b f a;exact Eq.trans (by kernel_rfl) ((i4 b Cf f a).trans (by rw[Ar];rfl))
noncomputable def F:=u2 Cg
theorem rn x:H.u P_ x=F x:=Eq.trans (b:=u2 (Pe x4) x) (by kernel_rfl) (by simp only[e4]<;>rfl)
noncomputable def c:Con:=⟨H.p,H.r,F⟩
theorem ok:ConOk P_ gl 16 c:=co H func16 (.cons F48.ok .nil) rn
end F16
namespace F17
noncomputable def H:Hd:=⟨[Sb,Ss,Si],[Sb,Si], .d,⟨[(10,F10.c),(11,F11.c),(18,F18.c)],gl,false⟩,[],f17⟩
noncomputable def F:=u3 Afv
theorem rn x:H.u P_ x=F x:=by kernel_rfl
noncomputable def c:Con:=⟨H.p,H.r,F⟩
theorem ok:ConOk P_ gl 17 c:=co H func17 (.cons F10.ok (.cons F11.ok (.cons F18.ok .nil))) rn
end F17
namespace F4
def Iu(j9:LB→LB→Int→Bool→LB→Int→LX→Int→Int→Int→Option Bool)(k m:LB)(u g:Int)(h:Bool)(p:Int)(b:LX)(a v n o:Int)(f:LB):Option Bool:=
(Fk k m u).bind fun(aa,ac)=>
both (
if((Bb ac 0)||(El v (Ac f)))then
if(true||(geq (Ac aa) 0))then
some false
else
j9 k m g h f p b a n o
else
(Bo f v (Ac f)).bind fun ab=>
if((aa !=ab)||(geq (Ac aa) 0))then
some false
else
j9 k m g h f p b a n o) [
if((Bb ac 0)||(El v (Ac f)))then
if(true||(geq (Ac aa) 0))then
some false
else
j9 k m g h f p b a n o
else
(Bo f v (Ac f)).bind fun ab=>
(fun ap:Option Bool=>
bo (
ap)) (
if((aa !=ab)||(geq (Ac aa) 0))then
some false
else
j9 k m g h f p b a n o)]
theorem Ab1: @Iu= @Ft:=by
  unfold Iu Ft
  try simp only[Avw,Amb,Ank]
  all_goals
    repeat (refine funext fun _=>?_)
    repeat' first
      |with_reducible rfl
      |with_reducible refine Qy ?_ ?_
      |with_reducible refine Qh ?_ ?_ ?_
      |with_reducible refine Qi ?_ ?_ ?_ ?_
      |((with_reducible refine Zu ?_ ?_);focus (intro h;first|(subst h;rfl)|(simp only[h];rfl)|(simp[Ew,Ac,h];done)))
      |with_reducible refine Aaa fun x=>?_
      |with_reducible refine Agm (fun _=>?_) (fun _=>?_)
      |(refine Jg (fun h=>by simp only[h,Xm,Gm,Fz,ite_self]) (fun x h=>?_);(try simp only[h,Gm]))
      |(refine Md (fun h=>?_) (fun h=>?_)<;>simp only[h,if_true,if_false,Bool.false_eq_true])
abbrev R_:=Bool
noncomputable def H:Hd:=⟨[Sb,Ss,Si,Si],[Sz],(.seq .d (.seq .d (.seq .d (.seq .d (.seq .d (.seq .d (.seq .d (.seq .d (.seq .d (.seq .d (.seq .d (.seq .d (.cut [0,1,3,9,10,14,18,19] [⟨14,[], .ro (.int .u8)⟩] (.seq .d (.cond (.seq .d (.seq .d (.cut [0,1,2,3,9,10,14,18,19,21] [] (.seq .d (.blk (.loop [0,1,2,3,9,10,14,18,19,20,21,22] [] .d))) (.seq .d (.seq (.mode false) .d))))) .d)) (.seq .d (.seq .d (.cut [3,9,10,19] [] .d .d)))))))))))))))),⟨[(8,F8.c),(9,F9.c),(10,F10.c),(11,F11.c),(13,F13.c),(14,F14.c),(15,F15.c),(16,F16.c),(17,F17.c),(18,F18.c)],gl,false⟩,[],f4⟩
def t6(k m:LB)(u g:Int)(h:Bool)(p:Int)(b:LX)(a n o:Int)(f:LB)(w:LI)(v y:Int):S:=⟨[(0,vb k),(1,vs m),(2,vi u),(3,vi g),(9,vt h),(10, .ptr 0 []),(14, .own 1),(18,vi p),(19,vi (Bq (Ac b) a)),(20, .own 2),(21,vi v),(22,vi y)],[.box 38 (.agg [vi a,vi n,vi o, .own 3]),Ab 5 f,Ai 3 w,Aw 21 b],[]⟩
def z6:Nat→S→Option R_:=H.i P_ [r,r,r,r,r,r,r,r,r,r,r,r,l,r,l,r,r,l,r,d]
def x10(g:Int)(h:Bool)(b:LX)(a n o:Int):Option R_:=H.e P_ [r,r,r,r,r,r,r,r,r,r,r,r,r,r,r,r] ⟨[(3,vi g),(9,vt h),(10, .ptr 0 []),(19,vi (Bq (Ac b) a))],[.box 38 (.agg [vi a,vi n,vi o, .own 1]),Aw 21 b],[]⟩
def x9(k m:LB)(g:Int)(h:Bool)(f:LB)(p:Int)(b:LX)(a n o:Int):Option R_:=H.e P_ [r,r,r,r,r,r,r,r,r,r,r,r,r] ⟨[(0,vb k),(1,vs m),(3,vi g),(9,vt h),(10, .ptr 0 []),(14,vb f),(18,vi p),(19,vi (Bq (Ac b) a))],[.box 38 (.agg [vi a,vi n,vi o, .own 1]),Aw 21 b],[]⟩
def x8(k m:LB)(u g:Int)(h:Bool)(p:Int)(b:LX)(a v n o:Int)(f:LB):Option R_:=H.e P_ [r,r,r,r,r,r,r,r,r,r,r,r,l,r,l,r,r,r] ⟨[(0,vb k),(1,vs m),(2,vi u),(3,vi g),(9,vt h),(10, .ptr 0 []),(14, .own 1),(18,vi p),(19,vi (Bq (Ac b) a)),(21,vi v)],[.box 38 (.agg [vi a,vi n,vi o, .own 2]),Ab 5 f,Aw 21 b],[]⟩
def x6(k m:LB)(u g:Int)(h:Bool)(p:Int)(b:LX)(a n o:Int)(f:LB)(w:LI)(v y:Int):Option R_:=H.e P_ [r,r,r,r,r,r,r,r,r,r,r,r,l,r,l,r,r,l,r,d] (t6 k m u g h p b a n o f w v y)
theorem e10:x10=Iq:=by kernel_rfl
theorem e9:x9=Ec:=Eq.trans (b:=Jk x10) (by kernel_rfl) (by simp only[e10]<;>rfl)
theorem e8:x8=Fy:=Eq.trans (b:=Iu x9) (by kernel_rfl) (by rw[Ab1];simp only[e9]<;>rfl)
theorem i6(k m:LB)(u g:Int)(h:Bool)(p:Int)(b:LX)(a n o:Int)(f:LB)(w:LI):∀(q:Nat) (v y:Int),z6 q (t6 k m u g h p b a n o f w v y)=Cq k m u g h p b a n o f w q v y:=
 ind (fun _ _=>by kernel_rfl) fun q ih v y=>Eq.trans (b:=Ga x8 (fun v y=>(z6 q) (t6 k m u g h p b a n o f w v y)) k m u g h p b a n o f w v y) (by kernel_rfl) (by simp only[e8,ih]<;>rfl)
theorem e6:x6=Jt:=by funext k m u g h p b a n o f w v y;exact Eq.trans (by kernel_rfl) ((i6 k m u g h p b a n o f w Cf v y).trans (by rw[Ar];rfl))
noncomputable def F:=u4 Hy
theorem rn x:H.u P_ x=F x:=Eq.trans (b:=u4 (Jj x6 x9) x) (by kernel_rfl) (by simp only[e6,e9]<;>rfl)
noncomputable def c:Con:=⟨H.p,H.r,F⟩
theorem ok:ConOk P_ gl 4 c:=co H func4 (.cons F8.ok (.cons F9.ok (.cons F10.ok (.cons F11.ok (.cons F13.ok (.cons F14.ok (.cons F15.ok (.cons F16.ok (.cons F17.ok (.cons F18.ok .nil)))))))))) rn
end F4
end
end Go.Proofs.YtkkcakakemjdeaaGreatDoor
