/- A part of the proof of a statement of this seat (see the text that ends in Proof): DfOk. No conditions of its own. -/
import Derived.Test.YtidigmkmfmopgaaGreatDoorDfBB
import Derived.Test.YtidigmkmfmopgaaGreatDoorDfPA
import Derived.Test.YtidigmkmfmopgaaGreatDoorDfHA
import Derived.Test.YtidigmkmfmopgaaGreatDoorProg
import Derived.KernelRfl
set_option linter.unusedVariables false
set_option linter.unusedSimpArgs false
set_option maxRecDepth 10000
namespace Go.Proofs.YtidigmkmfmopgaaGreatDoor
open Go Go.Lv Go.Pl Go.Rx Go.Rx.PS
noncomputable section
def g0:List Value:=[.int .i64 2, .int .i64 2, .int .i64 2, .int .i64 4, .int .i64 4]
def g3:List Value:=[.int .u8 0, .int .u8 1, .int .u8 56, .int .u8 2, .int .u8 57, .int .u8 49, .int .u8 28, .int .u8 3, .int .u8 61, .int .u8 58, .int .u8 42, .int .u8 50, .int .u8 38, .int .u8 29, .int .u8 17, .int .u8 4, .int .u8 62, .int .u8 47, .int .u8 59, .int .u8 36, .int .u8 45, .int .u8 43, .int .u8 51, .int .u8 22, .int .u8 53, .int .u8 39, .int .u8 33, .int .u8 30, .int .u8 24, .int .u8 18, .int .u8 12, .int .u8 5, .int .u8 63, .int .u8 55, .int .u8 48, .int .u8 27, .int .u8 60, .int .u8 41, .int .u8 37, .int .u8 16, .int .u8 46, .int .u8 35, .int .u8 44, .int .u8 21, .int .u8 52, .int .u8 32, .int .u8 23, .int .u8 11, .int .u8 54, .int .u8 26, .int .u8 40, .int .u8 15, .int .u8 34, .int .u8 20, .int .u8 31, .int .u8 10, .int .u8 25, .int .u8 14, .int .u8 19, .int .u8 9, .int .u8 13, .int .u8 8, .int .u8 7, .int .u8 6]
def gl:List (Nat×List Value):=[(0,g0),(3,g3)]
theorem mixed:Tryz.prog.follows .mixedOrders=true:=by kernel_rfl
noncomputable abbrev P_:=Tryz.prog
theorem cr(H:Hd){f:Nat}{F:LTy (shL H.p)→Option (LTy (shL H.r))}(hf:P_.funcs[f]? =some H.f)(hT:Aeg P_ H.T)(hA:∀p∈H.s,Ent P_ p.1)(h:∀x,H.u P_ x=F x)(hb:okH H=true:=by kernel_rfl):ConOk P_ H.T.gl f ⟨H.p,H.r,F⟩:=Hd.con mixed H hf hT hA hb h
theorem co(H:Hd){f:Nat}{F:LTy (shL H.p)→Option (LTy (shL H.r))}(hf:P_.funcs[f]? =some H.f)(hT:Aeg P_ H.T)(h:∀x,H.u P_ x=F x)(hb:(H.s.isEmpty&&okH H)=true:=by kernel_rfl):ConOk P_ H.T.gl f ⟨H.p,H.r,F⟩:=Hd.Cms mixed H hf hT hb h
theorem ent43:Ent Tryz.prog 43:=Ent.mk Tryz.func43 (by kernel_rfl) rfl
theorem ent46:Ent Tryz.prog 46:=Ent.mk Tryz.func46 (by kernel_rfl) rfl
theorem ent51:Ent Tryz.prog 51:=Ent.mk Tryz.func51 (by kernel_rfl) rfl
theorem ent57:Ent Tryz.prog 57:=Ent.mk Tryz.func57 (by kernel_rfl) rfl
theorem ent76:Ent Tryz.prog 76:=Ent.mk Tryz.func76 (by kernel_rfl) rfl
theorem ent94:Ent Tryz.prog 94:=Ent.mk Tryz.func94 (by kernel_rfl) rfl
theorem ent103:Ent Tryz.prog 103:=Ent.mk Tryz.func103 (by kernel_rfl) rfl
theorem ent105:Ent Tryz.prog 105:=Ent.mk Tryz.func105 (by kernel_rfl) rfl
theorem ent115:Ent Tryz.prog 115:=Ent.mk Tryz.func115 (by kernel_rfl) rfl
theorem ent128:Ent Tryz.prog 128:=Ent.mk Tryz.func128 (by kernel_rfl) rfl
theorem ent138:Ent Tryz.prog 138:=Ent.mk Tryz.func138 (by kernel_rfl) rfl
theorem ent166:Ent Tryz.prog 166:=Ent.mk Tryz.func166 (by kernel_rfl) rfl
theorem ent167:Ent Tryz.prog 167:=Ent.mk Tryz.func167 (by kernel_rfl) rfl
theorem ent168:Ent Tryz.prog 168:=Ent.mk Tryz.func168 (by kernel_rfl) rfl
theorem ent181:Ent Tryz.prog 181:=Ent.mk Tryz.func181 (by kernel_rfl) rfl
theorem ent182:Ent Tryz.prog 182:=Ent.mk Tryz.func182 (by kernel_rfl) rfl
theorem ent185:Ent Tryz.prog 185:=Ent.mk Tryz.func185 (by kernel_rfl) rfl
theorem ent191:Ent Tryz.prog 191:=Ent.mk Tryz.func191 (by kernel_rfl) rfl
theorem ent194:Ent Tryz.prog 194:=Ent.mk Tryz.func194 (by kernel_rfl) rfl
theorem ent196:Ent Tryz.prog 196:=Ent.mk Tryz.func196 (by kernel_rfl) rfl
theorem ent199:Ent Tryz.prog 199:=Ent.mk Tryz.func199 (by kernel_rfl) rfl
theorem ent202:Ent Tryz.prog 202:=Ent.mk Tryz.func202 (by kernel_rfl) rfl
theorem ent213:Ent Tryz.prog 213:=Ent.mk Tryz.func213 (by kernel_rfl) rfl
abbrev u2{A B R:Type}(f:A→B→R)(x:A×B):=f x.1 x.2
abbrev u3{A B C R:Type}(f:A→B→C→R):=u2 fun a=>u2 (f a)
abbrev u4{A B C D R:Type}(f:A→B→C→D→R):=u2 fun a=>u3 (f a)
abbrev u5{A B C D E R:Type}(f:A→B→C→D→E→R):=u2 fun a=>u4 (f a)
abbrev u6{A B C D E F R:Type}(f:A→B→C→D→E→F→R):=u2 fun a=>u5 (f a)
abbrev u7{A B C D E F G R:Type}(f:A→B→C→D→E→F→G→R):=u2 fun a=>u6 (f a)
open Go.Proofs.Tryz
namespace F88
noncomputable def H:Hd:=⟨[.agg [Si,Si,Si,Sw]],[.agg [Si,Si]], .d,⟨[],gl,false⟩,[],f88⟩
noncomputable def F:=u4 Afm
theorem rn x:H.u P_ x=F x:=by kernel_rfl
noncomputable def c:Con:=⟨H.p,H.r,F⟩
theorem ok:ConOk P_ gl 88 c:=co H func88 .nil rn
end F88
namespace F113
abbrev R_:=(Int32×Int32×Int)
noncomputable def H:Hd:=⟨[Si],[Sx,Sx,Si],(.seq .d (.seq (.seq .d (.blk (.cut [0,7] [] .d .d))) .d)),⟨[],gl,false⟩,[],f113⟩
def x2(a:Int)(b:Bool):Option R_:=H.e P_ [r,l,r,d,r] ⟨[(0,vi a),(7,vt b)],[],[]⟩
theorem e2:x2=Amz:=by kernel_rfl
noncomputable def F:=Qt
theorem rn x:H.u P_ x=F x:=Eq.trans (b:=Ane x2 x) (by kernel_rfl) (by simp only[e2]<;>rfl)
noncomputable def c:Con:=⟨H.p,H.r,F⟩
theorem ok:ConOk P_ gl 113 c:=co H func113 .nil rn
end F113
namespace F139
noncomputable def H:Hd:=⟨[.agg [Si,Si]],[Si], .d,⟨[(113,F113.c)],gl,false⟩,[],f139⟩
noncomputable def F:=u2 Ff
theorem rn x:H.u P_ x=F x:=by kernel_rfl
noncomputable def c:Con:=⟨H.p,H.r,F⟩
theorem ok:ConOk P_ gl 139 c:=co H func139 (.cons F113.ok .nil) rn
end F139
namespace F118
noncomputable def H:Hd:=⟨[Si],[Si,Si], .d,⟨[],gl,false⟩,[],f118⟩
noncomputable def F:=Re
theorem rn x:H.u P_ x=F x:=by kernel_rfl
noncomputable def c:Con:=⟨H.p,H.r,F⟩
theorem ok:ConOk P_ gl 118 c:=co H func118 .nil rn
end F118
namespace F117
noncomputable def H:Hd:=⟨[Si,Si],[Si,Si], .d,⟨[(118,F118.c)],gl,false⟩,[],f117⟩
noncomputable def F:=u2 Gw
theorem rn x:H.u P_ x=F x:=by kernel_rfl
noncomputable def c:Con:=⟨H.p,H.r,F⟩
theorem ok:ConOk P_ gl 117 c:=co H func117 (.cons F118.ok .nil) rn
end F117
namespace F121
noncomputable def H:Hd:=⟨[.agg [Si,Si,Si,Sw],Si],[Si], .d,⟨[(88,F88.c),(117,F117.c),(139,F139.c)],gl,false⟩,[],f121⟩
noncomputable def F:=u5 Afp
theorem rn x:H.u P_ x=F x:=by kernel_rfl
noncomputable def c:Con:=⟨H.p,H.r,F⟩
theorem ok:ConOk P_ gl 121 c:=co H func121 (.cons F88.ok (.cons F117.ok (.cons F139.ok .nil))) rn
end F121
namespace F63
abbrev R_:=Int
noncomputable def H:Hd:=⟨[Si,Sw],[Si],(.seq .d (.seq .d (.seq .d (.seq .d (.cut [] [] (.seq .d (.blk (.loop [5,6,22,23,24] [] .d))) .d))))),⟨[(113,F113.c)],gl,false⟩,[],f63⟩
def t4(b f:Int32)(a:LX)(g:Int):S:=⟨[(5,vx b),(6,vx f),(22,vw a),(23,vi (Ac a)),(24,vi g)],[],[]⟩
def z4:Nat→S→Option R_:=H.i P_ [r,r,r,r,l,r,d]
def x6:Option R_:=H.e P_ [r,r,r,r,r] ⟨[],[],[]⟩
def x4(b f:Int32)(a:LX)(g:Int):Option R_:=H.e P_ [r,r,r,r,l,r,d] (t4 b f a g)
theorem e6:x6=Awg:=by kernel_rfl
theorem i4(b f:Int32)(a:LX):∀(q:Nat) (g:Int),z4 q (t4 b f a g)=Ps b f a q g:=
 ind (fun _=>by kernel_rfl) fun q ih g=>Eq.trans (b:=Ab1 x6 (fun g=>(z4 q) (t4 b f a g)) b f a g) (by kernel_rfl) (by simp only[e6,ih]<;>rfl)
theorem e4:x4=Aw4:=by funext b f a g;exact Eq.trans (by kernel_rfl) ((i4 b f a Cq g).trans (by rw[Aq];rfl))
noncomputable def F:=u2 Vn
theorem rn x:H.u P_ x=F x:=Eq.trans (b:=u2 (Amn x4) x) (by kernel_rfl) (by simp only[e4]<;>rfl)
noncomputable def c:Con:=⟨H.p,H.r,F⟩
theorem ok:ConOk P_ gl 63 c:=co H func63 (.cons F113.ok .nil) rn
end F63
namespace F84
noncomputable def H:Hd:=⟨[.agg [Si,Si,Si,Sw]],[Si], .d,⟨[(63,F63.c),(121,F121.c)],gl,false⟩,[],f84⟩
noncomputable def F:=u4 Dh
theorem rn x:H.u P_ x=F x:=by kernel_rfl
noncomputable def c:Con:=⟨H.p,H.r,F⟩
theorem ok:ConOk P_ gl 84 c:=co H func84 (.cons F63.ok (.cons F121.ok .nil)) rn
end F84
namespace F38
def Ai3(j2:LB→Int→Int→Int→LX→Option (Int×Int×Int×Int×Int×Int))(a b f:Int)(g:LX)(h:LB):Option (Int×Int×Int×Int×Int×Int):=
(Dh a b f g).bind fun k=>
if(Ay k 0)then
some (0,0,0,0,0,k)
else
if(Fi (Ac h) 64)then
some (0,0,0,0,0,2)
else
(Hu (Ay a 0)).bind fun _=>
bo (
j2 h a b f g)
theorem Az0: @Ai3= @Ad7:=by
  unfold Ai3 Ad7
  simp only[Bc4,Atk,Asf]
abbrev R_:=(Int×Int×Int×Int×Int×Int)
noncomputable def H:Hd:=⟨[.agg [Si,Si,Si,Sw],Ss],[.agg [Si,Si,Si,Si,Si],Si],(.seq .d (.seq .d (.seq .d (.cut [1,4,7] [] .d .d)))),⟨[(84,F84.c)],gl,false⟩,[],f38⟩
def x2(h:LB)(a b f:Int)(g:LX):Option R_:=H.e P_ [r,r,r,r] ⟨[(1,vs h),(4, .ptr 0 []),(7, .ptr 1 [])],[.box 32 (.agg [vi 0,vi 0,vi 0,vi 0,vi 0]), .box 32 (.agg [vi 1,vi a,vi b,vi f,vi (Bt (Ac g) a)])],[]⟩
theorem e2:x2=Ant:=by kernel_rfl
noncomputable def F:=u5 Aou
theorem rn x:H.u P_ x=F x:=Eq.trans (b:=u5 (Ai3 x2) x) (by kernel_rfl) (by unfold F;rw[Az0];simp only[e2]<;>rfl)
noncomputable def c:Con:=⟨H.p,H.r,F⟩
theorem ok:ConOk P_ gl 38 c:=co H func38 (.cons F84.ok .nil) rn
end F38
namespace F154
abbrev R_:=(UInt64×Int)
abbrev K_:=S→Option R_
noncomputable def H:Hd:=⟨[Sq,Sb],[Sq,Si],(.seq .d (.seq .d (.cut [4,5] [] (.keep [0,1,4,5,9,10,11,12] true) .d))),⟨[],gl,false⟩,[(181,(.seq .d (.cut [1] [] (.seq .d (.blk (.loop [0,1,9,10,11] [] .d))) .d))),(182,(.seq .d (.seq .d (.cut [1] [] (.seq .d (.blk (.loop [1,5] [] (.seq .d (.seq .d (.cut [1,5] [] (.blk (.seq .d (.seq .d (.cut [1,2,3,5] [] (.seq .d (.blk (.loop [1,2,3,5,11] [] .d))) .d)))) .d)))))) .d))))],f154⟩
def t27(a:LB)(b:UInt64)(f:LQ)(h:UInt64)(m:Int):S:=⟨[(0, .ptr 0 []),(1,vq h),(9,vb a),(10,vi (Ac a)),(11,vi m)],[.box 285 (.val (.vec 256 (.int .u64)) f)],[[(0,vq b),(1,vb a),(4,vq 0),(5,vi 0),(9, .ptr 0 []),(10,vq b),(11,vb a)]]⟩
def z27:Nat→S→Option R_:=H.i P_ [r,r,l,(call 3 181),r,l,r,d]
def t21(b:UInt64)(a:LB)(g:Int)(f:LQ)(k:UInt64)(n:Int):S:=⟨[(1, .ptr 0 []),(2,vi g),(3,vq k),(5,vi g),(11,vi n)],[.box 285 (.val (.vec 256 (.int .u64)) f)],[[(0,vq b),(1,vb a),(4,vq 0),(5,vi 0)]]⟩
def z21(kn16:K_):Nat→S→Option R_:=H.i P_ [r,r,l,(call 0 182),r,r,l,r,d,(lp kn16),r,r,l,d,r,r,l,r,d]
def t16(b:UInt64)(a:LB)(g:Int)(f:LQ):S:=⟨[(1, .ptr 0 []),(5,vi g)],[.box 285 (.val (.vec 256 (.int .u64)) f)],[[(0,vq b),(1,vb a),(4,vq 0),(5,vi 0)]]⟩
def z16:Nat→S→Option R_:=H.i P_ [r,r,l,(call 0 182),r,r,l,r,d]
def x30(h:UInt64):Option R_:=H.e P_ [r,r,r] ⟨[(4,vq h),(5,vi 0)],[],[]⟩
def x29(h b:UInt64)(a:LB)(f:LQ):Option R_:=H.e P_ [r,r,l,(call 3 181),r,r] ⟨[(1,vq h)],[.box 285 (.val (.vec 256 (.int .u64)) f)],[[(0,vq b),(1,vb a),(4,vq 0),(5,vi 0),(9, .ptr 0 []),(10,vq b),(11,vb a)]]⟩
def x27(a:LB)(b:UInt64)(f:LQ)(h:UInt64)(m:Int):Option R_:=H.e P_ [r,r,l,(call 3 181),r,l,r,d] (t27 a b f h m)
def x26(b:UInt64)(a:LB)(f:LQ):Option R_:=H.e P_ [r,r,l,(call 0 182),r,r,r] ⟨[(1, .ptr 0 [])],[.box 285 (.val (.vec 256 (.int .u64)) f)],[[(0,vq b),(1,vb a),(4,vq 0),(5,vi 0)]]⟩
def x24(kn16:K_)(b:UInt64)(a:LB)(g:Int)(o:LQ):Option R_:=H.e P_ [r,r,l,(call 0 182),r,r,l,r,d,(lp kn16),r,r,r] ⟨[(1, .ptr 0 []),(5,vi g)],[.box 285 (.val (.vec 256 (.int .u64)) o)],[[(0,vq b),(1,vb a),(4,vq 0),(5,vi 0)]]⟩
def x23(kn16:K_)(b:UInt64)(a:LB)(g:Int)(k:UInt64)(f:LQ):Option R_:=H.e P_ [r,r,l,(call 0 182),r,r,l,r,d,(lp kn16),r,r,l,d,r,r,r] ⟨[(1, .ptr 0 []),(2,vi g),(3,vq k),(5,vi g)],[.box 285 (.val (.vec 256 (.int .u64)) f)],[[(0,vq b),(1,vb a),(4,vq 0),(5,vi 0)]]⟩
def x21(kn16:K_)(b:UInt64)(a:LB)(g:Int)(f:LQ)(k:UInt64)(n:Int):Option R_:=H.e P_ [r,r,l,(call 0 182),r,r,l,r,d,(lp kn16),r,r,l,d,r,r,l,r,d] (t21 b a g f k n)
def x16(b:UInt64)(a:LB)(g:Int)(f:LQ):Option R_:=H.e P_ [r,r,l,(call 0 182),r,r,l,r,d] (t16 b a g f)
theorem e30:x30=Akv:=by kernel_rfl
theorem e29:x29=Ak6:=Eq.trans (b:=Am4 x30) (by kernel_rfl) (by simp only[e30]<;>rfl)
theorem i27(a:LB)(b:UInt64)(f:LQ):∀(q:Nat) (h:UInt64) (m:Int),z27 q (t27 a b f h m)=Pu a b f q h m:=
 ind (fun _ _=>by kernel_rfl) fun q ih h m=>Eq.trans (b:=Abw x29 (fun h m=>(z27 q) (t27 a b f h m)) a b f h m) (by kernel_rfl) (by simp only[e29,ih]<;>rfl)
theorem e27:x27=Ama:=by funext a b f h m;exact Eq.trans (by kernel_rfl) ((i27 a b f Cq h m).trans (by rw[Aq];rfl))
theorem e26:x26=Aa8:=Eq.trans (b:=Amd x27) (by kernel_rfl) (by simp only[e27]<;>rfl)
theorem e24(kn16:K_)(b:UInt64)(a:LB):x24 kn16 b a=Ak5 (fun g f=>kn16 (t16 b a g f)) b a:=by kernel_rfl
theorem e23(kn16:K_)(b:UInt64)(a:LB):x23 kn16 b a=Adl (fun g f=>kn16 (t16 b a g f)) b a:=Eq.trans (b:=Al3 (x24 kn16 b a) b a) (by kernel_rfl) (by simp only[e24]<;>rfl)
theorem i21(kn16:K_)(b:UInt64)(a:LB)(g:Int)(f:LQ):∀(q:Nat) (k:UInt64) (n:Int),z21 kn16 q (t21 b a g f k n)=Py (fun g f=>kn16 (t16 b a g f)) b a g f q k n:=
 ind (fun _ _=>by kernel_rfl) fun q ih k n=>Eq.trans (b:=Abm (x23 kn16 b a) (fun k n=>(z21 kn16 q) (t21 b a g f k n)) b a g f k n) (by kernel_rfl) (by simp only[e23,ih]<;>rfl)
theorem e21(kn16:K_)(b:UInt64)(a:LB):x21 kn16 b a=Ank (fun g f=>kn16 (t16 b a g f)) b a:=by funext g f k n;exact Eq.trans (by kernel_rfl) ((i21 kn16 b a g f Cq k n).trans (by rw[Aq];rfl))
theorem i16(b:UInt64)(a:LB):∀(q:Nat) (g:Int) (f:LQ),z16 q (t16 b a g f)=Mo b a q g f:=
 ind (fun _ _=>by kernel_rfl) fun q ih g f=>Eq.trans (b:=Adf (x21 (z16 q) b a) x26 b a g f) (by kernel_rfl) (by simp only[e21,e26,ih]<;>rfl)
theorem e16:x16=Ann:=by funext b a g f;exact Eq.trans (by kernel_rfl) ((i16 b a Cq g f).trans (by rw[Aq];rfl))
noncomputable def F:=u2 At4
theorem rn x:H.u P_ x=F x:=Eq.trans (b:=u2 (Ap0 x16) x) (by kernel_rfl) (by simp only[e16]<;>rfl)
noncomputable def c:Con:=⟨H.p,H.r,F⟩
theorem ok:ConOk P_ gl 154 c:=cr H func154 .nil (AnsOk.cons ent181 (AnsOk.cons ent182 AnsOk.nil)) rn
end F154
namespace F122
noncomputable def H:Hd:=⟨[Sb],[Sq,Si], .d,⟨[(154,F154.c)],gl,false⟩,[],f122⟩
noncomputable def F:=Aqk
theorem rn x:H.u P_ x=F x:=by kernel_rfl
noncomputable def c:Con:=⟨H.p,H.r,F⟩
theorem ok:ConOk P_ gl 122 c:=co H func122 (.cons F154.ok .nil) rn
end F122
namespace F123
abbrev R_:=LX
noncomputable def H:Hd:=⟨[Sq],[.lf (.vec 16 (.int .i32)) none],(.seq .d (.seq .d (.cut [2,3] [] (.seq .d (.blk (.loop [0,2,3,5] [] .d))) .d))),⟨[],gl,false⟩,[],f123⟩
def t4(f:UInt64)(b:Int)(a:LX):S:=⟨[(0,vq f),(2, .ptr 0 []),(3, .ptr 1 []),(5,vi b)],[.box 136 (.val (.vec 16 (.int .i32)) (List.replicate 16 (0:Int32))), .box 136 (.val (.vec 16 (.int .i32)) a)],[]⟩
def z4:Nat→S→Option R_:=H.i P_ [r,r,l,r,d]
def x6(a:LX):Option R_:=H.e P_ [r,r,r] ⟨[(2, .ptr 0 []),(3, .ptr 1 [])],[.box 136 (.val (.vec 16 (.int .i32)) (List.replicate 16 (0:Int32))), .box 136 (.val (.vec 16 (.int .i32)) a)],[]⟩
def x4(f:UInt64)(b:Int)(a:LX):Option R_:=H.e P_ [r,r,l,r,d] (t4 f b a)
theorem e6:x6=Bj1:=by kernel_rfl
theorem i4(f:UInt64):∀(q:Nat) (b:Int) (a:LX),z4 q (t4 f b a)=Afu f q b a:=
 ind (fun _ _=>by kernel_rfl) fun q ih b a=>Eq.trans (b:=Atj x6 (fun b a=>(z4 q) (t4 f b a)) f b a) (by kernel_rfl) (by simp only[e6,ih]<;>rfl)
theorem e4:x4=Bko:=by funext f b a;exact Eq.trans (by kernel_rfl) ((i4 f Cq b a).trans (by rw[Aq];rfl))
noncomputable def F:=Bn7
theorem rn x:H.u P_ x=F x:=Eq.trans (b:=Bi4 x4 x) (by kernel_rfl) (by simp only[e4]<;>rfl)
noncomputable def c:Con:=⟨H.p,H.r,F⟩
theorem ok:ConOk P_ gl 123 c:=co H func123 .nil rn
end F123
namespace F85
noncomputable def H:Hd:=⟨[Ss],[.lf (.vec 16 (.int .i32)) none,Si], .d,⟨[(122,F122.c),(123,F123.c)],gl,false⟩,[],f85⟩
noncomputable def F:=Aai
theorem rn x:H.u P_ x=F x:=by kernel_rfl
noncomputable def c:Con:=⟨H.p,H.r,F⟩
theorem ok:ConOk P_ gl 85 c:=co H func85 (.cons F122.ok (.cons F123.ok .nil)) rn
end F85
namespace F198
noncomputable def H:Hd:=⟨[Sq,Sq],[Sq,Sq], .d,⟨[],gl,false⟩,[],f198⟩
noncomputable def F:=u2 Ais
theorem rn x:H.u P_ x=F x:=by kernel_rfl
noncomputable def c:Con:=⟨H.p,H.r,F⟩
theorem ok:ConOk P_ gl 198 c:=co H func198 .nil rn
end F198
namespace F171
noncomputable def H:Hd:=⟨[Sq,Sq],[Sq,Sq], .d,⟨[(198,F198.c)],gl,false⟩,[],f171⟩
noncomputable def F:=u2 Aga
theorem rn x:H.u P_ x=F x:=by kernel_rfl
noncomputable def c:Con:=⟨H.p,H.r,F⟩
theorem ok:ConOk P_ gl 171 c:=co H func171 (.cons F198.ok .nil) rn
end F171
namespace F136
def Np(j10:LI→Option (LI))(bk8:Int→LI→Option (LI))(b:Int)(a:LI):Option (LI):=
if(Bn b (Ac a))then
both (
(vwI (Ac a) b (Ac a)).bind fun _=>
(vwI (Ac a) 0 b).bind fun _=>
bk8 (Ad b (Aku ((Ac a)-b) (Anw a 0 (b-(0:Int))).length)) (Tt a b ((Ac a)-b) (Anw a 0 (b-(0:Int))))) [
(vwI (Ac a) 0 b).bind fun _=>
(vwI (Ac a) b (Ac a)).bind fun _=>
bk8 (Ad b (Aku ((Ac a)-b) (Anw a 0 (b-(0:Int))).length)) (Tt a b ((Ac a)-b) (Anw a 0 (b-(0:Int))))]
else
j10 a
theorem Aji: @Np= @Fz:=by
  unfold Np Fz
  repeat (refine funext fun _=>?_)
  repeat' first
    |with_reducible rfl
    |with_reducible refine Vz ?_ ?_
    |with_reducible refine Vs ?_ ?_ ?_
    |with_reducible refine Vu ?_ ?_ ?_ ?_
    |((with_reducible refine Ac1 ?_ ?_);focus (intro h;first|(subst h;rfl)|(simp only[h];rfl)|(simp[Ek,Ac,h];done)))
    |with_reducible refine Acy fun x=>?_
    |with_reducible refine Anc (fun _=>?_) (fun _=>?_)
    |(refine Mc (fun h=>by simp only[h,Aby,Hx,Hh,ite_self]) (fun x h=>?_);(try simp only[h,Hx]))
    |(refine Pq (fun h=>?_) (fun h=>?_)<;>simp only[h,if_true,if_false,Bool.false_eq_true])
abbrev R_:=LI
noncomputable def H:Hd:=⟨[Sl,Si],[Ol 3],(.seq .d (.cut [0,1] [] .d (.seq .d (.cut [0,6] [] .d (.seq .d (.seq .d (.cut [7] [] (.blk (.loop [7,8] [] (.seq .d (.blk (.mode false))))) .d))))))),⟨[(171,F171.c)],gl,true⟩,[],f136⟩
def t8(b:Int)(a:LI):S:=⟨[(7, .own 0),(8,vi b)],[Ai 3 a],[]⟩
def z8:Nat→S→Option R_:=H.i P_ [r,r,r,r,r,r,l,d]
def x10(a:LI):Option R_:=H.e P_ [r,r,r,r,r,r,r] ⟨[(7, .own 0)],[Ai 3 a],[]⟩
def x8(b:Int)(a:LI):Option R_:=H.e P_ [r,r,r,r,r,r,l,d] (t8 b a)
def x7(f:LI)(g:UInt64):Option R_:=H.e P_ [r,r,r,r] ⟨[(0,vl f),(6,vq g)],[],[]⟩
def x6(f:LI)(h:Int):Option R_:=H.e P_ [r,r] ⟨[(0,vl f),(1,vi h)],[],[]⟩
theorem e10:x10=Hv:=by kernel_rfl
theorem i8:∀(q:Nat) (b:Int) (a:LI),z8 q (t8 b a)=Dw q b a:=
 ind (fun _ _=>by kernel_rfl) fun q ih b a=>Eq.trans (b:=Np x10 (fun b a=>(z8 q) (t8 b a)) b a) (by kernel_rfl) (by rw[Aji];simp only[e10,ih]<;>rfl)
theorem e8:x8=On:=by funext b a;exact Eq.trans (by kernel_rfl) ((i8 Cq b a).trans (by rw[Aq];rfl))
theorem e7:x7=Oq:=Eq.trans (b:=Ox x8) (by kernel_rfl) (by simp only[e8]<;>rfl)
theorem e6:x6=Oi:=Eq.trans (b:=Oy x7) (by kernel_rfl) (by simp only[e7]<;>rfl)
noncomputable def F:=u2 Mx
theorem rn x:H.u P_ x=F x:=Eq.trans (b:=u2 (Oz x6) x) (by kernel_rfl) (by simp only[e6]<;>rfl)
noncomputable def c:Con:=⟨H.p,H.r,F⟩
theorem ok:ConOk P_ gl 136 c:=co H func136 (.cons F171.ok .nil) rn
end F136
namespace F172
abbrev R_:=LI
noncomputable def H:Hd:=⟨[.lf (.list (.list (.int .i64))) none],[Ol 3],(.seq .d (.seq .d (.cut [0,3] [] (.seq .d (.blk (.loop [0,3,9,10,11] [] .d))) (.cut [0,6] [⟨6,[], .own 3 (.int .i64)⟩] (.keep [0,3,6,23,24] true) (.cut [6] [] (.seq .d (.blk (.loop [6,25,26,27] [] .d))) .d))))),⟨[],gl,true⟩,[(199,(.seq .d (.cut [0,1] [] .d .d)))],f172⟩
def t14(a:List LI)(g:Int)(f:LI):S:=⟨[(6, .own 0),(25, .val (.list (.list (.int .i64))) a),(26,vi (Ac a)),(27,vi g)],[Ai 3 f],[]⟩
def z14:Nat→S→Option R_:=H.i P_ [r,r,r,r,l,r,d]
def t9(a:List LI)(b h:Int):S:=⟨[(0, .val (.list (.list (.int .i64))) a),(3,vi b),(9, .val (.list (.list (.int .i64))) a),(10,vi (Ac a)),(11,vi h)],[],[]⟩
def z9:Nat→S→Option R_:=H.i P_ [r,r,l,r,d]
def x16(f:LI):Option R_:=H.e P_ [r,r,r,r,r] ⟨[(6, .own 0)],[Ai 3 f],[]⟩
def x14(a:List LI)(g:Int)(f:LI):Option R_:=H.e P_ [r,r,r,r,l,r,d] (t14 a g f)
def x13(a:List LI)(k:LI):Option R_:=H.e P_ [r,r,r,r] ⟨[(0, .val (.list (.list (.int .i64))) a),(6, .own 0)],[Ai 3 k],[]⟩
def x12(b:Int)(a:List LI):Option R_:=H.e P_ [r,r,r,l,(call 1 199),r,r] ⟨[(0, .nils),(1,vi b)],[],[[(0, .val (.list (.list (.int .i64))) a),(3,vi b),(23,vi b)]]⟩
def x11(a:List LI)(b:Int):Option R_:=H.e P_ [r,r,r] ⟨[(0, .val (.list (.list (.int .i64))) a),(3,vi b)],[],[]⟩
def x9(a:List LI)(b h:Int):Option R_:=H.e P_ [r,r,l,r,d] (t9 a b h)
theorem e16:x16=Wx:=by kernel_rfl
theorem i14(a:List LI):∀(q:Nat) (g:Int) (f:LI),z14 q (t14 a g f)=Dm a q g f:=
 ind (fun _ _=>by kernel_rfl) fun q ih g f=>Eq.trans (b:=Fo x16 (fun g f=>(z14 q) (t14 a g f)) a g f) (by kernel_rfl) (by simp only[e16,ih]<;>rfl)
theorem e14:x14=Ni:=by funext a g f;exact Eq.trans (by kernel_rfl) ((i14 a Cq g f).trans (by rw[Aq];rfl))
theorem e13:x13=Hy:=Eq.trans (b:=Ng x14) (by kernel_rfl) (by simp only[e14]<;>rfl)
theorem e12:x12=Nj:=Eq.trans (b:=Nh x13) (by kernel_rfl) (by simp only[e13]<;>rfl)
theorem e11:x11=Nq:=Eq.trans (b:=Nd x12) (by kernel_rfl) (by simp only[e12]<;>rfl)
theorem i9(a:List LI):∀(q:Nat) (b h:Int),z9 q (t9 a b h)=Dz a q b h:=
 ind (fun _ _=>by kernel_rfl) fun q ih b h=>Eq.trans (b:=Fy x11 (fun b h=>(z9 q) (t9 a b h)) a b h) (by kernel_rfl) (by simp only[e11,ih]<;>rfl)
theorem e9:x9=Ot:=by funext a b h;exact Eq.trans (by kernel_rfl) ((i9 a Cq b h).trans (by rw[Aq];rfl))
noncomputable def F:=Mr
theorem rn x:H.u P_ x=F x:=Eq.trans (b:=Om x9 x) (by kernel_rfl) (by simp only[e9]<;>rfl)
noncomputable def c:Con:=⟨H.p,H.r,F⟩
theorem ok:ConOk P_ gl 172 c:=cr H func172 .nil (AnsOk.cons ent199 AnsOk.nil) rn
end F172
namespace F137
noncomputable def H:Hd:=⟨[Sl,Sl],[Ol 3], .d,⟨[(172,F172.c)],gl,false⟩,[],f137⟩
noncomputable def F:=u2 Alh
theorem rn x:H.u P_ x=F x:=by kernel_rfl
noncomputable def c:Con:=⟨H.p,H.r,F⟩
theorem ok:ConOk P_ gl 137 c:=co H func137 (.cons F172.ok .nil) rn
end F137
namespace F101
noncomputable def H:Hd:=⟨[Si,Si],[Ol 3,Si], .d,⟨[(117,F117.c),(118,F118.c),(136,F136.c),(137,F137.c)],gl,false⟩,[],f101⟩
noncomputable def F:=u2 Wd
theorem rn x:H.u P_ x=F x:=by kernel_rfl
noncomputable def c:Con:=⟨H.p,H.r,F⟩
theorem ok:ConOk P_ gl 101 c:=co H func101 (.cons F117.ok (.cons F118.ok (.cons F136.ok (.cons F137.ok .nil)))) rn
end F101
namespace F155
noncomputable def H:Hd:=⟨[.agg [Si,Si],Sw],[Si], .d,⟨[(63,F63.c),(139,F139.c)],gl,false⟩,[],f155⟩
noncomputable def F:=u3 Age
theorem rn x:H.u P_ x=F x:=by kernel_rfl
noncomputable def c:Con:=⟨H.p,H.r,F⟩
theorem ok:ConOk P_ gl 155 c:=co H func155 (.cons F63.ok (.cons F139.ok .nil)) rn
end F155
namespace F183
noncomputable def H:Hd:=⟨[Si,Sw],[Si], .d,⟨[],gl,false⟩,[],f183⟩
noncomputable def F:=u2 Aqw
theorem rn x:H.u P_ x=F x:=by kernel_rfl
noncomputable def c:Con:=⟨H.p,H.r,F⟩
theorem ok:ConOk P_ gl 183 c:=co H func183 .nil rn
end F183
namespace F184
def Kr(a:LX):Option (LX):=
Blm a (
some ([]:LX)) (
(Ek ([]:LX) a).bind fun b=>
some b)
theorem Aeb: @Kr= @Cv:=by
  unfold Kr Cv
  repeat (refine funext fun _=>?_)
  repeat' first
    |with_reducible rfl
    |with_reducible refine Vz ?_ ?_
    |with_reducible refine Vs ?_ ?_ ?_
    |with_reducible refine Vu ?_ ?_ ?_ ?_
    |((with_reducible refine Ac1 ?_ ?_);focus (intro h;first|(subst h;rfl)|(simp only[h];rfl)|(simp[Ek,Ac,h];done)))
    |with_reducible refine Acy fun x=>?_
    |with_reducible refine Anc (fun _=>?_) (fun _=>?_)
    |(refine Mc (fun h=>by simp only[h,Aby,Hx,Hh,ite_self]) (fun x h=>?_);(try simp only[h,Hx]))
    |(refine Pq (fun h=>?_) (fun h=>?_)<;>simp only[h,if_true,if_false,Bool.false_eq_true])
noncomputable def H:Hd:=⟨[Sw],[Ow 21], .d,⟨[],gl,false⟩,[],f184⟩
noncomputable def F:=Cv
theorem rn x:H.u P_ x=F x:=Eq.trans (b:=Kr x) (by kernel_rfl) (by rw[Aeb];rfl)
noncomputable def c:Con:=⟨H.p,H.r,F⟩
theorem ok:ConOk P_ gl 184 c:=co H func184 .nil rn
end F184
namespace F156
abbrev R_:=(LX×Int)
abbrev K_:=S→Option R_
noncomputable def H:Hd:=⟨[Si,Sw],[Ow 21,Si],(.seq .d (.seq .d (.seq .d (.cut [7] [] (.seq .d (.blk (.loop [0,7,8] [] (.seq .d (.cut [0,7,8] [] (.blk (.keep [0,7,8,24,25,26,27,28,29] true)) .d))))) .d)))),⟨[(183,F183.c),(184,F184.c)],gl,true⟩,[(185,(.seq .d (.cut [0,2] [] (.seq .d (.blk (.loop [0,2,7,8] [] .d))) .d)))],f156⟩
def t17(b a h:Int)(g:LX):S:=⟨[(0, .view true 0 [] (.int .i32) a ((Ad a b)-a)),(2,vi (Aj ((Ad a b)-a) (1:Int))),(7,vi (Aj ((Ad a b)-a) (1:Int))),(8,vi h)],[Aw 21 g],[[(0,vi b),(7, .own 0),(8,vi a),(24, .own 0),(25,vi a),(26,vi a),(27,vi b),(28,vi (Ad a b)),(29, .view true 0 [] (.int .i32) a ((Ad a b)-a))]]⟩
def z17(kn12:K_):Nat→S→Option R_:=H.i P_ [r,r,r,l,r,d,(lp kn12),r,l,d,(call 6 185),r,l,r,d]
def t12(b a:Int)(f:LX):S:=⟨[(0,vi b),(7, .own 0),(8,vi a)],[Aw 21 f],[]⟩
def z12:Nat→S→Option R_:=H.i P_ [r,r,r,l,r,d]
def x22(f:LX):Option R_:=H.e P_ [r,r,r,r] ⟨[(7, .own 0)],[Aw 21 f],[]⟩
def x20(kn12:K_)(b a:Int)(k:LX):Option R_:=H.e P_ [r,r,r,l,r,d,(lp kn12),r,r] ⟨[(0,vi b),(7, .own 0),(8,vi a)],[Aw 21 k],[]⟩
def x19(kn12:K_)(b a:Int)(g:LX):Option R_:=H.e P_ [r,r,r,l,r,d,(lp kn12),r,l,d,(call 6 185),r,r] ⟨[(0, .view true 0 [] (.int .i32) a ((Ad a b)-a)),(2,vi (Aj ((Ad a b)-a) (1:Int)))],[Aw 21 g],[[(0,vi b),(7, .own 0),(8,vi a),(24, .own 0),(25,vi a),(26,vi a),(27,vi b),(28,vi (Ad a b)),(29, .view true 0 [] (.int .i32) a ((Ad a b)-a))]]⟩
def x17(kn12:K_)(b a h:Int)(g:LX):Option R_:=H.e P_ [r,r,r,l,r,d,(lp kn12),r,l,d,(call 6 185),r,l,r,d] (t17 b a h g)
def x12(b a:Int)(f:LX):Option R_:=H.e P_ [r,r,r,l,r,d] (t12 b a f)
theorem e22:x22=Bfz:=by kernel_rfl
theorem e20(kn12:K_)(b:Int):x20 kn12 b=An3 (fun a f=>kn12 (t12 b a f)) b:=by kernel_rfl
theorem e19(kn12:K_)(b:Int):x19 kn12 b=Axc (fun a f=>kn12 (t12 b a f)) b:=Eq.trans (b:=Axp (x20 kn12 b) b) (by kernel_rfl) (by simp only[e20]<;>rfl)
theorem i17(kn12:K_)(b a:Int):∀(q:Nat) (h:Int) (g:LX),z17 kn12 q (t17 b a h g)=Aat (fun a f=>kn12 (t12 b a f)) b a q h g:=
 ind (fun _ _=>by kernel_rfl) fun q ih h g=>Eq.trans (b:=Aow (x19 kn12 b) (fun h g=>(z17 kn12 q) (t17 b a h g)) b a h g) (by kernel_rfl) (by simp only[e19,ih]<;>rfl)
theorem e17(kn12:K_)(b:Int):x17 kn12 b=Bga (fun a f=>kn12 (t12 b a f)) b:=by funext a h g;exact Eq.trans (by kernel_rfl) ((i17 kn12 b a Cq h g).trans (by rw[Aq];rfl))
theorem i12(b:Int):∀(q:Nat) (a:Int) (f:LX),z12 q (t12 b a f)=Aag b q a f:=
 ind (fun _ _=>by kernel_rfl) fun q ih a f=>Eq.trans (b:=Awi (x17 (z12 q) b) x22 b a f) (by kernel_rfl) (by simp only[e17,e22,ih]<;>rfl)
theorem e12:x12=Awn:=by funext b a f;exact Eq.trans (by kernel_rfl) ((i12 b Cq a f).trans (by rw[Aq];rfl))
noncomputable def F:=u2 Bg0
theorem rn x:H.u P_ x=F x:=Eq.trans (b:=u2 (Bai x12) x) (by kernel_rfl) (by simp only[e12]<;>rfl)
noncomputable def c:Con:=⟨H.p,H.r,F⟩
theorem ok:ConOk P_ gl 156 c:=cr H func156 (.cons F183.ok (.cons F184.ok .nil)) (AnsOk.cons ent185 AnsOk.nil) rn
end F156
namespace F186
abbrev R_:=(Int×LX×LX×Int)
noncomputable def H:Hd:=⟨[Si, .lf (.vec 16 (.int .i32)) none],[.agg [Si, .lf (.vec 16 (.int .i32)) none, .lf (.vec 16 (.int .i32)) none],Si],(.seq .d (.seq .d (.seq (.seq .d (.blk (.cut [4,6,9,11] [] .d .d))) .d))),⟨[],gl,false⟩,[],f186⟩
def x2(a:Int)(b:LX)(f:Bool):Option R_:=H.e P_ [r,r,l,r,d,r] ⟨[(4, .ptr 0 []),(6, .ptr 1 []),(9,vi a),(11,vt f)],[.box 222 (.agg [vi 0, .val (.vec 16 (.int .i32)) (List.replicate 16 (0:Int32)), .val (.vec 16 (.int .i32)) (List.replicate 16 (0:Int32))]), .box 222 (.agg [vi 10, .val (.vec 16 (.int .i32)) b, .val (.vec 16 (.int .i32)) (List.replicate 16 (0:Int32))])],[]⟩
theorem e2:x2=Bfr:=by kernel_rfl
noncomputable def F:=u2 Bdc
theorem rn x:H.u P_ x=F x:=Eq.trans (b:=u2 (Bf2 x2) x) (by kernel_rfl) (by simp only[e2]<;>rfl)
noncomputable def c:Con:=⟨H.p,H.r,F⟩
theorem ok:ConOk P_ gl 186 c:=co H func186 .nil rn
end F186
namespace F157
noncomputable def H:Hd:=⟨[Si, .lf (.vec 16 (.int .i32)) none],[.agg [Si,Sx, .agg [Si, .lf (.vec 16 (.int .i32)) none, .lf (.vec 16 (.int .i32)) none]],Si], .d,⟨[(186,F186.c)],gl,false⟩,[],f157⟩
noncomputable def F:=u2 Bev
theorem rn x:H.u P_ x=F x:=by kernel_rfl
noncomputable def c:Con:=⟨H.p,H.r,F⟩
theorem ok:ConOk P_ gl 157 c:=co H func157 (.cons F186.ok .nil) rn
end F157
namespace F187
noncomputable def H:Hd:=⟨[.agg [Si,Sx, .agg [Si, .lf (.vec 16 (.int .i32)) none, .lf (.vec 16 (.int .i32)) none]]],[Si], .d,⟨[(186,F186.c)],gl,false⟩,[],f187⟩
noncomputable def F:=u5 Vx
theorem rn x:H.u P_ x=F x:=by kernel_rfl
noncomputable def c:Con:=⟨H.p,H.r,F⟩
theorem ok:ConOk P_ gl 187 c:=co H func187 (.cons F186.ok .nil) rn
end F187
namespace F204
noncomputable def H:Hd:=⟨[Si],[Si,Si], .d,⟨[],gl,false⟩,[],f204⟩
noncomputable def F:=Axr
theorem rn x:H.u P_ x=F x:=by kernel_rfl
noncomputable def c:Con:=⟨H.p,H.r,F⟩
theorem ok:ConOk P_ gl 204 c:=co H func204 .nil rn
end F204
namespace F205
noncomputable def H:Hd:=⟨[Si,Sx],[Sx], .d,⟨[],gl,false⟩,[],f205⟩
noncomputable def F:=u2 Aod
theorem rn x:H.u P_ x=F x:=by kernel_rfl
noncomputable def c:Con:=⟨H.p,H.r,F⟩
theorem ok:ConOk P_ gl 205 c:=co H func205 .nil rn
end F205
namespace F188
noncomputable def H:Hd:=⟨[Si,Sx],[Sx,Si], .d,⟨[(204,F204.c),(205,F205.c)],gl,false⟩,[],f188⟩
noncomputable def F:=u2 Vh
theorem rn x:H.u P_ x=F x:=by kernel_rfl
noncomputable def c:Con:=⟨H.p,H.r,F⟩
theorem ok:ConOk P_ gl 188 c:=co H func188 (.cons F204.ok (.cons F205.ok .nil)) rn
end F188
namespace F210
noncomputable def H:Hd:=⟨[.agg [Si, .lf (.vec 16 (.int .i32)) none, .lf (.vec 16 (.int .i32)) none]],[Si], .d,⟨[],gl,false⟩,[],f210⟩
noncomputable def F:=u3 Af3
theorem rn x:H.u P_ x=F x:=by kernel_rfl
noncomputable def c:Con:=⟨H.p,H.r,F⟩
theorem ok:ConOk P_ gl 210 c:=co H func210 .nil rn
end F210
namespace F206
abbrev R_:=(Int32×Int)
noncomputable def H:Hd:=⟨[.agg [Si, .lf (.vec 16 (.int .i32)) none, .lf (.vec 16 (.int .i32)) none]],[Sx,Si],(.seq .d (.seq .d (.seq .d (.cut [1,5] [] (.seq .d (.blk (.loop [1,5,18,19] [] .d))) .d)))),⟨[(210,F210.c)],gl,false⟩,[],f206⟩
def t4(b:LX)(a:Int)(f:LX)(g:Int32)(h:Int):S:=⟨[(1, .ptr 0 []),(5,vx g),(18, .val (.vec 16 (.int .i32)) b),(19,vi h)],[.box 222 (.agg [vi a, .val (.vec 16 (.int .i32)) b, .val (.vec 16 (.int .i32)) f])],[]⟩
def z4:Nat→S→Option R_:=H.i P_ [r,r,r,l,r,d]
def x6(g:Int32)(a:Int)(b f:LX):Option R_:=H.e P_ [r,r,r,r] ⟨[(1, .ptr 0 []),(5,vx g)],[.box 222 (.agg [vi a, .val (.vec 16 (.int .i32)) b, .val (.vec 16 (.int .i32)) f])],[]⟩
def x4(b:LX)(a:Int)(f:LX)(g:Int32)(h:Int):Option R_:=H.e P_ [r,r,r,l,r,d] (t4 b a f g h)
theorem e6:x6=Aqf:=by kernel_rfl
theorem i4(b:LX)(a:Int)(f:LX):∀(q:Nat) (g:Int32) (h:Int),z4 q (t4 b a f g h)=Tg b a f q g h:=
 ind (fun _ _=>by kernel_rfl) fun q ih g h=>Eq.trans (b:=Agi x6 (fun g h=>(z4 q) (t4 b a f g h)) b a f g h) (by kernel_rfl) (by simp only[e6,ih]<;>rfl)
theorem e4:x4=Ap7:=by funext b a f g h;exact Eq.trans (by kernel_rfl) ((i4 b a f Cq g h).trans (by rw[Aq];rfl))
noncomputable def F:=u3 All
theorem rn x:H.u P_ x=F x:=Eq.trans (b:=u3 (Ap5 x4) x) (by kernel_rfl) (by simp only[e4]<;>rfl)
noncomputable def c:Con:=⟨H.p,H.r,F⟩
theorem ok:ConOk P_ gl 206 c:=co H func206 (.cons F210.ok .nil) rn
end F206
namespace F215
noncomputable def H:Hd:=⟨[Si],[Sx], .d,⟨[],gl,false⟩,[],f215⟩
noncomputable def F:=Are
theorem rn x:H.u P_ x=F x:=by kernel_rfl
noncomputable def c:Con:=⟨H.p,H.r,F⟩
theorem ok:ConOk P_ gl 215 c:=co H func215 .nil rn
end F215
namespace F211
abbrev R_:=(Int×LX×LX×Int)
noncomputable def H:Hd:=⟨[.agg [Si, .lf (.vec 16 (.int .i32)) none, .lf (.vec 16 (.int .i32)) none],Sx],[.agg [Si, .lf (.vec 16 (.int .i32)) none, .lf (.vec 16 (.int .i32)) none],Si],(.seq .d (.seq .d (.seq .d (.cut [2,4] [] (.seq .d (.blk (.loop [1,2,4,19,20] [] .d))) .d)))),⟨[(210,F210.c),(215,F215.c)],gl,false⟩,[],f211⟩
def t4(h:Int32)(f:LX)(g a:Int)(b:LX):S:=⟨[(1,vx h),(2, .ptr 0 []),(4, .ptr 1 []),(19, .val (.vec 16 (.int .i32)) f),(20,vi a)],[.box 222 (.agg [vi g, .val (.vec 16 (.int .i32)) b, .val (.vec 16 (.int .i32)) f]), .box 222 (.agg [vi 0, .val (.vec 16 (.int .i32)) (List.replicate 16 (0:Int32)), .val (.vec 16 (.int .i32)) (List.replicate 16 (0:Int32))])],[]⟩
def z4:Nat→S→Option R_:=H.i P_ [r,r,r,l,r,d]
def x6(g:Int)(b f:LX):Option R_:=H.e P_ [r,r,r,r] ⟨[(2, .ptr 0 []),(4, .ptr 1 [])],[.box 222 (.agg [vi g, .val (.vec 16 (.int .i32)) b, .val (.vec 16 (.int .i32)) f]), .box 222 (.agg [vi 0, .val (.vec 16 (.int .i32)) (List.replicate 16 (0:Int32)), .val (.vec 16 (.int .i32)) (List.replicate 16 (0:Int32))])],[]⟩
def x4(h:Int32)(f:LX)(g a:Int)(b:LX):Option R_:=H.e P_ [r,r,r,l,r,d] (t4 h f g a b)
theorem e6:x6=Azs:=by kernel_rfl
theorem i4(h:Int32)(f:LX)(g:Int):∀(q:Nat) (a:Int) (b:LX),z4 q (t4 h f g a b)=Tj h f g q a b:=
 ind (fun _ _=>by kernel_rfl) fun q ih a b=>Eq.trans (b:=Agf x6 (fun a b=>(z4 q) (t4 h f g a b)) h f g a b) (by kernel_rfl) (by simp only[e6,ih]<;>rfl)
theorem e4:x4=Azr:=by funext h f g a b;exact Eq.trans (by kernel_rfl) ((i4 h f g Cq a b).trans (by rw[Aq];rfl))
noncomputable def F:=u4 Atd
theorem rn x:H.u P_ x=F x:=Eq.trans (b:=u4 (Apk x4) x) (by kernel_rfl) (by simp only[e4]<;>rfl)
noncomputable def c:Con:=⟨H.p,H.r,F⟩
theorem ok:ConOk P_ gl 211 c:=co H func211 (.cons F210.ok (.cons F215.ok .nil)) rn
end F211
namespace F212
def Aqa(j2:Int32→Int→LX→LX→Option (Int×LX×LX×Int))(b:Int)(f a:LX)(g:Int32):Option (Int×LX×LX×Int):=
(Af3 b f a).bind fun h=>
if(Ay h 0)then
some (0,(List.replicate 16 (0:Int32)),(List.replicate 16 (0:Int32)),h)
else
both (
(vwI 16 1 16).bind fun _=>
(vwI 16 0 16).bind fun _=>
j2 g b f a) [
(vwI 16 0 16).bind fun _=>
(vwI 16 1 16).bind fun _=>
j2 g b f a]
theorem Bel: @Aqa= @Aj3:=by
  unfold Aqa Aj3
  repeat (refine funext fun _=>?_)
  repeat' first
    |with_reducible rfl
    |with_reducible refine Vz ?_ ?_
    |with_reducible refine Vs ?_ ?_ ?_
    |with_reducible refine Vu ?_ ?_ ?_ ?_
    |((with_reducible refine Ac1 ?_ ?_);focus (intro h;first|(subst h;rfl)|(simp only[h];rfl)|(simp[Ek,Ac,h];done)))
    |with_reducible refine Acy fun x=>?_
    |with_reducible refine Anc (fun _=>?_) (fun _=>?_)
    |(refine Mc (fun h=>by simp only[h,Aby,Hx,Hh,ite_self]) (fun x h=>?_);(try simp only[h,Hx]))
    |(refine Pq (fun h=>?_) (fun h=>?_)<;>simp only[h,if_true,if_false,Bool.false_eq_true])
abbrev R_:=(Int×LX×LX×Int)
noncomputable def H:Hd:=⟨[.agg [Si, .lf (.vec 16 (.int .i32)) none, .lf (.vec 16 (.int .i32)) none],Sx],[.agg [Si, .lf (.vec 16 (.int .i32)) none, .lf (.vec 16 (.int .i32)) none],Si],(.seq .d (.seq .d (.cut [1,2,4] [] .d .d))),⟨[(210,F210.c)],gl,false⟩,[],f212⟩
def x2(g:Int32)(b:Int)(f a:LX):Option R_:=H.e P_ [r,r,r] ⟨[(1,vx g),(2, .ptr 0 []),(4, .ptr 1 [])],[.box 222 (.agg [vi b, .val (.vec 16 (.int .i32)) f, .val (.vec 16 (.int .i32)) (Tt a (1:Int) ((16:Int)-(1:Int)) (Anw a (0:Int) ((16:Int)-(0:Int))))]), .box 222 (.agg [vi 0, .val (.vec 16 (.int .i32)) (List.replicate 16 (0:Int32)), .val (.vec 16 (.int .i32)) (List.replicate 16 (0:Int32))])],[]⟩
theorem e2:x2=As3:=by kernel_rfl
noncomputable def F:=u4 Ax8
theorem rn x:H.u P_ x=F x:=Eq.trans (b:=u4 (Aqa x2) x) (by kernel_rfl) (by unfold F;rw[Bel];simp only[e2]<;>rfl)
noncomputable def c:Con:=⟨H.p,H.r,F⟩
theorem ok:ConOk P_ gl 212 c:=co H func212 (.cons F210.ok .nil) rn
end F212
namespace F207
noncomputable def H:Hd:=⟨[.agg [Si, .lf (.vec 16 (.int .i32)) none, .lf (.vec 16 (.int .i32)) none],Sx,Sx],[.agg [Si, .lf (.vec 16 (.int .i32)) none, .lf (.vec 16 (.int .i32)) none]], .d,⟨[(211,F211.c),(212,F212.c)],gl,false⟩,[],f207⟩
noncomputable def F:=u5 Amk
theorem rn x:H.u P_ x=F x:=by kernel_rfl
noncomputable def c:Con:=⟨H.p,H.r,F⟩
theorem ok:ConOk P_ gl 207 c:=co H func207 (.cons F211.ok (.cons F212.ok .nil)) rn
end F207
namespace F189
noncomputable def H:Hd:=⟨[.agg [Si, .lf (.vec 16 (.int .i32)) none, .lf (.vec 16 (.int .i32)) none],Sx],[Sx, .agg [Si, .lf (.vec 16 (.int .i32)) none, .lf (.vec 16 (.int .i32)) none],Si], .d,⟨[(206,F206.c),(207,F207.c)],gl,false⟩,[],f189⟩
noncomputable def F:=u4 Ao3
theorem rn x:H.u P_ x=F x:=by kernel_rfl
noncomputable def c:Con:=⟨H.p,H.r,F⟩
theorem ok:ConOk P_ gl 189 c:=co H func189 (.cons F206.ok (.cons F207.ok .nil)) rn
end F189
namespace F158
def Acn(a:Int)(b:Int32)(f:Int)(g h:LX)(k:Int32):Option (Int32×Int×Int32×Int×LX×LX×Int):=
(Vx a b f g h).bind fun m=>
if(Ay m 0)then
some (0,0,0,0,(List.replicate 16 (0:Int32)),(List.replicate 16 (0:Int32)),m)
else
(Vh a b).bind fun(n,y)=>
(Ao3 f g h (Aj k n)).bind fun(o,p,u,v,w)=>
bo (
some (o,a,k,p,u,v,w))
theorem Avl: @Acn= @Ti:=by
  unfold Acn Ti
  simp only[Bc4,Atk,Asf]
noncomputable def H:Hd:=⟨[.agg [Si,Sx, .agg [Si, .lf (.vec 16 (.int .i32)) none, .lf (.vec 16 (.int .i32)) none]],Sx],[Sx, .agg [Si,Sx, .agg [Si, .lf (.vec 16 (.int .i32)) none, .lf (.vec 16 (.int .i32)) none]],Si],(.seq .d (.seq .d (.seq .d (.seq .d (.seq (.mode false) .d))))),⟨[(187,F187.c),(188,F188.c),(189,F189.c)],gl,false⟩,[],f158⟩
noncomputable def F:=u6 Ti
theorem rn x:H.u P_ x=F x:=Eq.trans (b:=u6 Acn x) (by kernel_rfl) (by rw[Avl];rfl)
noncomputable def c:Con:=⟨H.p,H.r,F⟩
theorem ok:ConOk P_ gl 158 c:=co H func158 (.cons F187.ok (.cons F188.ok (.cons F189.ok .nil))) rn
end F158
namespace F159
noncomputable def H:Hd:=⟨[Sx],[Su], .d,⟨[],gl,false⟩,[],f159⟩
noncomputable def F:=Ax6
theorem rn x:H.u P_ x=F x:=by kernel_rfl
noncomputable def c:Con:=⟨H.p,H.r,F⟩
theorem ok:ConOk P_ gl 159 c:=co H func159 .nil rn
end F159
namespace F125
abbrev R_:=(LU×Int)
noncomputable def H:Hd:=⟨[.agg [Si,Si], .lf (.vec 16 (.int .i32)) none,Sw],[Ov 60,Si],(.seq .d (.seq .d (.seq .d (.seq .d (.seq .d (.cut [3,9,11] [] (.seq .d (.blk (.loop [3,4,9,11,36] [] .d))) (.seq .d (.cut [13] [] (.seq .d (.blk (.loop [3,11,13,49,50,51] [⟨13,[], .own 60 (.int .u32)⟩] .d))) .d)))))))),⟨[(155,F155.c),(156,F156.c),(157,F157.c),(158,F158.c),(159,F159.c)],gl,false⟩,[],f125⟩
def t10(b:LX)(a f g:Int)(o:List (Int×Int32×(Int×LX×LX×Unit)×Unit))(k:LU):S:=⟨[(3, .ptr 0 []),(11, .ptr 1 []),(13, .own 2),(49, .own 3),(50,vi (Ac b)),(51,vi g)],[.box 74 (.agg [vi a,vi f]), .box 225 (.val (.vec 6 (.cons (.int .i64) (.cons (.int .i32) (.cons (.cons (.int .i64) (.cons (.vec 16 (.int .i32)) (.cons (.vec 16 (.int .i32)) .nil))) .nil)))) o),Av 60 k,Aw 21 b],[]⟩
def z10:Nat→S→Option R_:=H.i P_ [r,r,r,r,r,r,r,l,r,d]
def t7(a f:Int)(m b:LX)(n:Int)(h:List (Int×Int32×(Int×LX×LX×Unit)×Unit)):S:=⟨[(3, .ptr 0 []),(4, .ptr 1 []),(9, .own 2),(11, .ptr 3 []),(36,vi n)],[.box 74 (.agg [vi a,vi f]), .box 136 (.val (.vec 16 (.int .i32)) m),Aw 21 b, .box 225 (.val (.vec 6 (.cons (.int .i64) (.cons (.int .i32) (.cons (.cons (.int .i64) (.cons (.vec 16 (.int .i32)) (.cons (.vec 16 (.int .i32)) .nil))) .nil)))) h)],[]⟩
def z7:Nat→S→Option R_:=H.i P_ [r,r,r,r,r,l,r,d]
def x12(k:LU):Option R_:=H.e P_ [r,r,r,r,r,r,r,r] ⟨[(13, .own 0)],[Av 60 k],[]⟩
def x10(b:LX)(a f g:Int)(o:List (Int×Int32×(Int×LX×LX×Unit)×Unit))(k:LU):Option R_:=H.e P_ [r,r,r,r,r,r,r,l,r,d] (t10 b a f g o k)
def x9(a f:Int)(b:LX)(h:List (Int×Int32×(Int×LX×LX×Unit)×Unit)):Option R_:=H.e P_ [r,r,r,r,r,r] ⟨[(3, .ptr 0 []),(9, .own 1),(11, .ptr 2 [])],[.box 74 (.agg [vi a,vi f]),Aw 21 b, .box 225 (.val (.vec 6 (.cons (.int .i64) (.cons (.int .i32) (.cons (.cons (.int .i64) (.cons (.vec 16 (.int .i32)) (.cons (.vec 16 (.int .i32)) .nil))) .nil)))) h)],[]⟩
def x7(a f:Int)(m b:LX)(n:Int)(h:List (Int×Int32×(Int×LX×LX×Unit)×Unit)):Option R_:=H.e P_ [r,r,r,r,r,l,r,d] (t7 a f m b n h)
theorem e12:x12=Am7:=by kernel_rfl
theorem i10(b:LX)(a f:Int):∀(q:Nat) (g:Int) (o:List (Int×Int32×(Int×LX×LX×Unit)×Unit)) (k:LU),z10 q (t10 b a f g o k)=Iy b a f q g o k:=
 ind (fun _ _ _=>by kernel_rfl) fun q ih g o k=>Eq.trans (b:=Ry x12 (fun g o k=>(z10 q) (t10 b a f g o k)) b a f g o k) (by kernel_rfl) (by simp only[e12,ih]<;>rfl)
theorem e10:x10=Alx:=by funext b a f g o k;exact Eq.trans (by kernel_rfl) ((i10 b a f Cq g o k).trans (by rw[Aq];rfl))
theorem e9:x9=Ac9:=Eq.trans (b:=Aoo x10) (by kernel_rfl) (by simp only[e10]<;>rfl)
theorem i7(a f:Int)(m b:LX):∀(q:Nat) (n:Int) (h:List (Int×Int32×(Int×LX×LX×Unit)×Unit)),z7 q (t7 a f m b n h)=Ac5 a f m b q n h:=
 ind (fun _ _=>by kernel_rfl) fun q ih n h=>Eq.trans (b:=Ao6 x9 (fun n h=>(z7 q) (t7 a f m b n h)) a f m b n h) (by kernel_rfl) (by simp only[e9,ih]<;>rfl)
theorem e7:x7=Um:=by funext a f m b n h;exact Eq.trans (by kernel_rfl) ((i7 a f m b Cq n h).trans (by rw[Aq];rfl))
noncomputable def F:=u4 Abl
theorem rn x:H.u P_ x=F x:=Eq.trans (b:=u4 (Ab0 x7) x) (by kernel_rfl) (by simp only[e7]<;>rfl)
noncomputable def c:Con:=⟨H.p,H.r,F⟩
theorem ok:ConOk P_ gl 125 c:=co H func125 (.cons F155.ok (.cons F156.ok (.cons F157.ok (.cons F158.ok (.cons F159.ok .nil))))) rn
end F125
namespace F160
noncomputable def H:Hd:=⟨[],[.agg [Si,Si,Sq,Sq]], .d,⟨[],gl,false⟩,[],f160⟩
noncomputable def F(x:Unit):=Bak
theorem rn x:H.u P_ x=F x:=by kernel_rfl
noncomputable def c:Con:=⟨H.p,H.r,F⟩
theorem ok:ConOk P_ gl 160 c:=co H func160 .nil rn
end F160
namespace F126
abbrev R_:=((List (Int×Int×UInt64×UInt64×Unit)))
noncomputable def H:Hd:=⟨[],[.lf (.vec 6 (.cons (.int .i64) (.cons (.int .i64) (.cons (.int .u64) (.cons (.int .u64) .nil))))) none],(.seq .d (.seq .d (.cut [0,1] [] (.seq .d (.blk (.loop [0,1,3] [] .d))) .d))),⟨[(160,F160.c)],gl,false⟩,[],f126⟩
def t4(b:Int)(a:List (Int×Int×UInt64×UInt64×Unit)):S:=⟨[(0, .ptr 0 []),(1, .ptr 1 []),(3,vi b)],[.box 185 (.val (.vec 6 (.cons (.int .i64) (.cons (.int .i64) (.cons (.int .u64) (.cons (.int .u64) .nil))))) (List.replicate 6 ((0:Int),(0:Int),(0:UInt64),(0:UInt64),()))), .box 185 (.val (.vec 6 (.cons (.int .i64) (.cons (.int .i64) (.cons (.int .u64) (.cons (.int .u64) .nil))))) a)],[]⟩
def z4:Nat→S→Option R_:=H.i P_ [r,r,l,r,d]
def x6(a:List (Int×Int×UInt64×UInt64×Unit)):Option R_:=H.e P_ [r,r,r] ⟨[(0, .ptr 0 []),(1, .ptr 1 [])],[.box 185 (.val (.vec 6 (.cons (.int .i64) (.cons (.int .i64) (.cons (.int .u64) (.cons (.int .u64) .nil))))) (List.replicate 6 ((0:Int),(0:Int),(0:UInt64),(0:UInt64),()))), .box 185 (.val (.vec 6 (.cons (.int .i64) (.cons (.int .i64) (.cons (.int .u64) (.cons (.int .u64) .nil))))) a)],[]⟩
def x4(b:Int)(a:List (Int×Int×UInt64×UInt64×Unit)):Option R_:=H.e P_ [r,r,l,r,d] (t4 b a)
theorem e6:x6=Aox:=by kernel_rfl
theorem i4:∀(q:Nat) (b:Int) (a:List (Int×Int×UInt64×UInt64×Unit)),z4 q (t4 b a)=Adg q b a:=
 ind (fun _ _=>by kernel_rfl) fun q ih b a=>Eq.trans (b:=Aoe x6 (fun b a=>(z4 q) (t4 b a)) b a) (by kernel_rfl) (by simp only[e6,ih]<;>rfl)
theorem e4:x4=Abq:=by funext b a;exact Eq.trans (by kernel_rfl) ((i4 Cq b a).trans (by rw[Aq];rfl))
noncomputable def F(x:Unit):=Aa9
theorem rn x:H.u P_ x=F x:=Eq.trans (b:=Abu x4) (by kernel_rfl) (by simp only[e4]<;>rfl)
noncomputable def c:Con:=⟨H.p,H.r,F⟩
theorem ok:ConOk P_ gl 126 c:=co H func126 (.cons F160.ok .nil) rn
end F126
namespace F161
noncomputable def H:Hd:=⟨[.agg [Sb,Si]],[Si], .d,⟨[],gl,false⟩,[],f161⟩
noncomputable def F:=u2 Gy
theorem rn x:H.u P_ x=F x:=by kernel_rfl
noncomputable def c:Con:=⟨H.p,H.r,F⟩
theorem ok:ConOk P_ gl 161 c:=co H func161 .nil rn
end F161
namespace F162
def Amq(j4:Int→Int→UInt64→UInt64→Option Int)(a b:Int)(f g:UInt64):Option Int:=
both (
bo (
j4 a b f g)) [
j4 a b f g]
theorem Bc5: @Amq= @Af6:=by
  unfold Amq Af6
  repeat (refine funext fun _=>?_)
  repeat' first
    |with_reducible rfl
    |with_reducible refine Vz ?_ ?_
    |with_reducible refine Vs ?_ ?_ ?_
    |with_reducible refine Vu ?_ ?_ ?_ ?_
    |((with_reducible refine Ac1 ?_ ?_);focus (intro h;first|(subst h;rfl)|(simp only[h];rfl)|(simp[Ek,Ac,h];done)))
    |with_reducible refine Acy fun x=>?_
    |with_reducible refine Anc (fun _=>?_) (fun _=>?_)
    |(refine Mc (fun h=>by simp only[h,Aby,Hx,Hh,ite_self]) (fun x h=>?_);(try simp only[h,Hx]))
    |(refine Pq (fun h=>?_) (fun h=>?_)<;>simp only[h,if_true,if_false,Bool.false_eq_true])
def Al8(j3:Int→Int→UInt64→UInt64→Option Int)(a b:Int)(f g:UInt64):Option Int:=
both (
bo (
j3 a b f g)) [
j3 a b f g]
theorem Bb4: @Al8= @Agg:=by
  unfold Al8 Agg
  repeat (refine funext fun _=>?_)
  repeat' first
    |with_reducible rfl
    |with_reducible refine Vz ?_ ?_
    |with_reducible refine Vs ?_ ?_ ?_
    |with_reducible refine Vu ?_ ?_ ?_ ?_
    |((with_reducible refine Ac1 ?_ ?_);focus (intro h;first|(subst h;rfl)|(simp only[h];rfl)|(simp[Ek,Ac,h];done)))
    |with_reducible refine Acy fun x=>?_
    |with_reducible refine Anc (fun _=>?_) (fun _=>?_)
    |(refine Mc (fun h=>by simp only[h,Aby,Hx,Hh,ite_self]) (fun x h=>?_);(try simp only[h,Hx]))
    |(refine Pq (fun h=>?_) (fun h=>?_)<;>simp only[h,if_true,if_false,Bool.false_eq_true])
abbrev R_:=Int
noncomputable def H:Hd:=⟨[.agg [Si,Si,Sq,Sq]],[Si],(.seq .d (.seq .d (.cut [1,3] [] (.mode false) (.cut [1,3] [] (.mode false) .d)))),⟨[],gl,false⟩,[],f162⟩
def x4(a b:Int)(f g:UInt64):Option R_:=H.e P_ [r,r,r,r] ⟨[(1, .ptr 0 []),(3, .ptr 1 [])],[.box 184 (.agg [vi a,vi b,vq f,vq g]), .box 184 (.agg [vi (Dj (Ay7 a (0:Int)) (24:Int)),vi (Dj (Ay7 b (0:Int)) (24:Int)),vq (Dj f (68719476735:UInt64)),vq (Dj g (68719476735:UInt64))])],[]⟩
def x3(a b:Int)(f g:UInt64):Option R_:=H.e P_ [r,r,r] ⟨[(1, .ptr 0 []),(3, .ptr 1 [])],[.box 184 (.agg [vi a,vi b,vq f,vq g]), .box 184 (.agg [vi (Dj (Ay7 a (0:Int)) (24:Int)),vi (Dj (Ay7 b (0:Int)) (24:Int)),vq f,vq g])],[]⟩
theorem e4:x4=Apy:=by kernel_rfl
theorem e3:x3=Ap1:=Eq.trans (b:=Amq x4) (by kernel_rfl) (by rw[Bc5];simp only[e4]<;>rfl)
noncomputable def F:=u4 Ak9
theorem rn x:H.u P_ x=F x:=Eq.trans (b:=u4 (Al8 x3) x) (by kernel_rfl) (by unfold F;rw[Bb4];simp only[e3]<;>rfl)
noncomputable def c:Con:=⟨H.p,H.r,F⟩
theorem ok:ConOk P_ gl 162 c:=co H func162 .nil rn
end F162
namespace F163
noncomputable def H:Hd:=⟨[.agg [Si,Si,Sq,Sq],Su],[Si,Su], .d,⟨[],gl,false⟩,[],f163⟩
noncomputable def F:=u5 Aft
theorem rn x:H.u P_ x=F x:=by kernel_rfl
noncomputable def c:Con:=⟨H.p,H.r,F⟩
theorem ok:ConOk P_ gl 163 c:=co H func163 .nil rn
end F163
namespace F173
def Mh(a:LB):Option (LB):=
Blm a (
some ([]:LB)) (
(Ek ([]:LB) a).bind fun b=>
some b)
theorem Ahp: @Mh= @Dp:=by
  unfold Mh Dp
  repeat (refine funext fun _=>?_)
  repeat' first
    |with_reducible rfl
    |with_reducible refine Vz ?_ ?_
    |with_reducible refine Vs ?_ ?_ ?_
    |with_reducible refine Vu ?_ ?_ ?_ ?_
    |((with_reducible refine Ac1 ?_ ?_);focus (intro h;first|(subst h;rfl)|(simp only[h];rfl)|(simp[Ek,Ac,h];done)))
    |with_reducible refine Acy fun x=>?_
    |with_reducible refine Anc (fun _=>?_) (fun _=>?_)
    |(refine Mc (fun h=>by simp only[h,Aby,Hx,Hh,ite_self]) (fun x h=>?_);(try simp only[h,Hx]))
    |(refine Pq (fun h=>?_) (fun h=>?_)<;>simp only[h,if_true,if_false,Bool.false_eq_true])
noncomputable def H:Hd:=⟨[Sb],[Ob 5], .d,⟨[],gl,false⟩,[],f173⟩
noncomputable def F:=Dp
theorem rn x:H.u P_ x=F x:=Eq.trans (b:=Mh x) (by kernel_rfl) (by rw[Ahp];rfl)
noncomputable def c:Con:=⟨H.p,H.r,F⟩
theorem ok:ConOk P_ gl 173 c:=co H func173 .nil rn
end F173
namespace F190
noncomputable def H:Hd:=⟨[.agg [Sb,Si]],[.agg [Ob 5,Si]], .d,⟨[(173,F173.c)],gl,false⟩,[],f190⟩
noncomputable def F:=u2 Aro
theorem rn x:H.u P_ x=F x:=by kernel_rfl
noncomputable def c:Con:=⟨H.p,H.r,F⟩
theorem ok:ConOk P_ gl 190 c:=co H func190 (.cons F173.ok .nil) rn
end F190
namespace F164
abbrev R_:=(LB×Int×Int)
abbrev K_:=S→Option R_
noncomputable def H:Hd:=⟨[.agg [Sb,Si],Sq,Si],[.agg [Ob 5,Si],Si],(.seq .d (.seq .d (.seq .d (.cut [3,6] [] (.keep [1,2,3,6,40,41] true) .d)))),⟨[(161,F161.c),(190,F190.c)],gl,false⟩,[(191,(.blk (.loop [0,1,2] [] (.seq .d (.blk (.cut [0,1,2] [] .d (.seq .d (.cut [0,1,2,7] [] .d .d))))))))],f164⟩
def t15(b:UInt64)(a:Int)(m:UInt64)(h f:Int)(o:LB):S:=⟨[(0, .ptr 0 []),(1,vq m),(2,vi h)],[.box 188 (.agg [.own 2,vi f]), .box 188 (.agg [.nils,vi 0]),Ab 5 o],[[(1,vq b),(2,vi a),(3, .ptr 0 []),(6, .ptr 1 []),(40,vq b),(41,vi a)]]⟩
def z15:Nat→S→Option R_:=H.i P_ [r,r,r,l,(call 2 191),d]
def t22(b:UInt64)(a:Int)(n:UInt64)(k g:Int)(p:LB):S:=⟨[(0, .ptr 0 []),(1,vq n),(2,vi k)],[.box 188 (.agg [.own 2,vi g]), .box 188 (.agg [.nils,vi 0]),Ab 5 p],[[(1,vq b),(2,vi a),(3, .ptr 0 []),(6, .ptr 1 []),(40,vq b),(41,vi a)]]⟩
def z22:Nat→S→Option R_:=H.i P_ [r,r,r,l,(call 2 191),d]
def x21(f:Int)(o:LB):Option R_:=H.e P_ [r,r,r,r] ⟨[(3, .ptr 0 []),(6, .ptr 1 [])],[.box 188 (.agg [.own 2,vi f]), .box 188 (.agg [.nils,vi 0]),Ab 5 o],[]⟩
def x19(kn15:K_)(b:UInt64)(a:Int)(m:UInt64)(h f:Int)(w:LB):Option R_:=H.e P_ [r,r,r,l,(call 2 191),d,(lp kn15),r,d,r,r,r] ⟨[(0, .ptr 0 []),(1,vq m),(2,vi h),(7,vi (Dj h (Aj (8:Int) (Dc f (7:Int)))))],[.box 188 (.agg [.own 2,vi f]), .box 188 (.agg [.nils,vi 0]),Ab 5 w],[[(1,vq b),(2,vi a),(3, .ptr 0 []),(6, .ptr 1 []),(40,vq b),(41,vi a)]]⟩
def x18(kn15:K_)(b:UInt64)(a:Int)(m:UInt64)(h f:Int)(u:LB):Option R_:=H.e P_ [r,r,r,l,(call 2 191),d,(lp kn15),r,d,r] ⟨[(0, .ptr 0 []),(1,vq m),(2,vi h)],[.box 188 (.agg [.own 2,vi f]), .box 188 (.agg [.nils,vi 0]),Ab 5 u],[[(1,vq b),(2,vi a),(3, .ptr 0 []),(6, .ptr 1 []),(40,vq b),(41,vi a)]]⟩
def x15(b:UInt64)(a:Int)(m:UInt64)(h f:Int)(o:LB):Option R_:=H.e P_ [r,r,r,l,(call 2 191),d] (t15 b a m h f o)
def x28(g:Int)(p:LB):Option R_:=H.e P_ [r,r,r,r] ⟨[(3, .ptr 0 []),(6, .ptr 1 [])],[.box 188 (.agg [.own 2,vi g]), .box 188 (.agg [.nils,vi 0]),Ab 5 p],[]⟩
def x26(kn22:K_)(b:UInt64)(a:Int)(n:UInt64)(k g:Int)(y:LB):Option R_:=H.e P_ [r,r,r,l,(call 2 191),d,(lp kn22),r,d,r,r,r] ⟨[(0, .ptr 0 []),(1,vq n),(2,vi k),(7,vi (Dj k (Aj (8:Int) (Dc g (7:Int)))))],[.box 188 (.agg [.own 2,vi g]), .box 188 (.agg [.nils,vi 0]),Ab 5 y],[[(1,vq b),(2,vi a),(3, .ptr 0 []),(6, .ptr 1 []),(40,vq b),(41,vi a)]]⟩
def x25(kn22:K_)(b:UInt64)(a:Int)(n:UInt64)(k g:Int)(v:LB):Option R_:=H.e P_ [r,r,r,l,(call 2 191),d,(lp kn22),r,d,r] ⟨[(0, .ptr 0 []),(1,vq n),(2,vi k)],[.box 188 (.agg [.own 2,vi g]), .box 188 (.agg [.nils,vi 0]),Ab 5 v],[[(1,vq b),(2,vi a),(3, .ptr 0 []),(6, .ptr 1 []),(40,vq b),(41,vi a)]]⟩
def x22(b:UInt64)(a:Int)(n:UInt64)(k g:Int)(p:LB):Option R_:=H.e P_ [r,r,r,l,(call 2 191),d] (t22 b a n k g p)
theorem e21:x21=At3:=by kernel_rfl
theorem e19(kn15:K_)(b:UInt64)(a:Int):x19 kn15 b a=Ase (fun m h f o=>kn15 (t15 b a m h f o)) b a:=by kernel_rfl
theorem e18(kn15:K_)(b:UInt64)(a:Int):x18 kn15 b a=Akb (fun m h f o=>kn15 (t15 b a m h f o)) b a:=Eq.trans (b:=Atq (x19 kn15 b a) b a) (by kernel_rfl) (by simp only[e19]<;>rfl)
theorem i15(b:UInt64)(a:Int):∀(q:Nat) (m:UInt64) (h f:Int) (o:LB),z15 q (t15 b a m h f o)=Nu b a q m h f o:=
 ind (fun _ _ _ _=>by kernel_rfl) fun q ih m h f o=>Eq.trans (b:=Aj7 (x18 (z15 q) b a) x21 b a m h f o) (by kernel_rfl) (by simp only[e18,e21,ih]<;>rfl)
theorem e15:x15=Bct:=by funext b a m h f o;exact Eq.trans (by kernel_rfl) ((i15 b a Cq m h f o).trans (by rw[Aq];rfl))
theorem e28:x28=Bci:=by kernel_rfl
theorem e26(kn22:K_)(b:UInt64)(a:Int):x26 kn22 b a=Bcl (fun n k g p=>kn22 (t22 b a n k g p)) b a:=by kernel_rfl
theorem e25(kn22:K_)(b:UInt64)(a:Int):x25 kn22 b a=Bcy (fun n k g p=>kn22 (t22 b a n k g p)) b a:=Eq.trans (b:=Bcp (x26 kn22 b a) b a) (by kernel_rfl) (by simp only[e26]<;>rfl)
theorem i22(b:UInt64)(a:Int):∀(q:Nat) (n:UInt64) (k g:Int) (p:LB),z22 q (t22 b a n k g p)=Ar9 b a q n k g p:=
 ind (fun _ _ _ _=>by kernel_rfl) fun q ih n k g p=>Eq.trans (b:=Bcd (x25 (z22 q) b a) x28 b a n k g p) (by kernel_rfl) (by simp only[e25,e28,ih]<;>rfl)
theorem e22:x22=Bde:=by funext b a n k g p;exact Eq.trans (by kernel_rfl) ((i22 b a Cq n k g p).trans (by rw[Aq];rfl))
noncomputable def F:=u4 Alr
theorem rn x:H.u P_ x=F x:=Eq.trans (b:=u4 (Axs x15 x22) x) (by kernel_rfl) (by simp only[e15,e22]<;>rfl)
noncomputable def c:Con:=⟨H.p,H.r,F⟩
theorem ok:ConOk P_ gl 164 c:=cr H func164 (.cons F161.ok (.cons F190.ok .nil)) (AnsOk.cons ent191 AnsOk.nil) rn
end F164
namespace F192
noncomputable def H:Hd:=⟨[Su,Si],[Sz], .d,⟨[],gl,false⟩,[],f192⟩
noncomputable def F:=u2 Wj
theorem rn x:H.u P_ x=F x:=by kernel_rfl
noncomputable def c:Con:=⟨H.p,H.r,F⟩
theorem ok:ConOk P_ gl 192 c:=co H func192 .nil rn
end F192
namespace F208
noncomputable def H:Hd:=⟨[Si],[Si,Si], .d,⟨[],gl,false⟩,[],f208⟩
noncomputable def F:=Atv
theorem rn x:H.u P_ x=F x:=by kernel_rfl
noncomputable def c:Con:=⟨H.p,H.r,F⟩
theorem ok:ConOk P_ gl 208 c:=co H func208 .nil rn
end F208
namespace F193
noncomputable def H:Hd:=⟨[.agg [Sb,Si],Si],[.agg [Ob 5,Si],Si], .d,⟨[(161,F161.c),(164,F164.c),(208,F208.c)],gl,false⟩,[],f193⟩
noncomputable def F:=u3 An9
theorem rn x:H.u P_ x=F x:=by kernel_rfl
noncomputable def c:Con:=⟨H.p,H.r,F⟩
theorem ok:ConOk P_ gl 193 c:=co H func193 (.cons F161.ok (.cons F164.ok (.cons F208.ok .nil))) rn
end F193
namespace F165
abbrev R_:=(LB×Int×Int)
noncomputable def H:Hd:=⟨[.agg [Sb,Si],Su,Si],[.agg [Ob 5,Si],Si],(.seq .d (.seq .d (.seq .d (.seq .d (.cut [3,6,9,10,11] [] .d .d))))),⟨[(161,F161.c),(164,F164.c),(192,F192.c),(193,F193.c)],gl,false⟩,[],f165⟩
def x2(b:LB)(f h:Int)(k:UInt32)(m:Int):Option R_:=H.e P_ [r,r,r,r,r] ⟨[(3, .ptr 0 []),(6, .ptr 1 []),(9,vi h),(10,vu k),(11,vi m)],[.box 188 (.agg [vb b,vi f]), .box 188 (.agg [.nils,vi 0])],[]⟩
theorem e2:x2=Agh:=by kernel_rfl
noncomputable def F:=u4 Atu
theorem rn x:H.u P_ x=F x:=Eq.trans (b:=u4 (Ap4 x2) x) (by kernel_rfl) (by simp only[e2]<;>rfl)
noncomputable def c:Con:=⟨H.p,H.r,F⟩
theorem ok:ConOk P_ gl 165 c:=co H func165 (.cons F161.ok (.cons F164.ok (.cons F192.ok (.cons F193.ok .nil)))) rn
end F165
namespace F127
def Ai5(k u n:Int)(a:UInt64)(b:UInt32)(o:UInt64)(m:LB):Option (LB×Int×Int×Int×UInt64×UInt64×Int):=
(fun af:Option (LB×Int×Int×Int×UInt64×UInt64×Int)=>
both (
bo (
af)) [
af]) (
some (m,k,u,n,(Ad a (Aj (Af b:UInt64) (Bi a (GI.toZ (4:UInt64)).toNat))),o,0))
theorem Baf: @Ai5= @Ac2:=by
  unfold Ai5 Ac2
  try simp only[Bc4,Atk,Asf]
  all_goals
    repeat (refine funext fun _=>?_)
    repeat' first
      |with_reducible rfl
      |with_reducible refine Vz ?_ ?_
      |with_reducible refine Vs ?_ ?_ ?_
      |with_reducible refine Vu ?_ ?_ ?_ ?_
      |((with_reducible refine Ac1 ?_ ?_);focus (intro h;first|(subst h;rfl)|(simp only[h];rfl)|(simp[Ek,Ac,h];done)))
      |with_reducible refine Acy fun x=>?_
      |with_reducible refine Anc (fun _=>?_) (fun _=>?_)
      |(refine Mc (fun h=>by simp only[h,Aby,Hx,Hh,ite_self]) (fun x h=>?_);(try simp only[h,Hx]))
      |(refine Pq (fun h=>?_) (fun h=>?_)<;>simp only[h,if_true,if_false,Bool.false_eq_true])
abbrev R_:=(LB×Int×Int×Int×UInt64×UInt64×Int)
noncomputable def H:Hd:=⟨[.agg [Sb,Si], .agg [Si,Si,Sq,Sq],Su],[.agg [Ob 5,Si], .agg [Si,Si,Sq,Sq],Si],(.seq .d (.cut [2,3,4,6,7] [] .d (.seq .d (.seq .d (.cut [2,3,4,6,7,11] [] .d (.seq .d (.cut [3,4,6,7] [] (.keep [2,3,4,6,7,65] true) (.seq (.mode false) .d)))))))),⟨[(161,F161.c),(162,F162.c),(163,F163.c),(164,F164.c),(165,F165.c)],gl,false⟩,[(166,(.seq .d (.seq .d (.seq .d (.blk (.cut [0,1,4] [] (.blk (.seq .d (.keep [0,1,4,6,18,19,20,21,22,23,24,25] true))) (.cut [] [] (.keep [0,1,4,27,28,29,30,31,32,33,34] true) .d))))))),(194, .d)],f127⟩
def x10(k u n:Int)(a:UInt64)(b:UInt32)(o:UInt64)(m:LB):Option R_:=H.e P_ [r,r,r,r,r,r,r] ⟨[(3, .ptr 0 []),(4, .ptr 1 []),(6, .ptr 2 []),(7, .ptr 3 [])],[.box 188 (.agg [.own 4,vi k]), .box 184 (.agg [vi u,vi n,vq (Ad a (Aj (Af b:UInt64) (Bi a (GI.toZ (4:UInt64)).toNat))),vq o]), .box 188 (.agg [.nils,vi 0]), .box 184 (.agg [vi 0,vi 0,vq 0,vq 0]),Ab 5 m],[]⟩
def x9(b:UInt32)(k n:Int)(a o:UInt64)(m:LB)(u:Int):Option R_:=H.e P_ [r,r,r,r,r,r,l,(call 1 166),r,r,r,d,r,r] ⟨[],[.box 188 (.agg [.own 4,vi k]), .box 184 (.agg [vi u,vi n,vq (Ad a (Aj (Af b:UInt64) (Bi a (GI.toZ (4:UInt64)).toNat))),vq o]), .box 188 (.agg [.nils,vi 0]), .box 184 (.agg [vi 0,vi 0,vq 0,vq 0]),Ab 5 m],[[(2,vu b),(3, .ptr 0 []),(4, .ptr 1 []),(6, .ptr 2 []),(7, .ptr 3 []),(65,vu b)]]⟩
def x8(b:UInt32)(f:Int)(a:UInt64)(k:Int)(m:LB)(n:Int)(o:UInt64):Option R_:=H.e P_ [r,r,r,r,r,r,l,(call 1 166),r,r,r,d,r] ⟨[(0, .ptr 0 []),(1,vu b),(4, .fn 194 [])],[.box 184 (.agg [vi f,vi n,vq a,vq o]), .box 188 (.agg [.own 4,vi k]), .box 188 (.agg [.nils,vi 0]), .box 184 (.agg [vi 0,vi 0,vq 0,vq 0]),Ab 5 m],[[(2,vu b),(3, .ptr 1 []),(4, .ptr 0 []),(6, .ptr 2 []),(7, .ptr 3 []),(65,vu b)]]⟩
def x7(b:UInt32)(f h:Int)(a g:UInt64)(y k:Int)(m:LB):Option R_:=H.e P_ [r,r,r,r,r] ⟨[(2,vu b),(3, .ptr 0 []),(4, .ptr 1 []),(6, .ptr 2 []),(7, .ptr 3 []),(11,vi y)],[.box 188 (.agg [.own 4,vi k]), .box 184 (.agg [vi f,vi h,vq a,vq g]), .box 188 (.agg [.nils,vi 0]), .box 184 (.agg [vi 0,vi 0,vq 0,vq 0]),Ab 5 m],[]⟩
def x6(b:UInt32)(v:LB)(w f h:Int)(a g:UInt64):Option R_:=H.e P_ [r,r] ⟨[(2,vu b),(3, .ptr 0 []),(4, .ptr 1 []),(6, .ptr 2 []),(7, .ptr 3 [])],[.box 188 (.agg [vb v,vi w]), .box 184 (.agg [vi f,vi h,vq a,vq g]), .box 188 (.agg [.nils,vi 0]), .box 184 (.agg [vi 0,vi 0,vq 0,vq 0])],[]⟩
theorem e10:x10=Ans:=Eq.trans (b:=Ai5) (by kernel_rfl) (by rw[Baf];rfl)
theorem e9:x9=Ap3:=Eq.trans (b:=Aqb x10) (by kernel_rfl) (by simp only[e10]<;>rfl)
theorem e8:x8=Yf:=Eq.trans (b:=Apv x9) (by kernel_rfl) (by simp only[e9]<;>rfl)
theorem e7:x7=Af9:=Eq.trans (b:=Aqc x8) (by kernel_rfl) (by simp only[e8]<;>rfl)
theorem e6:x6=Apa:=Eq.trans (b:=Apc x7) (by kernel_rfl) (by simp only[e7]<;>rfl)
noncomputable def F:=u7 Asb
theorem rn x:H.u P_ x=F x:=Eq.trans (b:=u7 (Apf x6) x) (by kernel_rfl) (by simp only[e6]<;>rfl)
noncomputable def c:Con:=⟨H.p,H.r,F⟩
theorem ok:ConOk P_ gl 127 c:=cr H func127 (.cons F161.ok (.cons F162.ok (.cons F163.ok (.cons F164.ok (.cons F165.ok .nil))))) (AnsOk.cons ent166 (AnsOk.cons ent194 AnsOk.nil)) rn
end F127
namespace F131
abbrev R_:=(UInt32×Int)
abbrev K_:=S→Option R_
noncomputable def H:Hd:=⟨[Su,Sb],[Su,Si],(.seq .d (.seq .d (.cut [0,1,6] [] (.keep [0,1,6,12] true) (.cut [0] [] (.seq .d (.blk (.loop [0,6,13,14,15] [] .d))) .d)))),⟨[],gl,false⟩,[(168,(.seq .d (.seq .d (.cut [1] [] (.seq .d (.blk (.loop [1,5] [] (.seq .d (.seq .d (.cut [1,5] [] (.blk (.seq .d (.seq .d (.cut [1,2,3,5] [] (.seq .d (.blk (.loop [1,2,3,5,10] [] .d))) .d)))) .d)))))) .d))))],f131⟩
def t28(a:LB)(b:LU)(h:UInt32)(m:Int):S:=⟨[(0,vu h),(6, .ptr 0 []),(13,vb a),(14,vi (Ac a)),(15,vi m)],[.box 276 (.val (.vec 256 (.int .u32)) b)],[]⟩
def z28:Nat→S→Option R_:=H.i P_ [r,r,r,l,r,d]
def t21(f:UInt32)(a:LB)(g:Int)(b:LU)(k:UInt32)(n:Int):S:=⟨[(1, .ptr 0 []),(2,vi g),(3,vu k),(5,vi g),(10,vi n)],[.box 276 (.val (.vec 256 (.int .u32)) b)],[[(0,vu f),(1,vb a)]]⟩
def z21(kn16:K_):Nat→S→Option R_:=H.i P_ [r,r,l,(call 0 168),r,r,l,r,d,(lp kn16),r,r,l,d,r,r,l,r,d]
def t16(f:UInt32)(a:LB)(g:Int)(b:LU):S:=⟨[(1, .ptr 0 []),(5,vi g)],[.box 276 (.val (.vec 256 (.int .u32)) b)],[[(0,vu f),(1,vb a)]]⟩
def z16:Nat→S→Option R_:=H.i P_ [r,r,l,(call 0 168),r,r,l,r,d]
def x30(h:UInt32):Option R_:=H.e P_ [r,r,r,r] ⟨[(0,vu h)],[],[]⟩
def x28(a:LB)(b:LU)(h:UInt32)(m:Int):Option R_:=H.e P_ [r,r,r,l,r,d] (t28 a b h m)
def x27(f:UInt32)(a:LB)(b:LU):Option R_:=H.e P_ [r,r,r] ⟨[(0,vu f),(1,vb a),(6, .ptr 0 [])],[.box 276 (.val (.vec 256 (.int .u32)) b)],[]⟩
def x26(f:UInt32)(a:LB)(b:LU):Option R_:=H.e P_ [r,r,l,(call 0 168),r,r,r] ⟨[(1, .ptr 0 [])],[.box 276 (.val (.vec 256 (.int .u32)) b)],[[(0,vu f),(1,vb a)]]⟩
def x24(kn16:K_)(f:UInt32)(a:LB)(g:Int)(o:LU):Option R_:=H.e P_ [r,r,l,(call 0 168),r,r,l,r,d,(lp kn16),r,r,r] ⟨[(1, .ptr 0 []),(5,vi g)],[.box 276 (.val (.vec 256 (.int .u32)) o)],[[(0,vu f),(1,vb a)]]⟩
def x23(kn16:K_)(f:UInt32)(a:LB)(g:Int)(k:UInt32)(b:LU):Option R_:=H.e P_ [r,r,l,(call 0 168),r,r,l,r,d,(lp kn16),r,r,l,d,r,r,r] ⟨[(1, .ptr 0 []),(2,vi g),(3,vu k),(5,vi g)],[.box 276 (.val (.vec 256 (.int .u32)) b)],[[(0,vu f),(1,vb a)]]⟩
def x21(kn16:K_)(f:UInt32)(a:LB)(g:Int)(b:LU)(k:UInt32)(n:Int):Option R_:=H.e P_ [r,r,l,(call 0 168),r,r,l,r,d,(lp kn16),r,r,l,d,r,r,l,r,d] (t21 f a g b k n)
def x16(f:UInt32)(a:LB)(g:Int)(b:LU):Option R_:=H.e P_ [r,r,l,(call 0 168),r,r,l,r,d] (t16 f a g b)
theorem e30:x30=Ak4:=by kernel_rfl
theorem i28(a:LB)(b:LU):∀(q:Nat) (h:UInt32) (m:Int),z28 q (t28 a b h m)=Qd a b q h m:=
 ind (fun _ _=>by kernel_rfl) fun q ih h m=>Eq.trans (b:=Ad3 x30 (fun h m=>(z28 q) (t28 a b h m)) a b h m) (by kernel_rfl) (by simp only[e30,ih]<;>rfl)
theorem e28:x28=Al5:=by funext a b h m;exact Eq.trans (by kernel_rfl) ((i28 a b Cq h m).trans (by rw[Aq];rfl))
theorem e27:x27=Anj:=Eq.trans (b:=Amv x28) (by kernel_rfl) (by simp only[e28]<;>rfl)
theorem e26:x26=Acw:=Eq.trans (b:=Akx x27) (by kernel_rfl) (by simp only[e27]<;>rfl)
theorem e24(kn16:K_)(f:UInt32)(a:LB):x24 kn16 f a=Anb (fun g b=>kn16 (t16 f a g b)) f a:=by kernel_rfl
theorem e23(kn16:K_)(f:UInt32)(a:LB):x23 kn16 f a=Ab9 (fun g b=>kn16 (t16 f a g b)) f a:=Eq.trans (b:=Am5 (x24 kn16 f a) f a) (by kernel_rfl) (by simp only[e24]<;>rfl)
theorem i21(kn16:K_)(f:UInt32)(a:LB)(g:Int)(b:LU):∀(q:Nat) (k:UInt32) (n:Int),z21 kn16 q (t21 f a g b k n)=Qc (fun g b=>kn16 (t16 f a g b)) f a g b q k n:=
 ind (fun _ _=>by kernel_rfl) fun q ih k n=>Eq.trans (b:=Adu (x23 kn16 f a) (fun k n=>(z21 kn16 q) (t21 f a g b k n)) f a g b k n) (by kernel_rfl) (by simp only[e23,ih]<;>rfl)
theorem e21(kn16:K_)(f:UInt32)(a:LB):x21 kn16 f a=Aly (fun g b=>kn16 (t16 f a g b)) f a:=by funext g b k n;exact Eq.trans (by kernel_rfl) ((i21 kn16 f a g b Cq k n).trans (by rw[Aq];rfl))
theorem i16(f:UInt32)(a:LB):∀(q:Nat) (g:Int) (b:LU),z16 q (t16 f a g b)=Lz f a q g b:=
 ind (fun _ _=>by kernel_rfl) fun q ih g b=>Eq.trans (b:=Abc (x21 (z16 q) f a) x26 f a g b) (by kernel_rfl) (by simp only[e21,e26,ih]<;>rfl)
theorem e16:x16=Al7:=by funext f a g b;exact Eq.trans (by kernel_rfl) ((i16 f a Cq g b).trans (by rw[Aq];rfl))
noncomputable def F:=u2 Asz
theorem rn x:H.u P_ x=F x:=Eq.trans (b:=u2 (Apb x16) x) (by kernel_rfl) (by simp only[e16]<;>rfl)
noncomputable def c:Con:=⟨H.p,H.r,F⟩
theorem ok:ConOk P_ gl 131 c:=cr H func131 .nil (AnsOk.cons ent168 AnsOk.nil) rn
end F131
namespace F91
noncomputable def H:Hd:=⟨[Sb],[Su,Si], .d,⟨[(131,F131.c)],gl,false⟩,[],f91⟩
noncomputable def F:=Wh
theorem rn x:H.u P_ x=F x:=by kernel_rfl
noncomputable def c:Con:=⟨H.p,H.r,F⟩
theorem ok:ConOk P_ gl 91 c:=co H func91 (.cons F131.ok .nil) rn
end F91
namespace F130
noncomputable def H:Hd:=⟨[Sq,Si],[Sz], .d,⟨[],gl,false⟩,[],f130⟩
noncomputable def F:=u2 Bgv
theorem rn x:H.u P_ x=F x:=by kernel_rfl
noncomputable def c:Con:=⟨H.p,H.r,F⟩
theorem ok:ConOk P_ gl 130 c:=co H func130 .nil rn
end F130
namespace F90
abbrev R_:=(LB×Int)
noncomputable def H:Hd:=⟨[Sq,Si],[Ob 5,Si],(.seq .d (.seq .d (.seq .d (.seq .d (.cut [6] [] (.seq .d (.blk (.loop [0,6,21,22] [] .d))) .d))))),⟨[(130,F130.c)],gl,false⟩,[],f90⟩
def t4(f:UInt64)(g:LB)(b:Int)(a:LB):S:=⟨[(0,vq f),(6, .own 0),(21,vi (Ac g)),(22,vi b)],[Ab 5 a],[]⟩
def z4:Nat→S→Option R_:=H.i P_ [r,r,r,r,l,r,d]
def x6(a:LB):Option R_:=H.e P_ [r,r,r,r,r] ⟨[(6, .own 0)],[Ab 5 a],[]⟩
def x4(f:UInt64)(g:LB)(b:Int)(a:LB):Option R_:=H.e P_ [r,r,r,r,l,r,d] (t4 f g b a)
theorem e6:x6=Avs:=by kernel_rfl
theorem i4(f:UInt64)(g:LB):∀(q:Nat) (b:Int) (a:LB),z4 q (t4 f g b a)=Aar f g q b a:=
 ind (fun _ _=>by kernel_rfl) fun q ih b a=>Eq.trans (b:=Aoz x6 (fun b a=>(z4 q) (t4 f g b a)) f g b a) (by kernel_rfl) (by simp only[e6,ih]<;>rfl)
theorem e4:x4=Axm:=by funext f g b a;exact Eq.trans (by kernel_rfl) ((i4 f g Cq b a).trans (by rw[Aq];rfl))
noncomputable def F:=u2 Ye
theorem rn x:H.u P_ x=F x:=Eq.trans (b:=u2 (Av1 x4) x) (by kernel_rfl) (by simp only[e4]<;>rfl)
noncomputable def c:Con:=⟨H.p,H.r,F⟩
theorem ok:ConOk P_ gl 90 c:=co H func90 (.cons F130.ok .nil) rn
end F90
namespace F129
abbrev R_:=LB
noncomputable def H:Hd:=⟨[.lf (.list (.list (.int .u8))) none],[Ob 5],(.seq .d (.seq .d (.cut [0,3] [] (.seq .d (.blk (.loop [0,3,9,10,11] [] .d))) (.cut [0,6] [⟨6,[], .own 5 (.int .u8)⟩] (.keep [0,3,6,23,24] true) (.cut [6] [] (.seq .d (.blk (.loop [6,25,26,27] [] .d))) .d))))),⟨[],gl,true⟩,[(167,(.seq .d (.cut [0,1] [] .d .d)))],f129⟩
def t14(a:List LB)(g:Int)(f:LB):S:=⟨[(6, .own 0),(25, .val (.list (.list (.int .u8))) a),(26,vi (Ac a)),(27,vi g)],[Ab 5 f],[]⟩
def z14:Nat→S→Option R_:=H.i P_ [r,r,r,r,l,r,d]
def t9(a:List LB)(b h:Int):S:=⟨[(0, .val (.list (.list (.int .u8))) a),(3,vi b),(9, .val (.list (.list (.int .u8))) a),(10,vi (Ac a)),(11,vi h)],[],[]⟩
def z9:Nat→S→Option R_:=H.i P_ [r,r,l,r,d]
def x16(f:LB):Option R_:=H.e P_ [r,r,r,r,r] ⟨[(6, .own 0)],[Ab 5 f],[]⟩
def x14(a:List LB)(g:Int)(f:LB):Option R_:=H.e P_ [r,r,r,r,l,r,d] (t14 a g f)
def x13(a:List LB)(k:LB):Option R_:=H.e P_ [r,r,r,r] ⟨[(0, .val (.list (.list (.int .u8))) a),(6, .own 0)],[Ab 5 k],[]⟩
def x12(b:Int)(a:List LB):Option R_:=H.e P_ [r,r,r,l,(call 1 167),r,r] ⟨[(0, .nils),(1,vi b)],[],[[(0, .val (.list (.list (.int .u8))) a),(3,vi b),(23,vi b)]]⟩
def x11(a:List LB)(b:Int):Option R_:=H.e P_ [r,r,r] ⟨[(0, .val (.list (.list (.int .u8))) a),(3,vi b)],[],[]⟩
def x9(a:List LB)(b h:Int):Option R_:=H.e P_ [r,r,l,r,d] (t9 a b h)
theorem e16:x16=Uj:=by kernel_rfl
theorem i14(a:List LB):∀(q:Nat) (g:Int) (f:LB),z14 q (t14 a g f)=Db a q g f:=
 ind (fun _ _=>by kernel_rfl) fun q ih g f=>Eq.trans (b:=Ej x16 (fun g f=>(z14 q) (t14 a g f)) a g f) (by kernel_rfl) (by simp only[e16,ih]<;>rfl)
theorem e14:x14=Lq:=by funext a g f;exact Eq.trans (by kernel_rfl) ((i14 a Cq g f).trans (by rw[Aq];rfl))
theorem e13:x13=Gt:=Eq.trans (b:=Li x14) (by kernel_rfl) (by simp only[e14]<;>rfl)
theorem e12:x12=Lg:=Eq.trans (b:=Lf x13) (by kernel_rfl) (by simp only[e13]<;>rfl)
theorem e11:x11=Lb:=Eq.trans (b:=Le x12) (by kernel_rfl) (by simp only[e12]<;>rfl)
theorem i9(a:List LB):∀(q:Nat) (b h:Int),z9 q (t9 a b h)=Di a q b h:=
 ind (fun _ _=>by kernel_rfl) fun q ih b h=>Eq.trans (b:=Ex x11 (fun b h=>(z9 q) (t9 a b h)) a b h) (by kernel_rfl) (by simp only[e11,ih]<;>rfl)
theorem e9:x9=Md:=by funext a b h;exact Eq.trans (by kernel_rfl) ((i9 a Cq b h).trans (by rw[Aq];rfl))
noncomputable def F:=Jw
theorem rn x:H.u P_ x=F x:=Eq.trans (b:=Ly x9 x) (by kernel_rfl) (by simp only[e9]<;>rfl)
noncomputable def c:Con:=⟨H.p,H.r,F⟩
theorem ok:ConOk P_ gl 129 c:=cr H func129 .nil (AnsOk.cons ent167 AnsOk.nil) rn
end F129
namespace F87
abbrev R_:=(LB×Int)
abbrev K_:=S→Option R_
noncomputable def H:Hd:=⟨[.agg [Si,Si], .lf (.vec 16 (.int .i32)) none,Sw],[Ob 5,Si],(.seq .d (.seq .d (.seq .d (.seq .d (.seq .d (.cut [11] [] (.seq .d (.blk (.loop [3,10,11,30,31,32] [⟨11,[0], .own 5 (.int .u8)⟩] (.seq .d (.seq .d (.cut [3,10,11,30,31,32] [] (.blk (.seq .d (.seq .d (.seq .d (.seq .d (.keep [3,10,11,14,30,31,32,59] true)))))) .d)))))) .d)))))),⟨[(90,F90.c),(91,F91.c),(125,F125.c),(126,F126.c),(127,F127.c),(129,F129.c)],gl,false⟩,[(128,(.seq .d (.seq .d (.blk (.loop [0,3,7,8] [] (.seq .d (.seq .d (.seq (.blk (.seq .d (.cut [0,3,4,7,8] [] .d (.seq .d (.cut [0,3,7,8] [] .d .d))))) .d))))))))],f87⟩
def t44(a:LU)(b f h g:Int)(k:List (Int×Int×UInt64×UInt64×Unit))(m:LB)(o n:Int)(v:LB):S:=⟨[(0, .ptr 0 []),(3, .ptr 1 []),(7,vi h),(8,vi o)],[.box 188 (.agg [.own 7,vi n]), .box 188 (.agg [.own 6,vi h]), .box 74 (.agg [vi b,vi f]), .box 185 (.val (.vec 6 (.cons (.int .i64) (.cons (.int .i64) (.cons (.int .u64) (.cons (.int .u64) .nil))))) k), .box 188 (.agg [.own 6,vi h]),Av 60 a,Ab 5 m,Ab 5 v],[[(3, .ptr 2 []),(10, .ptr 3 []),(11, .ptr 0 []),(14, .ptr 4 []),(30, .own 5),(31,vi (Ac a)),(32,vi g),(59, .agg [.own 6,vi h])]]⟩
def z44(kn27:K_):Nat→S→Option R_:=H.i P_ [r,r,r,r,r,l,r,d,(lp kn27),r,r,l,d,r,r,r,r,(call 1 128),r,r,d]
def t27(a:LU)(b f g:Int)(w:List (Int×Int×UInt64×UInt64×Unit))(u:Int)(p:LB):S:=⟨[(3, .ptr 0 []),(10, .ptr 1 []),(11, .ptr 2 []),(30, .own 3),(31,vi (Ac a)),(32,vi g)],[.box 74 (.agg [vi b,vi f]), .box 185 (.val (.vec 6 (.cons (.int .i64) (.cons (.int .i64) (.cons (.int .u64) (.cons (.int .u64) .nil))))) w), .box 188 (.agg [.own 4,vi u]),Av 60 a,Ab 5 p],[]⟩
def z27:Nat→S→Option R_:=H.i P_ [r,r,r,r,r,l,r,d]
def x52(u:Int)(p:LB):Option R_:=H.e P_ [r,r,r,r,r,r] ⟨[(11, .ptr 0 [])],[.box 188 (.agg [.own 1,vi u]),Ab 5 p],[]⟩
def x50(kn27:K_)(a:LU)(b f g:Int)(k:List (Int×Int×UInt64×UInt64×Unit))(n:Int)(v:LB):Option R_:=H.e P_ [r,r,r,r,r,l,r,d,(lp kn27),r,r,r] ⟨[(3, .ptr 0 []),(10, .ptr 1 []),(11, .ptr 2 []),(30, .own 3),(31,vi (Ac a)),(32,vi g)],[.box 74 (.agg [vi b,vi f]), .box 185 (.val (.vec 6 (.cons (.int .i64) (.cons (.int .i64) (.cons (.int .u64) (.cons (.int .u64) .nil))))) k), .box 188 (.agg [.own 4,vi n]),Av 60 a,Ab 5 v],[]⟩
def x48(kn27 kn44:K_)(h:Int)(a:LU)(g b f:Int)(k:List (Int×Int×UInt64×UInt64×Unit))(m:LB)(o n:Int)(aa:LB):Option R_:=H.e P_ [r,r,r,r,r,l,r,d,(lp kn27),r,r,l,d,r,r,r,r,(call 1 128),r,r,d,(lp kn44),r,r,l,d,r,r,r,r] ⟨[(0, .ptr 0 []),(3, .ptr 1 []),(7,vi h),(8,vi o)],[.box 188 (.agg [.own 7,vi n]), .box 188 (.agg [.own 6,vi h]), .box 74 (.agg [vi b,vi f]), .box 185 (.val (.vec 6 (.cons (.int .i64) (.cons (.int .i64) (.cons (.int .u64) (.cons (.int .u64) .nil))))) k), .box 188 (.agg [.own 6,vi h]),Av 60 a,Ab 5 m,Ab 5 aa],[[(3, .ptr 2 []),(10, .ptr 3 []),(11, .ptr 0 []),(14, .ptr 4 []),(30, .own 5),(31,vi (Ac a)),(32,vi g),(59, .agg [.own 6,vi h])]]⟩
def x47(kn27 kn44:K_)(h:Int)(a:LU)(g b f:Int)(k:List (Int×Int×UInt64×UInt64×Unit))(m:LB)(o n:Int)(y:LB):Option R_:=H.e P_ [r,r,r,r,r,l,r,d,(lp kn27),r,r,l,d,r,r,r,r,(call 1 128),r,r,d,(lp kn44),r,r,l,d,r,r] ⟨[(0, .ptr 0 []),(3, .ptr 1 []),(4,vi o),(7,vi h),(8,vi o)],[.box 188 (.agg [.own 7,vi n]), .box 188 (.agg [.own 6,vi h]), .box 74 (.agg [vi b,vi f]), .box 185 (.val (.vec 6 (.cons (.int .i64) (.cons (.int .i64) (.cons (.int .u64) (.cons (.int .u64) .nil))))) k), .box 188 (.agg [.own 6,vi h]),Av 60 a,Ab 5 m,Ab 5 y],[[(3, .ptr 2 []),(10, .ptr 3 []),(11, .ptr 0 []),(14, .ptr 4 []),(30, .own 5),(31,vi (Ac a)),(32,vi g),(59, .agg [.own 6,vi h])]]⟩
def x44(kn27:K_)(a:LU)(b f h g:Int)(k:List (Int×Int×UInt64×UInt64×Unit))(m:LB)(o n:Int)(v:LB):Option R_:=H.e P_ [r,r,r,r,r,l,r,d,(lp kn27),r,r,l,d,r,r,r,r,(call 1 128),r,r,d] (t44 a b f h g k m o n v)
def x27(a:LU)(b f g:Int)(w:List (Int×Int×UInt64×UInt64×Unit))(u:Int)(p:LB):Option R_:=H.e P_ [r,r,r,r,r,l,r,d] (t27 a b f g w u p)
theorem e52:x52=Zk:=by kernel_rfl
theorem e50(kn27:K_)(a:LU)(b f:Int):x50 kn27 a b f=Zj (fun g w u p=>kn27 (t27 a b f g w u p)) a b f:=by kernel_rfl
theorem e48(kn27 kn44:K_)(a:LU)(b f h g:Int)(k:List (Int×Int×UInt64×UInt64×Unit))(m:LB):x48 kn27 kn44 h a g b f k m=Zx (fun o n v=>kn44 (t44 a b f h g k m o n v)) h a g b f k m:=by kernel_rfl
theorem e47(kn27 kn44:K_)(a:LU)(b f h g:Int)(k:List (Int×Int×UInt64×UInt64×Unit))(m:LB):x47 kn27 kn44 h a g b f k m=Rz (fun o n v=>kn44 (t44 a b f h g k m o n v)) h a g b f k m:=Eq.trans (b:=Zo (x48 kn27 kn44 h a g b f k m) h a g b f k m) (by kernel_rfl) (by simp only[e48]<;>rfl)
theorem i44(kn27:K_)(a:LU)(b f h g:Int)(k:List (Int×Int×UInt64×UInt64×Unit))(m:LB):∀(q:Nat) (o n:Int) (v:LB),z44 kn27 q (t44 a b f h g k m o n v)=Es (fun g w u p=>kn27 (t27 a b f g w u p)) a b f h g k m q o n v:=
 ind (fun _ _ _=>by kernel_rfl) fun q ih o n v=>Eq.trans (b:=Sa (x47 kn27 (z44 kn27 q) h a g b f k m) (x50 kn27 a b f) a b f h g k m o n v) (by kernel_rfl) (by simp only[e47,e50,ih]<;>rfl)
theorem e44(kn27:K_)(a:LU)(b f:Int):x44 kn27 a b f=Akw (fun g w u p=>kn27 (t27 a b f g w u p)) a b f:=by funext h g k m o n v;exact Eq.trans (by kernel_rfl) ((i44 kn27 a b f h g k m Cq o n v).trans (by rw[Aq];rfl))
theorem i27(a:LU)(b f:Int):∀(q:Nat) (g:Int) (w:List (Int×Int×UInt64×UInt64×Unit)) (u:Int) (p:LB),z27 q (t27 a b f g w u p)=Gh a b f q g w u p:=
 ind (fun _ _ _ _=>by kernel_rfl) fun q ih g w u p=>Eq.trans (b:=Sd (x44 (z27 q) a b f) x52 a b f g w u p) (by kernel_rfl) (by simp only[e44,e52,ih]<;>rfl)
theorem e27:x27=Zp:=by funext a b f g w u p;exact Eq.trans (by kernel_rfl) ((i27 a b f Cq g w u p).trans (by rw[Aq];rfl))
noncomputable def F:=u4 Qo
theorem rn x:H.u P_ x=F x:=Eq.trans (b:=u4 (Ada x27) x) (by kernel_rfl) (by simp only[e27]<;>rfl)
noncomputable def c:Con:=⟨H.p,H.r,F⟩
theorem ok:ConOk P_ gl 87 c:=cr H func87 (.cons F90.ok (.cons F91.ok (.cons F125.ok (.cons F126.ok (.cons F127.ok (.cons F129.ok .nil)))))) (AnsOk.cons ent128 AnsOk.nil) rn
end F87
theorem Bjh:ConOk Tryz.prog gl 39 Apw:=Bji F84.ok F85.ok F101.ok F87.ok F88.ok
namespace F98
abbrev R_:=Bool
noncomputable def H:Hd:=⟨[.agg [Si,Si,Si,Si,Si]],[Sz],(.seq .d (.cut [1] [] .d .d)),⟨[],gl,false⟩,[],f98⟩
def x2(b f a g h:Int):Option R_:=H.e P_ [r,r] ⟨[(1, .ptr 0 [])],[.box 32 (.agg [vi b,vi f,vi a,vi g,vi h])],[]⟩
theorem e2:x2=Ws:=by kernel_rfl
noncomputable def F:=u5 Ya
theorem rn x:H.u P_ x=F x:=Eq.trans (b:=u5 (Afl x2) x) (by kernel_rfl) (by simp only[e2]<;>rfl)
noncomputable def c:Con:=⟨H.p,H.r,F⟩
theorem ok:ConOk P_ gl 98 c:=co H func98 .nil rn
end F98
namespace F99
noncomputable def H:Hd:=⟨[.agg [Si,Si,Si,Si,Si]],[Sz], .d,⟨[(117,F117.c)],gl,false⟩,[],f99⟩
noncomputable def F:=u5 Ahy
theorem rn x:H.u P_ x=F x:=by kernel_rfl
noncomputable def c:Con:=⟨H.p,H.r,F⟩
theorem ok:ConOk P_ gl 99 c:=co H func99 (.cons F117.ok .nil) rn
end F99
namespace F89
noncomputable def H:Hd:=⟨[.agg [Si,Si,Si,Si,Si]],[Si], .d,⟨[(98,F98.c),(99,F99.c)],gl,false⟩,[],f89⟩
noncomputable def F:=u5 Rn
theorem rn x:H.u P_ x=F x:=by kernel_rfl
noncomputable def c:Con:=⟨H.p,H.r,F⟩
theorem ok:ConOk P_ gl 89 c:=co H func89 (.cons F98.ok (.cons F99.ok .nil)) rn
end F89
namespace F40
abbrev R_:=(LB×Int)
noncomputable def H:Hd:=⟨[.agg [Si,Si,Si,Si,Si]],[Ob 5,Si],(.seq .d (.seq .d (.seq .d (.cut [5] [] (.seq .d (.blk (.loop [5,31,32] [] .d))) .d)))),⟨[(89,F89.c),(90,F90.c),(91,F91.c)],gl,false⟩,[],f40⟩
def t4(b f g h k m:Int)(a:LB):S:=⟨[(5, .own 0),(31, .val (.vec 5 (.int .i64)) ([b,f,g,h,k]:LI)),(32,vi m)],[Ab 5 a],[]⟩
def z4:Nat→S→Option R_:=H.i P_ [r,r,r,l,r,d]
def x6(a:LB):Option R_:=H.e P_ [r,r,r,r] ⟨[(5, .own 0)],[Ab 5 a],[]⟩
def x4(b f g h k m:Int)(a:LB):Option R_:=H.e P_ [r,r,r,l,r,d] (t4 b f g h k m a)
theorem e6:x6=Yr:=by kernel_rfl
theorem i4(b f g h k:Int):∀(q:Nat) (m:Int) (a:LB),z4 q (t4 b f g h k m a)=Kn b f g h k q m a:=
 ind (fun _ _=>by kernel_rfl) fun q ih m a=>Eq.trans (b:=Yq x6 (fun m a=>(z4 q) (t4 b f g h k m a)) b f g h k m a) (by kernel_rfl) (by simp only[e6,ih]<;>rfl)
theorem e4:x4=Air:=by funext b f g h k m a;exact Eq.trans (by kernel_rfl) ((i4 b f g h k Cq m a).trans (by rw[Aq];rfl))
noncomputable def F:=u5 Aki
theorem rn x:H.u P_ x=F x:=Eq.trans (b:=u5 (Ajc x4) x) (by kernel_rfl) (by simp only[e4]<;>rfl)
noncomputable def c:Con:=⟨H.p,H.r,F⟩
theorem ok:ConOk P_ gl 40 c:=co H func40 (.cons F89.ok (.cons F90.ok (.cons F91.ok .nil))) rn
end F40
namespace F92
noncomputable def H:Hd:=⟨[Ss],[Sq,Si], .d,⟨[(122,F122.c)],gl,false⟩,[],f92⟩
noncomputable def F:=Be5
theorem rn x:H.u P_ x=F x:=by kernel_rfl
noncomputable def c:Con:=⟨H.p,H.r,F⟩
theorem ok:ConOk P_ gl 92 c:=co H func92 (.cons F122.ok .nil) rn
end F92
namespace F41
noncomputable def H:Hd:=⟨[Ss],[Ob 5,Si], .d,⟨[(90,F90.c),(92,F92.c)],gl,false⟩,[],f41⟩
noncomputable def F:=Abt
theorem rn x:H.u P_ x=F x:=by kernel_rfl
noncomputable def c:Con:=⟨H.p,H.r,F⟩
theorem ok:ConOk P_ gl 41 c:=co H func41 (.cons F90.ok (.cons F92.ok .nil)) rn
end F41
namespace F93
abbrev R_:=Int
noncomputable def H:Hd:=⟨[Sl],[Si],(.seq .d (.seq .d (.seq .d (.cut [] [] (.seq .d (.blk (.loop [3,14,15,16] [] .d))) .d)))),⟨[],gl,false⟩,[],f93⟩
def t4(a:LI)(f b:Int):S:=⟨[(3,vi f),(14,vl a),(15,vi (Ac a)),(16,vi b)],[],[]⟩
def z4:Nat→S→Option R_:=H.i P_ [r,r,r,l,r,d]
def x6:Option R_:=H.e P_ [r,r,r,r] ⟨[],[],[]⟩
def x4(a:LI)(f b:Int):Option R_:=H.e P_ [r,r,r,l,r,d] (t4 a f b)
theorem e6:x6=Awc:=by kernel_rfl
theorem i4(a:LI):∀(q:Nat) (f b:Int),z4 q (t4 a f b)=Pw a q f b:=
 ind (fun _ _=>by kernel_rfl) fun q ih f b=>Eq.trans (b:=Ab7 x6 (fun f b=>(z4 q) (t4 a f b)) a f b) (by kernel_rfl) (by simp only[e6,ih]<;>rfl)
theorem e4:x4=Aks:=by funext a f b;exact Eq.trans (by kernel_rfl) ((i4 a Cq f b).trans (by rw[Aq];rfl))
noncomputable def F:=Nw
theorem rn x:H.u P_ x=F x:=Eq.trans (b:=Aci x4 x) (by kernel_rfl) (by simp only[e4]<;>rfl)
noncomputable def c:Con:=⟨H.p,H.r,F⟩
theorem ok:ConOk P_ gl 93 c:=co H func93 .nil rn
end F93
namespace F42
abbrev R_:=(LB×Int)
abbrev K_:=S→Option R_
noncomputable def H:Hd:=⟨[Sl],[Ob 5,Si],(.seq .d (.seq .d (.seq .d (.seq .d (.cut [5,6] [] (.seq .d (.blk (.loop [5,6,17,18,19] [⟨5,[], .own 5 (.int .u8)⟩,⟨6,[0], .own 5 (.int .u8)⟩] (.seq .d (.seq .d (.cut [5,6,17,18,19] [] (.blk (.seq .d (.keep [5,6,8,17,18,19,23,24,25] true))) .d)))))) (.seq .d (.cut [5] [] (.keep [5,6,9,33,34,35] true) .d))))))),⟨[(90,F90.c),(91,F91.c),(93,F93.c)],gl,false⟩,[(94, .d)],f42⟩
def t8(a:LI)(f:Int)(b:LB):S:=⟨[(5, .ptr 0 []),(6, .fn 94 [.ptr 0 []]),(17,vl a),(18,vi (Ac a)),(19,vi f)],[.box 27 (.own 1),Ab 5 b],[]⟩
def z8:Nat→S→Option R_:=H.i P_ [r,r,r,r,l,r,d]
def x14(g:LB):Option R_:=H.e P_ [r,r,r,r,r,r,r] ⟨[(5, .ptr 0 [])],[.box 27 (.own 1),Ab 5 g],[]⟩
def x13(b:LB):Option R_:=H.e P_ [r,r,r,r,r] ⟨[(5, .ptr 0 []),(6, .fn 94 [.ptr 0 []])],[.box 27 (.own 1),Ab 5 b],[]⟩
def x11(kn8:K_)(a:LI)(f:Int)(h:LB):Option R_:=H.e P_ [r,r,r,r,l,r,d,(lp kn8),r,r,r] ⟨[(5, .ptr 0 []),(6, .fn 94 [.ptr 0 []]),(17,vl a),(18,vi (Ac a)),(19,vi f)],[.box 27 (.own 1),Ab 5 h],[]⟩
def x8(a:LI)(f:Int)(b:LB):Option R_:=H.e P_ [r,r,r,r,l,r,d] (t8 a f b)
theorem e14:x14=At6:=by kernel_rfl
theorem e13:x13=Ain:=Eq.trans (b:=Ai1 x14) (by kernel_rfl) (by simp only[e14]<;>rfl)
theorem e11(kn8:K_)(a:LI):x11 kn8 a=Ai0 (fun f b=>kn8 (t8 a f b)) a:=by kernel_rfl
theorem i8(a:LI):∀(q:Nat) (f:Int) (b:LB),z8 q (t8 a f b)=Pr a q f b:=
 ind (fun _ _=>by kernel_rfl) fun q ih f b=>Eq.trans (b:=Adz (x11 (z8 q) a) x13 a f b) (by kernel_rfl) (by simp only[e11,e13,ih]<;>rfl)
theorem e8:x8=Axx:=by funext a f b;exact Eq.trans (by kernel_rfl) ((i8 a Cq f b).trans (by rw[Aq];rfl))
noncomputable def F:=Aof
theorem rn x:H.u P_ x=F x:=Eq.trans (b:=Alb x8 x) (by kernel_rfl) (by simp only[e8]<;>rfl)
noncomputable def c:Con:=⟨H.p,H.r,F⟩
theorem ok:ConOk P_ gl 42 c:=cr H func42 (.cons F90.ok (.cons F91.ok (.cons F93.ok .nil))) (AnsOk.cons ent94 AnsOk.nil) rn
end F42
namespace F44
noncomputable def H:Hd:=⟨[Sb],[Si], .d,⟨[],gl,false⟩,[],f44⟩
noncomputable def F:=Aps
theorem rn x:H.u P_ x=F x:=by kernel_rfl
noncomputable def c:Con:=⟨H.p,H.r,F⟩
theorem ok:ConOk P_ gl 44 c:=co H func44 .nil rn
end F44
namespace F45
abbrev R_:=LB
noncomputable def H:Hd:=⟨[.lf (.list (.list (.int .u8))) none],[Ob 5],(.seq .d (.seq .d (.cut [3] [] (.seq .d (.blk (.loop [3,6,7,8] [⟨3,[], .own 5 (.int .u8)⟩] .d))) .d))),⟨[],gl,false⟩,[],f45⟩
def t4(b:List LB)(f:Int)(a:LB):S:=⟨[(3, .own 0),(6, .val (.list (.list (.int .u8))) b),(7,vi (Ac b)),(8,vi f)],[Ab 5 a],[]⟩
def z4:Nat→S→Option R_:=H.i P_ [r,r,l,r,d]
def x6(a:LB):Option R_:=H.e P_ [r,r,r] ⟨[(3, .own 0)],[Ab 5 a],[]⟩
def x4(b:List LB)(f:Int)(a:LB):Option R_:=H.e P_ [r,r,l,r,d] (t4 b f a)
theorem e6:x6=Axj:=by kernel_rfl
theorem i4(b:List LB):∀(q:Nat) (f:Int) (a:LB),z4 q (t4 b f a)=Pp b q f a:=
 ind (fun _ _=>by kernel_rfl) fun q ih f a=>Eq.trans (b:=Acs x6 (fun f a=>(z4 q) (t4 b f a)) b f a) (by kernel_rfl) (by simp only[e6,ih]<;>rfl)
theorem e4:x4=Axa:=by funext b f a;exact Eq.trans (by kernel_rfl) ((i4 b Cq f a).trans (by rw[Aq];rfl))
noncomputable def F:=Axb
theorem rn x:H.u P_ x=F x:=Eq.trans (b:=Av9 x4 x) (by kernel_rfl) (by simp only[e4]<;>rfl)
noncomputable def c:Con:=⟨H.p,H.r,F⟩
theorem ok:ConOk P_ gl 45 c:=co H func45 .nil rn
end F45
namespace F10
abbrev R_:=(LB×Int)
abbrev K_:=S→Option R_
noncomputable def H:Hd:=⟨[.agg [Si,Si,Si,Sw],Ss],[Ob 5,Si],(.seq .d (.seq .d (.seq .d (.seq .d (.seq .d (.seq .d (.seq .d (.seq .d (.cut [8,9,10] [⟨10,[], .own 5 (.int .u8)⟩] .d (.cut [7,8,9,10,11] [] (.keep [7,8,9,10,11,46,48,49,50,51] true) .d)))))))))),⟨[(38,F38.c),(39,Apw),(40,F40.c),(41,F41.c),(42,F42.c),(44,F44.c),(45,F45.c)],gl,false⟩,[(43,(.seq .d (.seq .d (.cut [5] [] (.seq .d (.blk (.loop [1,5,11,12,13] [] (.seq .d (.seq .d (.cut [1,5,11,12,13] [] .d .d)))))) .d))))],f10⟩
def t9(a:List LB)(b f:LB)(g:Int)(h:LI):S:=⟨[(1, .fn 44 []),(5, .own 0),(11, .own 1),(12,vi (Ac a)),(13,vi g)],[Ai 3 h, .arr 27 (.list (.int .u8)) a,Ab 5 b,Ab 5 f],[[(8, .own 1),(9, .own 2),(10, .own 3)]]⟩
def z9:Nat→S→Option R_:=H.i P_ [r,r,r,r,r,r,r,r,r,l,(call 1 43),r,r,l,r,d]
def x14(k:Int)(a:List LB)(b f n:LB):Option R_:=H.e P_ [r,r,r,r,r,r,r,r,r,r] ⟨[(7,vi k),(8, .own 0),(9, .own 1),(10, .own 2),(11, .own 3)],[.arr 27 (.list (.int .u8)) a,Ab 5 b,Ab 5 f,Ab 5 n],[]⟩
def x13(h:LI)(a:List LB)(b f:LB):Option R_:=H.e P_ [r,r,r,r,r,r,r,r,r,l,(call 1 43),r,r,r] ⟨[(5, .own 0)],[Ai 3 h, .arr 27 (.list (.int .u8)) a,Ab 5 b,Ab 5 f],[[(8, .own 1),(9, .own 2),(10, .own 3)]]⟩
def x11(kn9:K_)(a:List LB)(b f:LB)(g:Int)(m:LI):Option R_:=H.e P_ [r,r,r,r,r,r,r,r,r,l,(call 1 43),r,r,l,r,d,(lp kn9),r,r,r] ⟨[(1, .fn 44 []),(5, .own 0),(11, .own 1),(12,vi (Ac a)),(13,vi g)],[Ai 3 m, .arr 27 (.list (.int .u8)) a,Ab 5 b,Ab 5 f],[[(8, .own 1),(9, .own 2),(10, .own 3)]]⟩
def x9(a:List LB)(b f:LB)(g:Int)(h:LI):Option R_:=H.e P_ [r,r,r,r,r,r,r,r,r,l,(call 1 43),r,r,l,r,d] (t9 a b f g h)
def x8(a:List LB)(b f:LB):Option R_:=H.e P_ [r,r,r,r,r,r,r,r,r] ⟨[(8, .own 0),(9, .own 1),(10, .own 2)],[.arr 27 (.list (.int .u8)) a,Ab 5 b,Ab 5 f],[]⟩
theorem e14:x14=Aja:=by kernel_rfl
theorem e13:x13=So:=Eq.trans (b:=Ajb x14) (by kernel_rfl) (by simp only[e14]<;>rfl)
theorem e11(kn9:K_)(a:List LB)(b f:LB):x11 kn9 a b f=Ai7 (fun g h=>kn9 (t9 a b f g h)) a b f:=by kernel_rfl
theorem i9(a:List LB)(b f:LB):∀(q:Nat) (g:Int) (h:LI),z9 q (t9 a b f g h)=Pv a b f q g h:=
 ind (fun _ _=>by kernel_rfl) fun q ih g h=>Eq.trans (b:=Acl (x11 (z9 q) a b f) x13 a b f g h) (by kernel_rfl) (by simp only[e11,e13,ih]<;>rfl)
theorem e9:x9=Awm:=by funext a b f g h;exact Eq.trans (by kernel_rfl) ((i9 a b f Cq g h).trans (by rw[Aq];rfl))
theorem e8:x8=Ace:=Eq.trans (b:=Ak2 x9) (by kernel_rfl) (by simp only[e9]<;>rfl)
noncomputable def F:=u5 Agp
theorem rn x:H.u P_ x=F x:=Eq.trans (b:=u5 (Alc x8) x) (by kernel_rfl) (by simp only[e8]<;>rfl)
noncomputable def c:Con:=⟨H.p,H.r,F⟩
theorem ok:ConOk P_ gl 10 c:=cr H func10 (.cons F38.ok (.cons Bjh (.cons F40.ok (.cons F41.ok (.cons F42.ok (.cons F44.ok (.cons F45.ok .nil))))))) (AnsOk.cons ent43 AnsOk.nil) rn
end F10
namespace F73
noncomputable def H:Hd:=⟨[],[Ob 5,Sz], .d,⟨[(10,F10.c)],gl,false⟩,[],f73⟩
noncomputable def F(x:Unit):=Ami
theorem rn x:H.u P_ x=F x:=by kernel_rfl
noncomputable def c:Con:=⟨H.p,H.r,F⟩
theorem ok:ConOk P_ gl 73 c:=co H func73 (.cons F10.ok .nil) rn
end F73
namespace F100
noncomputable def H:Hd:=⟨[Sb,Sb],[Sz], .d,⟨[],gl,false⟩,[],f100⟩
noncomputable def F:=u2 Fv
theorem rn x:H.u P_ x=F x:=by kernel_rfl
noncomputable def c:Con:=⟨H.p,H.r,F⟩
theorem ok:ConOk P_ gl 100 c:=co H func100 .nil rn
end F100
namespace F145
noncomputable def H:Hd:=⟨[Sb,Sb],[Sz], .d,⟨[(100,F100.c)],gl,false⟩,[],f145⟩
noncomputable def F:=u2 Ko
theorem rn x:H.u P_ x=F x:=by kernel_rfl
noncomputable def c:Con:=⟨H.p,H.r,F⟩
theorem ok:ConOk P_ gl 145 c:=co H func145 (.cons F100.ok .nil) rn
end F145
namespace F195
abbrev R_:=(Int×Int)
noncomputable def H:Hd:=⟨[Sb],[Si,Si],(.seq .d (.seq .d (.seq .d (.cut [4] [] (.seq .d (.blk (.loop [4,10,11,12] [] .d))) .d)))),⟨[],gl,false⟩,[],f195⟩
def t4(a:LB)(b f:Int):S:=⟨[(4,vi b),(10,vb a),(11,vi (Ac a)),(12,vi f)],[],[]⟩
def z4:Nat→S→Option R_:=H.i P_ [r,r,r,l,r,d]
def x6(b:Int):Option R_:=H.e P_ [r,r,r,r] ⟨[(4,vi b)],[],[]⟩
def x4(a:LB)(b f:Int):Option R_:=H.e P_ [r,r,r,l,r,d] (t4 a b f)
theorem e6:x6=Arf:=by kernel_rfl
theorem i4(a:LB):∀(q:Nat) (b f:Int),z4 q (t4 a b f)=Lu a q b f:=
 ind (fun _ _=>by kernel_rfl) fun q ih b f=>Eq.trans (b:=Wi x6 (fun b f=>(z4 q) (t4 a b f)) a b f) (by kernel_rfl) (by simp only[e6,ih]<;>rfl)
theorem e4:x4=Afi:=by funext a b f;exact Eq.trans (by kernel_rfl) ((i4 a Cq b f).trans (by rw[Aq];rfl))
noncomputable def F:=Af8
theorem rn x:H.u P_ x=F x:=Eq.trans (b:=Af0 x4 x) (by kernel_rfl) (by simp only[e4]<;>rfl)
noncomputable def c:Con:=⟨H.p,H.r,F⟩
theorem ok:ConOk P_ gl 195 c:=co H func195 .nil rn
end F195
namespace F169
def Afr(j5:LB→UInt8→UInt8→Option (Int×Int))(a:LB):Option (Int×Int):=
(Ko a ([(73:UInt8),(68:UInt8),(51:UInt8)]:LB)).bind fun n=>
if(!n)then
some (0,6)
else
if(Bn (Ac a) 10)then
some (0,24)
else
(getI a 3).bind fun f=>
(getI a 5).bind fun b=>
(fun o:Option (Int×Int)=>
(fun p:Option (Int×Int)=>
both (
both (
bo (
j5 a f b)) [
o,
o]) [
bo2 (
bo (
j5 a f b)),
p,
p]) (
both (
o) [
bo (
j5 a f b),
both (
bo (
j5 a f b)) [
j5 a f b]])) (
both (
j5 a f b) [
bo (
j5 a f b)])
theorem Ayu: @Afr= @Yp:=by
  unfold Afr Yp
  try simp only[Bc4,Atk,Asf]
  all_goals
    repeat (refine funext fun _=>?_)
    repeat' first
      |with_reducible rfl
      |with_reducible refine Vz ?_ ?_
      |with_reducible refine Vs ?_ ?_ ?_
      |with_reducible refine Vu ?_ ?_ ?_ ?_
      |((with_reducible refine Ac1 ?_ ?_);focus (intro h;first|(subst h;rfl)|(simp only[h];rfl)|(simp[Ek,Ac,h];done)))
      |with_reducible refine Acy fun x=>?_
      |with_reducible refine Anc (fun _=>?_) (fun _=>?_)
      |(refine Mc (fun h=>by simp only[h,Aby,Hx,Hh,ite_self]) (fun x h=>?_);(try simp only[h,Hx]))
      |(refine Pq (fun h=>?_) (fun h=>?_)<;>simp only[h,if_true,if_false,Bool.false_eq_true])
abbrev R_:=(Int×Int)
noncomputable def H:Hd:=⟨[Sb],[Si,Si],(.seq .d (.seq .d (.seq .d (.cut [0,4,5] [] (.mode false) (.seq .d (.seq .d (.cut [0,5,6] [] (.cut [0,5,6,43] [] (.keep [0,5,6,7,8,31,32,33,34,35,36,37,38,39,40,41,42,43] true) .d) (.seq .d (.cut [0,5,6] [] .d .d))))))))),⟨[(100,F100.c),(145,F145.c),(195,F195.c)],gl,false⟩,[(196, .d)],f169⟩
def x8(a:LB)(b:UInt8)(h:Int):Option R_:=H.e P_ [r,r,r,r,r,r,r,r,r] ⟨[(0,vb a),(5, .ptr 0 []),(6,vi h)],[.box 5 (vc b)],[]⟩
def x7(a:LB)(g:Int)(b:UInt8):Option R_:=H.e P_ [r,r,r,r,r,r,r] ⟨[(0,vb a),(5, .ptr 0 []),(6,vi g)],[.box 5 (vc b)],[]⟩
def x6(a:LB)(g:Int)(b:UInt8)(m:Bool):Option R_:=H.e P_ [r,r,r,r,r,r,l,r] ⟨[(0,vb a),(5, .ptr 0 []),(6,vi g),(43,vt m)],[.box 5 (vc b)],[]⟩
def x5(a:LB)(f b:UInt8):Option R_:=H.e P_ [r,r,r,r] ⟨[(0,vb a),(4, .ptr 0 []),(5, .ptr 1 [])],[.box 5 (vc f), .box 5 (vc b)],[]⟩
theorem e8:x8=Yn:=by kernel_rfl
theorem e7:x7=Yv:=Eq.trans (b:=Aip x8) (by kernel_rfl) (by simp only[e8]<;>rfl)
theorem e6:x6=Ai6:=Eq.trans (b:=Aij x7) (by kernel_rfl) (by simp only[e7]<;>rfl)
theorem e5:x5=Aix:=Eq.trans (b:=Ai8 x6) (by kernel_rfl) (by simp only[e6]<;>rfl)
noncomputable def F:=Akj
theorem rn x:H.u P_ x=F x:=Eq.trans (b:=Afr x5 x) (by kernel_rfl) (by unfold F;rw[Ayu];simp only[e5]<;>rfl)
noncomputable def c:Con:=⟨H.p,H.r,F⟩
theorem ok:ConOk P_ gl 169 c:=cr H func169 (.cons F100.ok (.cons F145.ok (.cons F195.ok .nil))) (AnsOk.cons ent196 AnsOk.nil) rn
end F169
namespace F135
abbrev R_:=(UInt64×Int)
noncomputable def H:Hd:=⟨[Sb],[Sq,Si],(.seq .d (.seq .d (.seq .d (.cut [4] [] (.seq .d (.blk (.loop [4,15,16,17] [] .d))) .d)))),⟨[],gl,false⟩,[],f135⟩
def t4(a:LB)(b:UInt64)(f:Int):S:=⟨[(4,vq b),(15,vb a),(16,vi (Ac a)),(17,vi f)],[],[]⟩
def z4:Nat→S→Option R_:=H.i P_ [r,r,r,l,r,d]
def x6(b:UInt64):Option R_:=H.e P_ [r,r,r,r] ⟨[(4,vq b)],[],[]⟩
def x4(a:LB)(b:UInt64)(f:Int):Option R_:=H.e P_ [r,r,r,l,r,d] (t4 a b f)
theorem e6:x6=Bgf:=by kernel_rfl
theorem i4(a:LB):∀(q:Nat) (b:UInt64) (f:Int),z4 q (t4 a b f)=Aah a q b f:=
 ind (fun _ _=>by kernel_rfl) fun q ih b f=>Eq.trans (b:=Aop x6 (fun b f=>(z4 q) (t4 a b f)) a b f) (by kernel_rfl) (by simp only[e6,ih]<;>rfl)
theorem e4:x4=Awu:=by funext a b f;exact Eq.trans (by kernel_rfl) ((i4 a Cq b f).trans (by rw[Aq];rfl))
noncomputable def F:=Awh
theorem rn x:H.u P_ x=F x:=Eq.trans (b:=Avy x4 x) (by kernel_rfl) (by simp only[e4]<;>rfl)
noncomputable def c:Con:=⟨H.p,H.r,F⟩
theorem ok:ConOk P_ gl 135 c:=co H func135 .nil rn
end F135
namespace F97
noncomputable def H:Hd:=⟨[Sb,Si,Si],[Sq,Si], .d,⟨[(135,F135.c)],gl,false⟩,[],f97⟩
noncomputable def F:=u3 Arl
theorem rn x:H.u P_ x=F x:=by kernel_rfl
noncomputable def c:Con:=⟨H.p,H.r,F⟩
theorem ok:ConOk P_ gl 97 c:=co H func97 (.cons F135.ok .nil) rn
end F97
namespace F147
abbrev R_:=LB
noncomputable def H:Hd:=⟨[Si,Si,Sq],[Ob 5],(.seq .d (.seq .d (.cut [7] [] (.seq .d (.blk (.loop [7,20,21,22] [] .d))) .d))),⟨[(90,F90.c)],gl,false⟩,[],f147⟩
def t4(a b:Int)(f:UInt64)(h:Int)(g:LB):S:=⟨[(7, .own 0),(20, .own 1),(21,vi (Ac ([(2000:UInt64),(Af (Ad a (32:Int)):UInt64),(Af b:UInt64),f,(0:UInt64),(0:UInt64)]:LQ))),(22,vi h)],[Ab 5 g, .arr 146 (.int .u64) ([(2000:UInt64),(Af (Ad a (32:Int)):UInt64),(Af b:UInt64),f,(0:UInt64),(0:UInt64)]:LQ)],[]⟩
def z4:Nat→S→Option R_:=H.i P_ [r,r,l,r,d]
def x6(g:LB):Option R_:=H.e P_ [r,r,r] ⟨[(7, .own 0)],[Ab 5 g],[]⟩
def x4(a b:Int)(f:UInt64)(h:Int)(g:LB):Option R_:=H.e P_ [r,r,l,r,d] (t4 a b f h g)
theorem e6:x6=Ba1:=by kernel_rfl
theorem i4(a b:Int)(f:UInt64):∀(q:Nat) (h:Int) (g:LB),z4 q (t4 a b f h g)=Zr a b f q h g:=
 ind (fun _ _=>by kernel_rfl) fun q ih h g=>Eq.trans (b:=At1 x6 (fun h g=>(z4 q) (t4 a b f h g)) a b f h g) (by kernel_rfl) (by simp only[e6,ih]<;>rfl)
theorem e4:x4=Az9:=by funext a b f h g;exact Eq.trans (by kernel_rfl) ((i4 a b f Cq h g).trans (by rw[Aq];rfl))
noncomputable def F:=u3 Ax4
theorem rn x:H.u P_ x=F x:=Eq.trans (b:=u3 (Ba3 x4) x) (by kernel_rfl) (by simp only[e4]<;>rfl)
noncomputable def c:Con:=⟨H.p,H.r,F⟩
theorem ok:ConOk P_ gl 147 c:=co H func147 (.cons F90.ok .nil) rn
end F147
namespace F146
noncomputable def H:Hd:=⟨[Sb,Sq],[.agg [Si,Si],Sz], .d,⟨[(97,F97.c),(100,F100.c),(147,F147.c)],gl,false⟩,[],f146⟩
noncomputable def F:=u2 Akq
theorem rn x:H.u P_ x=F x:=by kernel_rfl
noncomputable def c:Con:=⟨H.p,H.r,F⟩
theorem ok:ConOk P_ gl 146 c:=co H func146 (.cons F97.ok (.cons F100.ok (.cons F147.ok .nil))) rn
end F146
namespace F170
noncomputable def H:Hd:=⟨[Sb],[Si,Si], .d,⟨[(100,F100.c),(145,F145.c),(146,F146.c),(147,F147.c)],gl,false⟩,[],f170⟩
noncomputable def F:=Ayh
theorem rn x:H.u P_ x=F x:=by kernel_rfl
noncomputable def c:Con:=⟨H.p,H.r,F⟩
theorem ok:ConOk P_ gl 170 c:=co H func170 (.cons F100.ok (.cons F145.ok (.cons F146.ok (.cons F147.ok .nil)))) rn
end F170
namespace F133
noncomputable def H:Hd:=⟨[Sb],[Si,Si], .d,⟨[(169,F169.c),(170,F170.c)],gl,false⟩,[],f133⟩
noncomputable def F:=Vv
theorem rn x:H.u P_ x=F x:=by kernel_rfl
noncomputable def c:Con:=⟨H.p,H.r,F⟩
theorem ok:ConOk P_ gl 133 c:=co H func133 (.cons F169.ok (.cons F170.ok .nil)) rn
end F133
theorem Ali:ConOk Tryz.prog gl 46 Yh:=Bib ent46 F133.ok
namespace F134
noncomputable def H:Hd:=⟨[Ss,Ss],[Sz], .d,⟨[],gl,false⟩,[],f134⟩
noncomputable def F:=u2 Iq
theorem rn x:H.u P_ x=F x:=by kernel_rfl
noncomputable def c:Con:=⟨H.p,H.r,F⟩
theorem ok:ConOk P_ gl 134 c:=co H func134 .nil rn
end F134
namespace F96
noncomputable def H:Hd:=⟨[Ss,Ss],[Sz], .d,⟨[(134,F134.c)],gl,false⟩,[],f96⟩
noncomputable def F:=u2 Ue
theorem rn x:H.u P_ x=F x:=by kernel_rfl
noncomputable def c:Con:=⟨H.p,H.r,F⟩
theorem ok:ConOk P_ gl 96 c:=co H func96 (.cons F134.ok .nil) rn
end F96
namespace F47
abbrev R_:=(Int×Int×Int×Int×Int×Int)
noncomputable def H:Hd:=⟨[Sb],[.agg [Si,Si,Si,Si,Si],Si],(.seq .d (.seq .d (.seq .d (.seq .d (.seq .d (.seq .d (.seq .d (.cut [2,8] [] (.seq .d (.blk (.loop [0,2,8,9,44,45] [] .d))) .d)))))))),⟨[(91,F91.c),(96,F96.c),(97,F97.c),(98,F98.c),(99,F99.c)],gl,false⟩,[],f47⟩
def t4(b:LB)(g f:Int)(a:LI):S:=⟨[(0,vb b),(2, .ptr 0 []),(8, .ptr 1 []),(9,vi g),(44, .val (.vec 5 (.int .i64)) ([(2:Int),(2:Int),(2:Int),(4:Int),(4:Int)]:LI)),(45,vi f)],[.box 32 (.agg [vi 0,vi 0,vi 0,vi 0,vi 0]), .box 144 (.val (.vec 5 (.int .i64)) a)],[]⟩
def z4:Nat→S→Option R_:=H.i P_ [r,r,r,r,r,r,r,l,r,d]
def x6(a:LI):Option R_:=H.e P_ [r,r,r,r,r,r,r,r] ⟨[(2, .ptr 0 []),(8, .ptr 1 [])],[.box 32 (.agg [vi 0,vi 0,vi 0,vi 0,vi 0]), .box 144 (.val (.vec 5 (.int .i64)) a)],[]⟩
def x4(b:LB)(g f:Int)(a:LI):Option R_:=H.e P_ [r,r,r,r,r,r,r,l,r,d] (t4 b g f a)
theorem e6:x6=Ad1:=by kernel_rfl
theorem i4(b:LB):∀(q:Nat) (g f:Int) (a:LI),z4 q (t4 b g f a)=Mn b q g f a:=
 ind (fun _ _ _=>by kernel_rfl) fun q ih g f a=>Eq.trans (b:=Abb x6 (fun g f a=>(z4 q) (t4 b g f a)) b g f a) (by kernel_rfl) (by simp only[e6,ih]<;>rfl)
theorem e4:x4=Abr:=by funext b g f a;exact Eq.trans (by kernel_rfl) ((i4 b Cq g f a).trans (by rw[Aq];rfl))
noncomputable def F:=Aap
theorem rn x:H.u P_ x=F x:=Eq.trans (b:=Alz x4 x) (by kernel_rfl) (by simp only[e4]<;>rfl)
noncomputable def c:Con:=⟨H.p,H.r,F⟩
theorem ok:ConOk P_ gl 47 c:=co H func47 (.cons F91.ok (.cons F96.ok (.cons F97.ok (.cons F98.ok (.cons F99.ok .nil))))) rn
end F47
namespace F49
noncomputable def H:Hd:=⟨[.agg [Si,Si,Si,Si,Si]],[Ol 3,Si], .d,⟨[(89,F89.c),(101,F101.c)],gl,false⟩,[],f49⟩
noncomputable def F:=u5 Jh
theorem rn x:H.u P_ x=F x:=by kernel_rfl
noncomputable def c:Con:=⟨H.p,H.r,F⟩
theorem ok:ConOk P_ gl 49 c:=co H func49 (.cons F89.ok (.cons F101.ok .nil)) rn
end F49
namespace F56
noncomputable def H:Hd:=⟨[Sb],[.agg [.agg [Si,Si,Si,Si,Si], .agg [Si,Si,Si,Si,Si],Ol 3],Si], .d,⟨[(46,Yh),(47,F47.c),(49,F49.c)],gl,false⟩,[],f56⟩
noncomputable def F:=Qv
theorem rn x:H.u P_ x=F x:=by kernel_rfl
noncomputable def c:Con:=⟨H.p,H.r,F⟩
theorem ok:ConOk P_ gl 56 c:=co H func56 (.cons Ali (.cons F47.ok (.cons F49.ok .nil))) rn
end F56
namespace F48
noncomputable def H:Hd:=⟨[Sb,Ss],[Sz,Si], .d,⟨[(41,F41.c),(100,F100.c)],gl,false⟩,[],f48⟩
noncomputable def F:=u2 Rg
theorem rn x:H.u P_ x=F x:=by kernel_rfl
noncomputable def c:Con:=⟨H.p,H.r,F⟩
theorem ok:ConOk P_ gl 48 c:=co H func48 (.cons F41.ok (.cons F100.ok .nil)) rn
end F48
namespace F50
abbrev R_:=(LI×Int)
noncomputable def H:Hd:=⟨[Sb,Si],[Ol 3,Si],(.seq .d (.seq .d (.seq .d (.seq .d (.seq .d (.seq .d (.cut [10] [] (.seq .d (.blk (.loop [0,10,48,49] [] .d))) .d))))))),⟨[(91,F91.c),(93,F93.c),(97,F97.c)],gl,false⟩,[],f50⟩
def t4(b:LB)(f:LI)(g:Int)(a:LI):S:=⟨[(0,vb b),(10, .own 0),(48,vi (Ac f)),(49,vi g)],[Ai 3 a],[]⟩
def z4:Nat→S→Option R_:=H.i P_ [r,r,r,r,r,r,l,r,d]
def x6(a:LI):Option R_:=H.e P_ [r,r,r,r,r,r,r] ⟨[(10, .own 0)],[Ai 3 a],[]⟩
def x4(b:LB)(f:LI)(g:Int)(a:LI):Option R_:=H.e P_ [r,r,r,r,r,r,l,r,d] (t4 b f g a)
theorem e6:x6=Agd:=by kernel_rfl
theorem i4(b:LB)(f:LI):∀(q:Nat) (g:Int) (a:LI),z4 q (t4 b f g a)=Tf b f q g a:=
 ind (fun _ _=>by kernel_rfl) fun q ih g a=>Eq.trans (b:=Agb x6 (fun g a=>(z4 q) (t4 b f g a)) b f g a) (by kernel_rfl) (by simp only[e6,ih]<;>rfl)
theorem e4:x4=Apt:=by funext b f g a;exact Eq.trans (by kernel_rfl) ((i4 b f Cq g a).trans (by rw[Aq];rfl))
noncomputable def F:=u2 Ze
theorem rn x:H.u P_ x=F x:=Eq.trans (b:=u2 (Ap2 x4) x) (by kernel_rfl) (by simp only[e4]<;>rfl)
noncomputable def c:Con:=⟨H.p,H.r,F⟩
theorem ok:ConOk P_ gl 50 c:=co H func50 (.cons F91.ok (.cons F93.ok (.cons F97.ok .nil))) rn
end F50
namespace F140
noncomputable def H:Hd:=⟨[Sb],[Sb,Si], .d,⟨[(91,F91.c),(135,F135.c)],gl,false⟩,[],f140⟩
noncomputable def F:=Ab4
theorem rn x:H.u P_ x=F x:=by kernel_rfl
noncomputable def c:Con:=⟨H.p,H.r,F⟩
theorem ok:ConOk P_ gl 140 c:=co H func140 (.cons F91.ok (.cons F135.ok .nil)) rn
end F140
namespace F141
noncomputable def H:Hd:=⟨[Sb],[.agg [Ob 5,Si],Si], .d,⟨[(173,F173.c)],gl,false⟩,[],f141⟩
noncomputable def F:=Bpb
theorem rn x:H.u P_ x=F x:=by kernel_rfl
noncomputable def c:Con:=⟨H.p,H.r,F⟩
theorem ok:ConOk P_ gl 141 c:=co H func141 (.cons F173.ok .nil) rn
end F141
namespace F176
abbrev R_:=UInt64
noncomputable def H:Hd:=⟨[.agg [Sb,Si],Si,Si],[Sq],(.seq .d (.seq .d (.cut [7] [] (.blk (.loop [1,2,3,7,8] [] .d)) .d))),⟨[],gl,false⟩,[],f176⟩
def t4(b f:Int)(h:LB)(k:Int)(g:UInt64)(a:Int):S:=⟨[(1,vi b),(2,vi f),(3, .ptr 0 []),(7,vq g),(8,vi a)],[.box 188 (.agg [vb h,vi k])],[]⟩
def z4:Nat→S→Option R_:=H.i P_ [r,r,l,d]
def x6(g:UInt64):Option R_:=H.e P_ [r,r,r] ⟨[(7,vq g)],[],[]⟩
def x4(b f:Int)(h:LB)(k:Int)(g:UInt64)(a:Int):Option R_:=H.e P_ [r,r,l,d] (t4 b f h k g a)
theorem e6:x6=Bfb:=by kernel_rfl
theorem i4(b f:Int)(h:LB)(k:Int):∀(q:Nat) (g:UInt64) (a:Int),z4 q (t4 b f h k g a)=Ag3 b f h k q g a:=
 ind (fun _ _=>by kernel_rfl) fun q ih g a=>Eq.trans (b:=Av6 x6 (fun g a=>(z4 q) (t4 b f h k g a)) b f h k g a) (by kernel_rfl) (by simp only[e6,ih]<;>rfl)
theorem e4:x4=Bfx:=by funext b f h k g a;exact Eq.trans (by kernel_rfl) ((i4 b f h k Cq g a).trans (by rw[Aq];rfl))
noncomputable def F:=u4 Bc6
theorem rn x:H.u P_ x=F x:=Eq.trans (b:=u4 (Bf5 x4) x) (by kernel_rfl) (by simp only[e4]<;>rfl)
noncomputable def c:Con:=⟨H.p,H.r,F⟩
theorem ok:ConOk P_ gl 176 c:=co H func176 .nil rn
end F176
namespace F174
abbrev R_:=(LB×Int×Int)
abbrev K_:=S→Option R_
noncomputable def H:Hd:=⟨[.agg [Sb,Si],Si,Si],[.agg [Ob 5,Si],Si],(.seq .d (.seq .d (.seq .d (.seq .d (.cut [6,8] [] (.seq .d (.blk (.loop [2,3,6,8,9] [⟨8,[0], .own 5 (.int .u8)⟩] (.seq .d (.cut [2,3,6,8,9] [] (.blk (.seq .d (.keep [2,3,6,8,9,10,39,40,41,42,43] true))) .d))))) .d))))),⟨[(161,F161.c),(176,F176.c)],gl,false⟩,[(191,(.blk (.loop [0,1,2] [] (.seq .d (.blk (.cut [0,1,2] [] .d (.seq .d (.cut [0,1,2,7] [] .d .d))))))))],f174⟩
def t44(a:Int)(g:LB)(f b:Int)(k n:UInt64)(m h:Int)(u:LB):S:=⟨[(0, .ptr 0 []),(1,vq n),(2,vi m)],[.box 188 (.agg [.own 3,vi h]), .box 188 (.agg [vb g,vi f]), .box 188 (.agg [.nils,vi 0]),Ab 5 u],[[(2,vi a),(3, .ptr 1 []),(6, .ptr 2 []),(8, .ptr 0 []),(9,vi b),(10,vi (Dj (64:Int) (Aj a b))),(39, .agg [vb g,vi f]),(40,vi b),(41,vi (Dj (64:Int) (Aj a b))),(42,vq k),(43,vi (Dj (64:Int) (Aj a b)))]]⟩
def z44(kn27:K_):Nat→S→Option R_:=H.i P_ [r,r,r,r,l,r,d,(lp kn27),r,l,d,r,(call 5 191),d]
def t27(a:Int)(g:LB)(f b o:Int)(p:LB):S:=⟨[(2,vi a),(3, .ptr 0 []),(6, .ptr 1 []),(8, .ptr 2 []),(9,vi b)],[.box 188 (.agg [vb g,vi f]), .box 188 (.agg [.nils,vi 0]), .box 188 (.agg [.own 3,vi o]),Ab 5 p],[]⟩
def z27:Nat→S→Option R_:=H.i P_ [r,r,r,r,l,r,d]
def x52(o:Int)(p:LB):Option R_:=H.e P_ [r,r,r,r,r] ⟨[(6, .ptr 0 []),(8, .ptr 1 [])],[.box 188 (.agg [.nils,vi 0]), .box 188 (.agg [.own 2,vi o]),Ab 5 p],[]⟩
def x50(kn27:K_)(a:Int)(g:LB)(f b h:Int)(u:LB):Option R_:=H.e P_ [r,r,r,r,l,r,d,(lp kn27),r,r] ⟨[(2,vi a),(3, .ptr 0 []),(6, .ptr 1 []),(8, .ptr 2 []),(9,vi b)],[.box 188 (.agg [vb g,vi f]), .box 188 (.agg [.nils,vi 0]), .box 188 (.agg [.own 3,vi h]),Ab 5 u],[]⟩
def x48(kn27 kn44:K_)(a b:Int)(g:LB)(f:Int)(k n:UInt64)(m h:Int)(w:LB):Option R_:=H.e P_ [r,r,r,r,l,r,d,(lp kn27),r,l,d,r,(call 5 191),d,(lp kn44),r,d,r,r,r] ⟨[(0, .ptr 0 []),(1,vq n),(2,vi m),(7,vi (Dj m (Aj (8:Int) (Dc h (7:Int)))))],[.box 188 (.agg [.own 3,vi h]), .box 188 (.agg [vb g,vi f]), .box 188 (.agg [.nils,vi 0]),Ab 5 w],[[(2,vi a),(3, .ptr 1 []),(6, .ptr 2 []),(8, .ptr 0 []),(9,vi b),(10,vi (Dj (64:Int) (Aj a b))),(39, .agg [vb g,vi f]),(40,vi b),(41,vi (Dj (64:Int) (Aj a b))),(42,vq k),(43,vi (Dj (64:Int) (Aj a b)))]]⟩
def x47(kn27 kn44:K_)(a b:Int)(g:LB)(f:Int)(k n:UInt64)(m h:Int)(v:LB):Option R_:=H.e P_ [r,r,r,r,l,r,d,(lp kn27),r,l,d,r,(call 5 191),d,(lp kn44),r,d,r] ⟨[(0, .ptr 0 []),(1,vq n),(2,vi m)],[.box 188 (.agg [.own 3,vi h]), .box 188 (.agg [vb g,vi f]), .box 188 (.agg [.nils,vi 0]),Ab 5 v],[[(2,vi a),(3, .ptr 1 []),(6, .ptr 2 []),(8, .ptr 0 []),(9,vi b),(10,vi (Dj (64:Int) (Aj a b))),(39, .agg [vb g,vi f]),(40,vi b),(41,vi (Dj (64:Int) (Aj a b))),(42,vq k),(43,vi (Dj (64:Int) (Aj a b)))]]⟩
def x44(kn27:K_)(a:Int)(g:LB)(f b:Int)(k n:UInt64)(m h:Int)(u:LB):Option R_:=H.e P_ [r,r,r,r,l,r,d,(lp kn27),r,l,d,r,(call 5 191),d] (t44 a g f b k n m h u)
def x27(a:Int)(g:LB)(f b o:Int)(p:LB):Option R_:=H.e P_ [r,r,r,r,l,r,d] (t27 a g f b o p)
theorem e52:x52=As9:=by kernel_rfl
theorem e50(kn27:K_)(a:Int)(g:LB)(f:Int):x50 kn27 a g f=Aka (fun b o p=>kn27 (t27 a g f b o p)) a g f:=by kernel_rfl
theorem e48(kn27 kn44:K_)(a:Int)(g:LB)(f b:Int)(k:UInt64):x48 kn27 kn44 a b g f k=As0 (fun n m h u=>kn44 (t44 a g f b k n m h u)) a b g f k:=by kernel_rfl
theorem e47(kn27 kn44:K_)(a:Int)(g:LB)(f b:Int)(k:UInt64):x47 kn27 kn44 a b g f k=Aj9 (fun n m h u=>kn44 (t44 a g f b k n m h u)) a b g f k:=Eq.trans (b:=Atp (x48 kn27 kn44 a b g f k) a b g f k) (by kernel_rfl) (by simp only[e48]<;>rfl)
theorem i44(kn27:K_)(a:Int)(g:LB)(f b:Int)(k:UInt64):∀(q:Nat) (n:UInt64) (m h:Int) (u:LB),z44 kn27 q (t44 a g f b k n m h u)=Of (fun b o p=>kn27 (t27 a g f b o p)) a g f b k q n m h u:=
 ind (fun _ _ _ _=>by kernel_rfl) fun q ih n m h u=>Eq.trans (b:=Ake (x47 kn27 (z44 kn27 q) a b g f k) (x50 kn27 a g f) a g f b k n m h u) (by kernel_rfl) (by simp only[e47,e50,ih]<;>rfl)
theorem e44(kn27:K_)(a:Int)(g:LB)(f:Int):x44 kn27 a g f=As1 (fun b o p=>kn27 (t27 a g f b o p)) a g f:=by funext b k n m h u;exact Eq.trans (by kernel_rfl) ((i44 kn27 a g f b k Cq n m h u).trans (by rw[Aq];rfl))
theorem i27(a:Int)(g:LB)(f:Int):∀(q:Nat) (b o:Int) (p:LB),z27 q (t27 a g f b o p)=Wm a g f q b o p:=
 ind (fun _ _ _=>by kernel_rfl) fun q ih b o p=>Eq.trans (b:=Att (x44 (z27 q) a g f) x52 a g f b o p) (by kernel_rfl) (by simp only[e44,e52,ih]<;>rfl)
theorem e27:x27=Ar4:=by funext a g f b o p;exact Eq.trans (by kernel_rfl) ((i27 a g f Cq b o p).trans (by rw[Aq];rfl))
noncomputable def F:=u4 Aw7
theorem rn x:H.u P_ x=F x:=Eq.trans (b:=u4 (Awf x27) x) (by kernel_rfl) (by simp only[e27]<;>rfl)
noncomputable def c:Con:=⟨H.p,H.r,F⟩
theorem ok:ConOk P_ gl 174 c:=cr H func174 (.cons F161.ok (.cons F176.ok .nil)) (AnsOk.cons ent191 AnsOk.nil) rn
end F174
namespace F143
noncomputable def H:Hd:=⟨[.agg [Sb,Si],Si,Si],[Sq,Si], .d,⟨[(161,F161.c),(176,F176.c)],gl,false⟩,[],f143⟩
noncomputable def F:=u4 Adj
theorem rn x:H.u P_ x=F x:=by kernel_rfl
noncomputable def c:Con:=⟨H.p,H.r,F⟩
theorem ok:ConOk P_ gl 143 c:=co H func143 (.cons F161.ok (.cons F176.ok .nil)) rn
end F143
namespace F214
noncomputable def H:Hd:=⟨[Sq],[Si], .d,⟨[],gl,false⟩,[],f214⟩
noncomputable def F:=Fm
theorem rn x:H.u P_ x=F x:=by kernel_rfl
noncomputable def c:Con:=⟨H.p,H.r,F⟩
theorem ok:ConOk P_ gl 214 c:=co H func214 .nil rn
end F214
namespace F209
def Alo(j6:Int→UInt64→Int→LB→Int→Option (Int×Int×Int))(g:LB)(b a:Int):Option (Int×Int×Int):=
(Gy g b).bind fun m=>
if(Ay m 0)then
some (0,0,m)
else
if(Bn a 0)then
some (0,0,2)
else
if(Jz a b)then
some (0,0,24)
else
(fun n:Option (Int×Int×Int)=>
(fun o:Option (Int×Int×Int)=>
bo2 (
o)) (
bo (
n))) (
(Adj g b a (Dj 48 (Aj b a))).bind fun(k,h)=>
j6 h k a g b)
theorem Bbe: @Alo= @Yg:=by
  unfold Alo Yg
  simp only[Bc4,Atk,Asf]
abbrev R_:=(Int×Int×Int)
noncomputable def H:Hd:=⟨[.agg [Sb,Si],Si],[Si,Si,Si],(.seq .d (.seq .d (.seq .d (.seq .d (.seq .d (.cut [3,5,6,8,9] [] (.keep [2,3,5,6,8,9,22,23,24,25,26,27,28,29] false) (.seq .d (.seq .d (.cut [] [] (.blk (.seq (.blk (.seq (.blk (.cut [] [] (.cut [3,4,5] [] (.cut [3,4,5,36] [] (.keep [3,4,5,8,36,37,38,39,40] true) .d) .d) .d)) .d)) .d)) .d))))))))),⟨[(143,F143.c),(161,F161.c),(214,F214.c)],gl,false⟩,[(213, .d)],f209⟩
def x10:Option R_:=H.e P_ [r,r,r,r,r,r,r,r,r] ⟨[],[],[]⟩
def x9:Option R_:=H.e P_ [r,r,r,r,r,r,r,r,l,d,l,d,l,d,r] ⟨[],[],[]⟩
def x8(f a:Int):Option R_:=H.e P_ [r,r,r,r,r,r,r,r,l,d,l,d,l,d,l,r] ⟨[(3, .ptr 0 []),(4,vi f),(5,vi 0)],[.box 3 (vi a)],[]⟩
def x7(f b a:Int):Option R_:=H.e P_ [r,r,r,r,r,r,r,r,l,d,l,d,l,d,l,l,r] ⟨[(3, .ptr 0 []),(4,vi f),(5,vi 0),(36,vt (Bn f (Dj (48:Int) (Aj b a))))],[.box 3 (vi a)],[]⟩
def x6(h:Int)(k:UInt64)(a:Int)(g:LB)(b:Int):Option R_:=H.e P_ [r,r,r,r,r,r] ⟨[(3, .ptr 0 []),(5,vi 0),(6,vi h),(8, .fn 213 [.ptr 1 [], .ptr 0 []]),(9,vq k)],[.box 3 (vi a), .box 188 (.agg [vb g,vi b])],[]⟩
theorem e10:x10=Aw2:=by kernel_rfl
theorem e9:x9=Azv:=Eq.trans (b:=Azl x10) (by kernel_rfl) (by simp only[e10]<;>rfl)
theorem e8:x8=Ap9:=Eq.trans (b:=Aqe x9) (by kernel_rfl) (by simp only[e9]<;>rfl)
theorem e7:x7=Apq:=Eq.trans (b:=Apg x8) (by kernel_rfl) (by simp only[e8]<;>rfl)
theorem e6:x6=Ap8:=Eq.trans (b:=Apz x7) (by kernel_rfl) (by simp only[e7]<;>rfl)
noncomputable def F:=u3 Afg
theorem rn x:H.u P_ x=F x:=Eq.trans (b:=u3 (Alo x6) x) (by kernel_rfl) (by unfold F;rw[Bbe];simp only[e6]<;>rfl)
noncomputable def c:Con:=⟨H.p,H.r,F⟩
theorem ok:ConOk P_ gl 209 c:=cr H func209 (.cons F143.ok (.cons F161.ok (.cons F214.ok .nil))) (AnsOk.cons ent213 AnsOk.nil) rn
end F209
namespace F200
abbrev R_:=(UInt32×Int×Int)
noncomputable def H:Hd:=⟨[.agg [Sb,Si],Si,Si],[Su,Si,Si],(.seq .d (.seq .d (.seq .d (.seq .d (.seq .d (.seq .d (.cut [2,3,7,10,11] [] .d .d))))))),⟨[(143,F143.c),(161,F161.c),(192,F192.c),(209,F209.c)],gl,false⟩,[],f200⟩
def x2(a b f:Int)(g:LB)(h k:Int):Option R_:=H.e P_ [r,r,r,r,r,r,r] ⟨[(2,vi a),(3, .ptr 0 []),(7,vi b),(10,vi f),(11,vi k)],[.box 188 (.agg [vb g,vi h])],[]⟩
theorem e2:x2=Akk:=by kernel_rfl
noncomputable def F:=u4 Ax5
theorem rn x:H.u P_ x=F x:=Eq.trans (b:=u4 (Atr x2) x) (by kernel_rfl) (by simp only[e2]<;>rfl)
noncomputable def c:Con:=⟨H.p,H.r,F⟩
theorem ok:ConOk P_ gl 200 c:=co H func200 (.cons F143.ok (.cons F161.ok (.cons F192.ok (.cons F209.ok .nil)))) rn
end F200
namespace F175
abbrev R_:=(UInt32×Int×Int×Int×UInt64×UInt64×Int)
noncomputable def H:Hd:=⟨[.agg [Sb,Si],Si, .agg [Si,Si,Sq,Sq]],[Su,Si, .agg [Si,Si,Sq,Sq],Si],(.seq .d (.cut [1,3,5,8] [] .d (.seq .d (.seq .d (.cut [5,6,7,8] [] .d (.cut [5,6,7,8] [] (.keep [5,6,7,8,81] true) .d)))))),⟨[(143,F143.c),(161,F161.c),(162,F162.c),(163,F163.c),(200,F200.c)],gl,false⟩,[(166,(.seq .d (.seq .d (.seq .d (.blk (.cut [0,1,4] [] (.blk (.seq .d (.keep [0,1,4,6,18,19,20,21,22,23,24,25] true))) (.cut [] [] (.keep [0,1,4,27,28,29,30,31,32,33,34] true) .d))))))),(194, .d)],f175⟩
def x10(f:UInt32)(k w m:Int)(a n:UInt64):Option R_:=H.e P_ [r,r,r,r,r,r] ⟨[(5, .ptr 0 []),(6,vu f),(7,vi k),(8, .ptr 1 [])],[.box 184 (.agg [vi w,vi m,vq (Ad a (Aj (Af f:UInt64) (Bi a (GI.toZ (4:UInt64)).toNat))),vq n]), .box 184 (.agg [vi 0,vi 0,vq 0,vq 0])],[]⟩
def x9(f:UInt32)(k m:Int)(a n:UInt64)(w:Int):Option R_:=H.e P_ [r,r,r,r,r,l,(call 1 166),r,r,r,d,r,r] ⟨[],[.box 184 (.agg [vi w,vi m,vq (Ad a (Aj (Af f:UInt64) (Bi a (GI.toZ (4:UInt64)).toNat))),vq n]), .box 184 (.agg [vi 0,vi 0,vq 0,vq 0])],[[(5, .ptr 0 []),(6,vu f),(7,vi k),(8, .ptr 1 []),(81,vu f)]]⟩
def x8(f:UInt32)(k b:Int)(a:UInt64)(m:Int)(n:UInt64):Option R_:=H.e P_ [r,r,r,r,r,l,(call 1 166),r,r,r,d,r] ⟨[(0, .ptr 0 []),(1,vu f),(4, .fn 194 [])],[.box 184 (.agg [vi b,vi m,vq a,vq n]), .box 184 (.agg [vi 0,vi 0,vq 0,vq 0])],[[(5, .ptr 0 []),(6,vu f),(7,vi k),(8, .ptr 1 []),(81,vu f)]]⟩
def x7(b h:Int)(a g:UInt64)(f:UInt32)(k:Int):Option R_:=H.e P_ [r,r,r,r,r] ⟨[(5, .ptr 0 []),(6,vu f),(7,vi k),(8, .ptr 1 [])],[.box 184 (.agg [vi b,vi h,vq a,vq g]), .box 184 (.agg [vi 0,vi 0,vq 0,vq 0])],[]⟩
def x6(p:Int)(u:LB)(v b h:Int)(a g:UInt64):Option R_:=H.e P_ [r,r] ⟨[(1,vi p),(3, .ptr 0 []),(5, .ptr 1 []),(8, .ptr 2 [])],[.box 188 (.agg [vb u,vi v]), .box 184 (.agg [vi b,vi h,vq a,vq g]), .box 184 (.agg [vi 0,vi 0,vq 0,vq 0])],[]⟩
theorem e10:x10=Ao9:=by kernel_rfl
theorem e9:x9=Ast:=Eq.trans (b:=Ar1 x10) (by kernel_rfl) (by simp only[e10]<;>rfl)
theorem e8:x8=Adc:=Eq.trans (b:=Ar0 x9) (by kernel_rfl) (by simp only[e9]<;>rfl)
theorem e7:x7=Akf:=Eq.trans (b:=Ata x8) (by kernel_rfl) (by simp only[e8]<;>rfl)
theorem e6:x6=Ar6:=Eq.trans (b:=Asu x7) (by kernel_rfl) (by simp only[e7]<;>rfl)
noncomputable def F:=u7 Afn
theorem rn x:H.u P_ x=F x:=Eq.trans (b:=u7 (Atx x6) x) (by kernel_rfl) (by simp only[e6]<;>rfl)
noncomputable def c:Con:=⟨H.p,H.r,F⟩
theorem ok:ConOk P_ gl 175 c:=cr H func175 (.cons F143.ok (.cons F161.ok (.cons F162.ok (.cons F163.ok (.cons F200.ok .nil))))) (AnsOk.cons ent166 (AnsOk.cons ent194 AnsOk.nil)) rn
end F175
namespace F142
def Xu(j21:Int→Int→Int→UInt32→Int→(List (Int×Int×UInt64×UInt64×Unit))→LU→Int→Int→UInt64→UInt64→Option (LU×Int×Int))(j24:Int→LU→Option (LU×Int×Int))(a f:Int)(g:LB)(b k h:Int)(n:List (Int×Int×UInt64×UInt64×Unit))(m:LU):Option (LU×Int×Int):=
if(Bn h (Au f a))then
(Aw7 g b k (Dj (Ad k 81) b)).bind fun(ah,ae,af)=>
if(Ay af 0)then
some (([]:LU),0,af)
else
(Hu (Ay a 0)).bind fun _=>
(getI n (Fc h a)).bind fun _=>
(fun ai:Option (LU×Int×Int)=>
both (
both (
(getI n (Fc h a)).bind fun p=>
(fun ao:Option (LU×Int×Int)=>
bo (
ao)) (
(Afn ah ae 0 p.1 p.2.1 p.2.2.1 p.2.2.2.1).bind fun(w,v,aa,ab,ac,ad,y)=>
j21 k h y w v n m aa ab ac ad)) [
ai]) [
(getI n (Fc h a)).bind fun p=>
(fun aj:Option (LU×Int×Int)=>
both (
bo (
aj)) [
aj]) (
(Afn ah ae 0 p.1 p.2.1 p.2.2.1 p.2.2.2.1).bind fun(w,v,aa,ab,ac,ad,y)=>
j21 k h y w v n m aa ab ac ad),
bo (
ai)]) (
(getI n (Fc h a)).bind fun p=>
(Afn ah ae 0 p.1 p.2.1 p.2.2.1 p.2.2.2.1).bind fun(w,v,aa,ab,ac,ad,y)=>
j21 k h y w v n m aa ab ac ad)
else
j24 k m
theorem Aty: @Xu= @Rw:=by
  unfold Xu Rw
  try simp only[Bc4,Atk,Asf]
  all_goals
    repeat (refine funext fun _=>?_)
    repeat' first
      |with_reducible rfl
      |with_reducible refine Vz ?_ ?_
      |with_reducible refine Vs ?_ ?_ ?_
      |with_reducible refine Vu ?_ ?_ ?_ ?_
      |((with_reducible refine Ac1 ?_ ?_);focus (intro h;first|(subst h;rfl)|(simp only[h];rfl)|(simp[Ek,Ac,h];done)))
      |with_reducible refine Acy fun x=>?_
      |with_reducible refine Anc (fun _=>?_) (fun _=>?_)
      |(refine Mc (fun h=>by simp only[h,Aby,Hx,Hh,ite_self]) (fun x h=>?_);(try simp only[h,Hx]))
      |(refine Pq (fun h=>?_) (fun h=>?_)<;>simp only[h,if_true,if_false,Bool.false_eq_true])
abbrev R_:=(LU×Int×Int)
abbrev K_:=S→Option R_
noncomputable def H:Hd:=⟨[Si,Si, .agg [Sb,Si]],[Ov 60,Si,Si],(.seq .d (.seq .d (.cut [0,1,5,9] [] (.seq .d (.blk (.loop [0,1,5,9,19] [] .d))) (.seq .d (.seq .d (.cut [11,12] [] (.seq .d (.blk (.loop [0,5,9,11,12,28,29] [⟨11,[], .own 60 (.int .u32)⟩] (.seq .d (.seq .d (.seq (.blk (.seq .d (.seq .d (.seq .d (.cut [0,5,9,11,12,13,15,16,17,18,28,29] [] (.mode false) (.seq .d (.cut [0,5,9,11,12,16,28,29] [] .d .d))))))) .d)))))) .d)))))),⟨[(160,F160.c),(174,F174.c),(175,F175.c)],gl,false⟩,[],f142⟩
def t16(a f:Int)(g:LB)(b k h:Int)(n:List (Int×Int×UInt64×UInt64×Unit))(m:LU):S:=⟨[(0,vi a),(5, .ptr 0 []),(9, .ptr 1 []),(11, .own 2),(12,vi k),(28,vi (Au f a)),(29,vi h)],[.box 188 (.agg [vb g,vi b]), .box 185 (.val (.vec 6 (.cons (.int .i64) (.cons (.int .i64) (.cons (.int .u64) (.cons (.int .u64) .nil))))) n),Av 60 m],[]⟩
def z16:Nat→S→Option R_:=H.i P_ [r,r,r,r,r,l,r,d]
def t13(a f:Int)(g:LB)(b u:Int)(o:List (Int×Int×UInt64×UInt64×Unit)):S:=⟨[(0,vi a),(1,vi f),(5, .ptr 0 []),(9, .ptr 1 []),(19,vi u)],[.box 188 (.agg [vb g,vi b]), .box 185 (.val (.vec 6 (.cons (.int .i64) (.cons (.int .i64) (.cons (.int .u64) (.cons (.int .u64) .nil))))) o)],[]⟩
def z13:Nat→S→Option R_:=H.i P_ [r,r,l,r,d]
def x24(k:Int)(m:LU):Option R_:=H.e P_ [r,r,r,r,r,r] ⟨[(11, .own 0),(12,vi k)],[Av 60 m],[]⟩
def x22(kn16:K_)(a f:Int)(g:LB)(b k v:Int)(w:UInt32)(h:Int)(ag:List (Int×Int×UInt64×UInt64×Unit))(m:LU):Option R_:=H.e P_ [r,r,r,r,r,l,r,d,(lp kn16),r,r,l,d,r,r,r,r,r,r] ⟨[(0,vi a),(5, .ptr 0 []),(9, .ptr 1 []),(11, .own 2),(12,vi (Ad k v)),(16,vu w),(28,vi (Au f a)),(29,vi h)],[.box 188 (.agg [vb g,vi b]), .box 185 (.val (.vec 6 (.cons (.int .i64) (.cons (.int .i64) (.cons (.int .u64) (.cons (.int .u64) .nil))))) ag),Av 60 m],[]⟩
def x21(kn16:K_)(a f:Int)(g:LB)(b k h y:Int)(w:UInt32)(v:Int)(n:List (Int×Int×UInt64×UInt64×Unit))(m:LU)(aa ab:Int)(ac ad:UInt64):Option R_:=H.e P_ [r,r,r,r,r,l,r,d,(lp kn16),r,r,l,d,r,r,r,r] ⟨[(0,vi a),(5, .ptr 0 []),(9, .ptr 1 []),(11, .own 2),(12,vi k),(13,vi h),(15,vi y),(16,vu w),(17,vi v),(18, .ptr 3 []),(28,vi (Au f a)),(29,vi h)],[.box 188 (.agg [vb g,vi b]), .box 185 (.val (.vec 6 (.cons (.int .i64) (.cons (.int .i64) (.cons (.int .u64) (.cons (.int .u64) .nil))))) n),Av 60 m, .box 184 (.agg [vi aa,vi ab,vq ac,vq ad])],[]⟩
def x16(a f:Int)(g:LB)(b k h:Int)(n:List (Int×Int×UInt64×UInt64×Unit))(m:LU):Option R_:=H.e P_ [r,r,r,r,r,l,r,d] (t16 a f g b k h n m)
def x15(a f:Int)(g:LB)(b:Int)(o:List (Int×Int×UInt64×UInt64×Unit)):Option R_:=H.e P_ [r,r,r] ⟨[(0,vi a),(1,vi f),(5, .ptr 0 []),(9, .ptr 1 [])],[.box 188 (.agg [vb g,vi b]), .box 185 (.val (.vec 6 (.cons (.int .i64) (.cons (.int .i64) (.cons (.int .u64) (.cons (.int .u64) .nil))))) o)],[]⟩
def x13(a f:Int)(g:LB)(b u:Int)(o:List (Int×Int×UInt64×UInt64×Unit)):Option R_:=H.e P_ [r,r,l,r,d] (t13 a f g b u o)
theorem e24:x24=Amp:=by kernel_rfl
theorem e22(kn16:K_)(a f:Int)(g:LB)(b:Int):x22 kn16 a f g b=Zt (fun k h n m=>kn16 (t16 a f g b k h n m)) a f g b:=by kernel_rfl
theorem e21(kn16:K_)(a f:Int)(g:LB)(b:Int):x21 kn16 a f g b=Rl (fun k h n m=>kn16 (t16 a f g b k h n m)) a f g b:=Eq.trans (b:=Qz (x22 kn16 a f g b) a f g b) (by kernel_rfl) (by simp only[e22]<;>rfl)
theorem i16(a f:Int)(g:LB)(b:Int):∀(q:Nat) (k h:Int) (n:List (Int×Int×UInt64×UInt64×Unit)) (m:LU),z16 q (t16 a f g b k h n m)=Mi a f g b q k h n m:=
 ind (fun _ _ _ _=>by kernel_rfl) fun q ih k h n m=>Eq.trans (b:=Xu (x21 (z16 q) a f g b) x24 a f g b k h n m) (by kernel_rfl) (by rw[Aty];simp only[e21,e24,ih]<;>rfl)
theorem e16:x16=Ano:=by funext a f g b k h n m;exact Eq.trans (by kernel_rfl) ((i16 a f g b Cq k h n m).trans (by rw[Aq];rfl))
theorem e15:x15=Zh:=Eq.trans (b:=Ame x16) (by kernel_rfl) (by simp only[e16]<;>rfl)
theorem i13(a f:Int)(g:LB)(b:Int):∀(q:Nat) (u:Int) (o:List (Int×Int×UInt64×UInt64×Unit)),z13 q (t13 a f g b u o)=Zu a f g b q u o:=
 ind (fun _ _=>by kernel_rfl) fun q ih u o=>Eq.trans (b:=Alv x15 (fun u o=>(z13 q) (t13 a f g b u o)) a f g b u o) (by kernel_rfl) (by simp only[e15,ih]<;>rfl)
theorem e13:x13=Ri:=by funext a f g b u o;exact Eq.trans (by kernel_rfl) ((i13 a f g b Cq u o).trans (by rw[Aq];rfl))
noncomputable def F:=u4 Ab2
theorem rn x:H.u P_ x=F x:=Eq.trans (b:=u4 (Acb x13) x) (by kernel_rfl) (by simp only[e13]<;>rfl)
noncomputable def c:Con:=⟨H.p,H.r,F⟩
theorem ok:ConOk P_ gl 142 c:=co H func142 (.cons F160.ok (.cons F174.ok (.cons F175.ok .nil))) rn
end F142
namespace F178
noncomputable def H:Hd:=⟨[Su],[Sx], .d,⟨[],gl,false⟩,[],f178⟩
noncomputable def F:=Wu
theorem rn x:H.u P_ x=F x:=by kernel_rfl
noncomputable def c:Con:=⟨H.p,H.r,F⟩
theorem ok:ConOk P_ gl 178 c:=co H func178 .nil rn
end F178
namespace F201
noncomputable def H:Hd:=⟨[.agg [Si, .lf (.vec 16 (.int .i32)) none, .lf (.vec 16 (.int .i32)) none],Sx],[Sx, .agg [Si, .lf (.vec 16 (.int .i32)) none, .lf (.vec 16 (.int .i32)) none],Si], .d,⟨[(206,F206.c),(207,F207.c)],gl,false⟩,[],f201⟩
noncomputable def F:=u4 Axu
theorem rn x:H.u P_ x=F x:=by kernel_rfl
noncomputable def c:Con:=⟨H.p,H.r,F⟩
theorem ok:ConOk P_ gl 201 c:=co H func201 (.cons F206.ok (.cons F207.ok .nil)) rn
end F201
namespace F177
def Amt(a:Int)(b:Int32)(f:Int)(g h:LX)(o:Int32):Option (Int32×Int×Int32×Int×LX×LX×Int):=
(Vx a b f g h).bind fun k=>
if(Ay k 0)then
some (0,0,0,0,(List.replicate 16 (0:Int32)),(List.replicate 16 (0:Int32)),k)
else
(Vh a b).bind fun(m,y)=>
(Axu f g h o).bind fun(n,p,u,v,w)=>
(fun aa:Option (Int32×Int×Int32×Int×LX×LX×Int)=>
bo (
aa)) (
some ((Ad n m),a,(Ad n m),p,u,v,w))
theorem Bb5: @Amt= @Km:=by
  unfold Amt Km
  simp only[Bc4,Atk,Asf]
noncomputable def H:Hd:=⟨[.agg [Si,Sx, .agg [Si, .lf (.vec 16 (.int .i32)) none, .lf (.vec 16 (.int .i32)) none]],Sx],[Sx, .agg [Si,Sx, .agg [Si, .lf (.vec 16 (.int .i32)) none, .lf (.vec 16 (.int .i32)) none]],Si],(.seq .d (.seq .d (.seq .d (.seq .d (.seq (.mode false) .d))))),⟨[(187,F187.c),(188,F188.c),(201,F201.c)],gl,false⟩,[],f177⟩
noncomputable def F:=u6 Km
theorem rn x:H.u P_ x=F x:=Eq.trans (b:=u6 Amt x) (by kernel_rfl) (by rw[Bb5];rfl)
noncomputable def c:Con:=⟨H.p,H.r,F⟩
theorem ok:ConOk P_ gl 177 c:=co H func177 (.cons F187.ok (.cons F188.ok (.cons F201.ok .nil))) rn
end F177
namespace F179
abbrev R_:=(LX×Int)
abbrev K_:=S→Option R_
noncomputable def H:Hd:=⟨[Si,Sw],[Ow 21,Si],(.seq .d (.seq .d (.seq .d (.cut [7] [] (.seq .d (.blk (.loop [0,7,8] [] (.seq .d (.cut [0,7,8] [] (.blk (.keep [0,7,8,24,25,26,27,28,29] true)) .d))))) .d)))),⟨[(183,F183.c),(184,F184.c)],gl,true⟩,[(202,(.seq .d (.cut [0,2] [] .d (.seq .d (.blk (.loop [0,3] [] .d))))))],f179⟩
def t18(b a g:Int)(h:LX):S:=⟨[(0, .view true 0 [] (.int .i32) a ((Ad a b)-a)),(3,vi g)],[Aw 21 h],[[(0,vi b),(7, .own 0),(8,vi a),(24, .own 0),(25,vi a),(26,vi a),(27,vi b),(28,vi (Ad a b)),(29, .view true 0 [] (.int .i32) a ((Ad a b)-a))]]⟩
def z18(kn12:K_):Nat→S→Option R_:=H.i P_ [r,r,r,l,r,d,(lp kn12),r,l,d,(call 6 202),r,r,r,d]
def t12(b a:Int)(f:LX):S:=⟨[(0,vi b),(7, .own 0),(8,vi a)],[Aw 21 f],[]⟩
def z12:Nat→S→Option R_:=H.i P_ [r,r,r,l,r,d]
def x22(f:LX):Option R_:=H.e P_ [r,r,r,r] ⟨[(7, .own 0)],[Aw 21 f],[]⟩
def x20(kn12:K_)(b a:Int)(h:LX):Option R_:=H.e P_ [r,r,r,l,r,d,(lp kn12),r,r] ⟨[(0,vi b),(7, .own 0),(8,vi a)],[Aw 21 h],[]⟩
def x18(kn12:K_)(b a g:Int)(h:LX):Option R_:=H.e P_ [r,r,r,l,r,d,(lp kn12),r,l,d,(call 6 202),r,r,r,d] (t18 b a g h)
def x17(kn12:K_)(b a:Int)(k:LX):Option R_:=H.e P_ [r,r,r,l,r,d,(lp kn12),r,l,d,(call 6 202),r,r] ⟨[(0, .view true 0 [] (.int .i32) a ((Ad a b)-a)),(2,vi (Aj ((Ad a b)-a) (1:Int)))],[Aw 21 k],[[(0,vi b),(7, .own 0),(8,vi a),(24, .own 0),(25,vi a),(26,vi a),(27,vi b),(28,vi (Ad a b)),(29, .view true 0 [] (.int .i32) a ((Ad a b)-a))]]⟩
def x12(b a:Int)(f:LX):Option R_:=H.e P_ [r,r,r,l,r,d] (t12 b a f)
theorem e22:x22=Bc0:=by kernel_rfl
theorem e20(kn12:K_)(b:Int):x20 kn12 b=Aso (fun a f=>kn12 (t12 b a f)) b:=by kernel_rfl
theorem i18(kn12:K_)(b a:Int):∀(q:Nat) (g:Int) (h:LX),z18 kn12 q (t18 b a g h)=Ww (fun a f=>kn12 (t12 b a f)) b a q g h:=
 ind (fun _ _=>by kernel_rfl) fun q ih g h=>Eq.trans (b:=Akh (x20 kn12 b) (fun g h=>(z18 kn12 q) (t18 b a g h)) b a g h) (by kernel_rfl) (by simp only[e20,ih]<;>rfl)
theorem e18(kn12:K_)(b:Int):x18 kn12 b=Asl (fun a f=>kn12 (t12 b a f)) b:=by funext a g h;exact Eq.trans (by kernel_rfl) ((i18 kn12 b a Cq g h).trans (by rw[Aq];rfl))
theorem e17(kn12:K_)(b:Int):x17 kn12 b=Aj6 (fun a f=>kn12 (t12 b a f)) b:=Eq.trans (b:=Ati (x18 kn12 b) b) (by kernel_rfl) (by simp only[e18]<;>rfl)
theorem i12(b:Int):∀(q:Nat) (a:Int) (f:LX),z12 q (t12 b a f)=Rm b q a f:=
 ind (fun _ _=>by kernel_rfl) fun q ih a f=>Eq.trans (b:=At2 (x17 (z12 q) b) x22 b a f) (by kernel_rfl) (by simp only[e17,e22,ih]<;>rfl)
theorem e12:x12=Asy:=by funext b a f;exact Eq.trans (by kernel_rfl) ((i12 b Cq a f).trans (by rw[Aq];rfl))
noncomputable def F:=u2 Bbv
theorem rn x:H.u P_ x=F x:=Eq.trans (b:=u2 (Awe x12) x) (by kernel_rfl) (by simp only[e12]<;>rfl)
noncomputable def c:Con:=⟨H.p,H.r,F⟩
theorem ok:ConOk P_ gl 179 c:=cr H func179 (.cons F183.ok (.cons F184.ok .nil)) (AnsOk.cons ent202 AnsOk.nil) rn
end F179
namespace F144
def Vl(j16:Int→Int32→Int→(List (Int×Int32×(Int×LX×LX×Unit)×Unit))→LX→Int→Int32→Int→LX→LX→Option (LX×Int))(j18:Int→Int→LX→Option (LX×Int))(f:LU)(a b g:Int)(h:List (Int×Int32×(Int×LX×LX×Unit)×Unit))(k:LX):Option (LX×Int):=
if(Bn g (Ac f))then
(getI f g).bind fun ag=>
(Hu (Ay a 0)).bind fun _=>
(getI h (Fc g a)).bind fun _=>
both (
(getI h (Fc g a)).bind fun m=>
both (
(Wu ag).bind fun ae=>
(fun ao:Option (LX×Int)=>
bo (
ao)) (
(Km m.1 m.2.1 m.2.2.1.1 m.2.2.1.2.1 m.2.2.1.2.2.1 ae).bind fun(w,y,v,aa,ab,ac,u)=>
j16 g w u h k y v aa ab ac)) [
(Wu ag).bind fun ae=>
(Km m.1 m.2.1 m.2.2.1.1 m.2.2.1.2.1 m.2.2.1.2.2.1 ae).bind fun(w,y,v,aa,ab,ac,u)=>
j16 g w u h k y v aa ab ac]) [
(Wu ag).bind fun af=>
both (
(getI h (Fc g a)).bind fun ad=>
(fun ap:Option (LX×Int)=>
bo (
ap)) (
(Km ad.1 ad.2.1 ad.2.2.1.1 ad.2.2.1.2.1 ad.2.2.1.2.2.1 af).bind fun(w,y,v,aa,ab,ac,u)=>
j16 g w u h k y v aa ab ac)) [
(getI h (Fc g a)).bind fun ad=>
(Km ad.1 ad.2.1 ad.2.2.1.1 ad.2.2.1.2.1 ad.2.2.1.2.2.1 af).bind fun(w,y,v,aa,ab,ac,u)=>
j16 g w u h k y v aa ab ac],
both (
(getI h (Fc g a)).bind fun m=>
(Wu ag).bind fun ae=>
(Km m.1 m.2.1 m.2.2.1.1 m.2.2.1.2.1 m.2.2.1.2.2.1 ae).bind fun(w,y,v,aa,ab,ac,u)=>
j16 g w u h k y v aa ab ac) [
(Wu ag).bind fun af=>
(getI h (Fc g a)).bind fun ad=>
(Km ad.1 ad.2.1 ad.2.2.1.1 ad.2.2.1.2.1 ad.2.2.1.2.2.1 af).bind fun(w,y,v,aa,ab,ac,u)=>
j16 g w u h k y v aa ab ac]]
else
j18 a b k
theorem Aqp: @Vl= @Kz:=by
  unfold Vl Kz
  try simp only[Bc4,Atk,Asf]
  all_goals
    repeat (refine funext fun _=>?_)
    repeat' first
      |with_reducible rfl
      |with_reducible refine Vz ?_ ?_
      |with_reducible refine Vs ?_ ?_ ?_
      |with_reducible refine Vu ?_ ?_ ?_ ?_
      |((with_reducible refine Ac1 ?_ ?_);focus (intro h;first|(subst h;rfl)|(simp only[h];rfl)|(simp[Ek,Ac,h];done)))
      |with_reducible refine Acy fun x=>?_
      |with_reducible refine Anc (fun _=>?_) (fun _=>?_)
      |(refine Mc (fun h=>by simp only[h,Aby,Hx,Hh,ite_self]) (fun x h=>?_);(try simp only[h,Hx]))
      |(refine Pq (fun h=>?_) (fun h=>?_)<;>simp only[h,if_true,if_false,Bool.false_eq_true])
abbrev R_:=(LX×Int)
abbrev K_:=S→Option R_
noncomputable def H:Hd:=⟨[.agg [Si,Si], .lf (.vec 16 (.int .i32)) none,Sv],[Ow 21,Si],(.seq .d (.seq .d (.cut [2,3,8] [] (.seq .d (.blk (.loop [2,3,4,8,20] [] .d))) (.seq .d (.cut [3,10] [] (.seq .d (.blk (.loop [3,8,10,33,34,35] [⟨10,[], .own 21 (.int .i32)⟩] (.seq .d (.seq .d (.seq (.blk (.seq .d (.seq .d (.cut [3,8,10,13,14,15,16,33,34,35] [] (.mode false) .d)))) .d)))))) .d))))),⟨[(63,F63.c),(157,F157.c),(177,F177.c),(178,F178.c),(179,F179.c)],gl,false⟩,[],f144⟩
def t13(f:LU)(a b g:Int)(h:List (Int×Int32×(Int×LX×LX×Unit)×Unit))(k:LX):S:=⟨[(3, .ptr 0 []),(8, .ptr 1 []),(10, .own 2),(33,vv f),(34,vi (Ac f)),(35,vi g)],[.box 74 (.agg [vi a,vi b]), .box 225 (.val (.vec 6 (.cons (.int .i64) (.cons (.int .i32) (.cons (.cons (.int .i64) (.cons (.vec 16 (.int .i32)) (.cons (.vec 16 (.int .i32)) .nil))) .nil)))) h),Aw 21 k],[]⟩
def z13:Nat→S→Option R_:=H.i P_ [r,r,r,r,l,r,d]
def t10(f:LU)(a b:Int)(o:LX)(p:Int)(n:List (Int×Int32×(Int×LX×LX×Unit)×Unit)):S:=⟨[(2,vv f),(3, .ptr 0 []),(4, .ptr 1 []),(8, .ptr 2 []),(20,vi p)],[.box 74 (.agg [vi a,vi b]), .box 136 (.val (.vec 16 (.int .i32)) o), .box 225 (.val (.vec 6 (.cons (.int .i64) (.cons (.int .i32) (.cons (.cons (.int .i64) (.cons (.vec 16 (.int .i32)) (.cons (.vec 16 (.int .i32)) .nil))) .nil)))) n)],[]⟩
def z10:Nat→S→Option R_:=H.i P_ [r,r,l,r,d]
def x18(a b:Int)(k:LX):Option R_:=H.e P_ [r,r,r,r,r] ⟨[(3, .ptr 0 []),(10, .own 1)],[.box 74 (.agg [vi a,vi b]),Aw 21 k],[]⟩
def x16(kn13:K_)(a:Int)(f:LU)(b g:Int)(w:Int32)(u:Int)(h:List (Int×Int32×(Int×LX×LX×Unit)×Unit))(k:LX)(y:Int)(v:Int32)(aa:Int)(ab ac:LX):Option R_:=H.e P_ [r,r,r,r,l,r,d,(lp kn13),r,r,l,d,r,r,r] ⟨[(3, .ptr 0 []),(8, .ptr 1 []),(10, .own 2),(13, .ptr 1 [.idx (Fc g a) 35]),(14,vx w),(15, .ptr 3 []),(16,vi u),(33,vv f),(34,vi (Ac f)),(35,vi g)],[.box 74 (.agg [vi a,vi b]), .box 225 (.val (.vec 6 (.cons (.int .i64) (.cons (.int .i32) (.cons (.cons (.int .i64) (.cons (.vec 16 (.int .i32)) (.cons (.vec 16 (.int .i32)) .nil))) .nil)))) h),Aw 21 k, .box 224 (.agg [vi y,vx v, .agg [vi aa, .val (.vec 16 (.int .i32)) ab, .val (.vec 16 (.int .i32)) ac]])],[]⟩
def x13(f:LU)(a b g:Int)(h:List (Int×Int32×(Int×LX×LX×Unit)×Unit))(k:LX):Option R_:=H.e P_ [r,r,r,r,l,r,d] (t13 f a b g h k)
def x12(f:LU)(a b:Int)(n:List (Int×Int32×(Int×LX×LX×Unit)×Unit)):Option R_:=H.e P_ [r,r,r] ⟨[(2,vv f),(3, .ptr 0 []),(8, .ptr 1 [])],[.box 74 (.agg [vi a,vi b]), .box 225 (.val (.vec 6 (.cons (.int .i64) (.cons (.int .i32) (.cons (.cons (.int .i64) (.cons (.vec 16 (.int .i32)) (.cons (.vec 16 (.int .i32)) .nil))) .nil)))) n)],[]⟩
def x10(f:LU)(a b:Int)(o:LX)(p:Int)(n:List (Int×Int32×(Int×LX×LX×Unit)×Unit)):Option R_:=H.e P_ [r,r,l,r,d] (t10 f a b o p n)
theorem e18:x18=Ku:=by kernel_rfl
theorem e16(kn13:K_)(f:LU)(a b:Int):x16 kn13 a f b=Wz (fun g h k=>kn13 (t13 f a b g h k)) a f b:=by kernel_rfl
theorem i13(f:LU)(a b:Int):∀(q:Nat) (g:Int) (h:List (Int×Int32×(Int×LX×LX×Unit)×Unit)) (k:LX),z13 q (t13 f a b g h k)=Hp f a b q g h k:=
 ind (fun _ _ _=>by kernel_rfl) fun q ih g h k=>Eq.trans (b:=Vl (x16 (z13 q) a f b) x18 f a b g h k) (by kernel_rfl) (by rw[Aqp];simp only[e16,e18,ih]<;>rfl)
theorem e13:x13=Ajo:=by funext f a b g h k;exact Eq.trans (by kernel_rfl) ((i13 f a b Cq g h k).trans (by rw[Aq];rfl))
theorem e12:x12=Xt:=Eq.trans (b:=Ajy x13) (by kernel_rfl) (by simp only[e13]<;>rfl)
theorem i10(f:LU)(a b:Int)(o:LX):∀(q:Nat) (p:Int) (n:List (Int×Int32×(Int×LX×LX×Unit)×Unit)),z10 q (t10 f a b o p n)=Xh f a b o q p n:=
 ind (fun _ _=>by kernel_rfl) fun q ih p n=>Eq.trans (b:=Ajv x12 (fun p n=>(z10 q) (t10 f a b o p n)) f a b o p n) (by kernel_rfl) (by simp only[e12,ih]<;>rfl)
theorem e10:x10=Pd:=by funext f a b o p n;exact Eq.trans (by kernel_rfl) ((i10 f a b o Cq p n).trans (by rw[Aq];rfl))
noncomputable def F:=u4 Sj
theorem rn x:H.u P_ x=F x:=Eq.trans (b:=u4 (Zm x10) x) (by kernel_rfl) (by simp only[e10]<;>rfl)
noncomputable def c:Con:=⟨H.p,H.r,F⟩
theorem ok:ConOk P_ gl 144 c:=co H func144 (.cons F63.ok (.cons F157.ok (.cons F177.ok (.cons F178.ok (.cons F179.ok .nil))))) rn
end F144
namespace F104
noncomputable def H:Hd:=⟨[.agg [Si,Si], .lf (.vec 16 (.int .i32)) none,Si,Sb],[Ow 21,Si], .d,⟨[(139,F139.c),(140,F140.c),(141,F141.c),(142,F142.c),(143,F143.c),(144,F144.c)],gl,false⟩,[],f104⟩
noncomputable def F:=u5 deframe_Decode
theorem rn x:H.u P_ x=F x:=by kernel_rfl
noncomputable def c:Con:=⟨H.p,H.r,F⟩
theorem ok:ConOk P_ gl 104 c:=co H func104 (.cons F139.ok (.cons F140.ok (.cons F141.ok (.cons F142.ok (.cons F143.ok (.cons F144.ok .nil)))))) rn
end F104
namespace F106
abbrev R_:=(Int×Int)
noncomputable def H:Hd:=⟨[Sb],[Si,Si],(.seq .d (.seq .d (.cut [0,4] [] .d .d))),⟨[(100,F100.c),(145,F145.c),(146,F146.c),(147,F147.c)],gl,false⟩,[],f106⟩
def x2(a:LB):Option R_:=H.e P_ [r,r,r] ⟨[(0,vb a),(4,vi (Aj (Ac a) (32:Int)))],[],[]⟩
theorem e2:x2=Avx:=by kernel_rfl
noncomputable def F:=Bbx
theorem rn x:H.u P_ x=F x:=Eq.trans (b:=Avi x2 x) (by kernel_rfl) (by simp only[e2]<;>rfl)
noncomputable def c:Con:=⟨H.p,H.r,F⟩
theorem ok:ConOk P_ gl 106 c:=co H func106 (.cons F100.ok (.cons F145.ok (.cons F146.ok (.cons F147.ok .nil)))) rn
end F106
namespace F52
abbrev R_:=(Int×Int)
abbrev K_:=S→Option R_
noncomputable def H:Hd:=⟨[Sb],[Si,Si],(.seq .d (.seq .d (.seq .d (.seq .d (.cut [5] [] (.blk (.loop [1,4,5] [] (.seq .d (.cut [1,4,5] [] (.blk (.cut [1,4,5,6] [] (.keep [1,4,5,6,16,17] true) .d)) .d)))) .d))))),⟨[(106,F106.c)],gl,false⟩,[(105, .d)],f52⟩
def t8(a:Int)(b:LB):S:=⟨[(1, .ptr 0 []),(4, .fn 105 [.ptr 0 []]),(5,vi a)],[.box 27 (vb b)],[]⟩
def z8:Nat→S→Option R_:=H.i P_ [r,r,r,r,l,d]
def x14(a:Int):Option R_:=H.e P_ [r,r,r,r,r] ⟨[(5,vi a)],[],[]⟩
def x12(kn8:K_)(a:Int)(g:LB):Option R_:=H.e P_ [r,r,r,r,l,d,(lp kn8),r,r] ⟨[(1, .ptr 0 []),(4, .fn 105 [.ptr 0 []]),(5,vi a)],[.box 27 (vb g)],[]⟩
def x11(kn8:K_)(a f:Int)(b:LB):Option R_:=H.e P_ [r,r,r,r,l,d,(lp kn8),r,l,d,r] ⟨[(1, .ptr 0 []),(4, .fn 105 [.ptr 0 []]),(5,vi a),(6,vi f)],[.box 27 (vb b)],[]⟩
def x8(a:Int)(b:LB):Option R_:=H.e P_ [r,r,r,r,l,d] (t8 a b)
theorem e14:x14=Arh:=by kernel_rfl
theorem e12(kn8:K_):x12 kn8=Afo (fun a b=>kn8 (t8 a b)):=by kernel_rfl
theorem e11(kn8:K_):x11 kn8=Afw (fun a b=>kn8 (t8 a b)):=Eq.trans (b:=Afy (x12 kn8)) (by kernel_rfl) (by simp only[e12]<;>rfl)
theorem i8:∀(q:Nat) (a:Int) (b:LB),z8 q (t8 a b)=Sf q a b:=
 ind (fun _ _=>by kernel_rfl) fun q ih a b=>Eq.trans (b:=Aik (x11 (z8 q)) x14 a b) (by kernel_rfl) (by simp only[e11,e14,ih]<;>rfl)
theorem e8:x8=Aue:=by funext a b;exact Eq.trans (by kernel_rfl) ((i8 Cq a b).trans (by rw[Aq];rfl))
noncomputable def F:=Aj5
theorem rn x:H.u P_ x=F x:=Eq.trans (b:=Ajj x8 x) (by kernel_rfl) (by simp only[e8]<;>rfl)
noncomputable def c:Con:=⟨H.p,H.r,F⟩
theorem ok:ConOk P_ gl 52 c:=cr H func52 (.cons F106.ok .nil) (AnsOk.cons ent105 AnsOk.nil) rn
end F52
namespace F69
abbrev R_:=(Int×Int×Int×LX×Int)
abbrev K_:=S→Option R_
noncomputable def H:Hd:=⟨[Sb,Ss],[.agg [Si,Si,Si,Ow 21],Si],(.seq .d (.seq .d (.seq .d (.seq .d (.cut [0,1,4,6] [] (.cut [0,1,4,6,8] [] (.keep [0,1,4,6,8,34,35,36] true) .d) (.cut [0,1,4,6,7,9] [⟨9,[], .own 3 (.int .i64)⟩] (.keep [0,1,4,6,7,9,41,42,43,44,45] true) (.seq .d (.seq .d (.seq .d (.seq .d (.seq .d (.cut [0,4,10,14] [] (.seq .d (.blk (.loop [0,4,6,10,11,12,14,75,76,77] [⟨10,[3], .own 21 (.int .i32)⟩] (.seq .d (.seq .d (.seq (.blk (.seq .d (.seq .d (.cut [0,4,6,10,11,12,14,16,17,18,75,76,77] [] .d .d)))) .d)))))) .d)))))))))))),⟨[(48,F48.c),(50,F50.c),(52,F52.c),(56,F56.c),(85,F85.c),(104,F104.c)],gl,false⟩,[(57,(.seq .d (.seq .d (.cut [0,6,7] [] .d (.seq .d (.seq .d (.seq .d (.cut [6] [] (.seq .d (.blk (.loop [0,6,60,61,62] [] .d))) .d)))))))),(115, .d)],f69⟩
def t21(a:LB)(w:LI)(m b f h o p n g y ab:Int)(ac:LX)(k:LI)(aa ae:Int)(ad:LX):S:=⟨[(0,vb a),(4, .ptr 0 []),(6, .ptr 1 []),(10, .ptr 2 []),(11, .ptr 3 []),(12, .ptr 4 []),(14,vi aa),(75, .own 5),(76,vi (Ac w)),(77,vi ae)],[.box 24 (.agg [vi 0,vi 0,vi 0, .nils]), .box 102 (.agg [.agg [vi m,vi b,vi f,vi h,vi o], .agg [vi p,vi n,vi g,vi y,vi ab], .own 6]), .box 24 (.agg [vi b,vi f,vi h, .own 7]), .box 74 (.agg [vi b,vi f]), .box 136 (.val (.vec 16 (.int .i32)) ac),Ai 3 w,Ai 3 k,Aw 21 ad],[]⟩
def z21:Nat→S→Option R_:=H.i P_ [r,r,r,r,r,r,r,r,r,r,r,l,r,d]
def t17(v:LI)(a u:LB)(m b f h o p n g:Int)(k:LI)(ag af:Int):S:=⟨[(0, .ptr 0 []),(6, .own 1),(60, .own 1),(61,vi (Ac v)),(62,vi ag)],[.box 102 (.agg [.agg [vi m,vi b,vi f,vi h,vi o], .agg [vi p,vi n,vi g,vi (Ad (Ad g (Au (4:Int) (Ac v))) (4:Int)),vi af], .own 3]),Ai 3 v, .box 24 (.agg [vi 0,vi 0,vi 0, .nils]),Ai 3 k],[[(0,vb a),(1,vs u),(4, .ptr 2 []),(6, .ptr 0 []),(42,vb a)]]⟩
def z17:Nat→S→Option R_:=H.i P_ [r,r,r,r,r,l,(call 1 57),r,r,r,r,r,r,l,r,d]
def x26(a:LB)(aa b f h:Int)(ad:LX):Option R_:=H.e P_ [r,r,r,r,r,r,r,r,r,r,r,r] ⟨[(0,vb a),(4, .ptr 0 []),(10, .ptr 1 []),(14,vi aa)],[.box 24 (.agg [vi 0,vi 0,vi 0, .nils]), .box 24 (.agg [vi b,vi f,vi h, .own 2]),Aw 21 ad],[]⟩
def x24(kn21:K_)(a:LB)(w:LI)(m b f h o p n g y ab:Int)(ac:LX)(k:LI)(aa aj ak ae:Int)(am ad:LX):Option R_:=H.e P_ [r,r,r,r,r,r,r,r,r,r,r,l,r,d,(lp kn21),r,r,l,d,r,r,r] ⟨[(0,vb a),(4, .ptr 0 []),(6, .ptr 1 []),(10, .ptr 2 []),(11, .ptr 3 []),(12, .ptr 4 []),(14,vi aa),(16,vi aj),(17, .own 5),(18,vi ak),(75, .own 6),(76,vi (Ac w)),(77,vi ae)],[.box 24 (.agg [vi 0,vi 0,vi 0, .nils]), .box 102 (.agg [.agg [vi m,vi b,vi f,vi h,vi o], .agg [vi p,vi n,vi g,vi y,vi ab], .own 7]), .box 24 (.agg [vi b,vi f,vi h, .own 8]), .box 74 (.agg [vi b,vi f]), .box 136 (.val (.vec 16 (.int .i32)) ac),Aw 21 am,Ai 3 w,Ai 3 k,Aw 21 ad],[]⟩
def x21(a:LB)(w:LI)(m b f h o p n g y ab:Int)(ac:LX)(k:LI)(aa ae:Int)(ad:LX):Option R_:=H.e P_ [r,r,r,r,r,r,r,r,r,r,r,l,r,d] (t21 a w m b f h o p n g y ab ac k aa ae ad)
def x20(a u:LB)(m b f h o p n g:Int)(k:LI)(an y ab:Int)(w:LI):Option R_:=H.e P_ [r,r,r,r,r,r] ⟨[(0,vb a),(1,vs u),(4, .ptr 0 []),(6, .ptr 1 []),(7,vi an),(9, .own 2)],[.box 24 (.agg [vi 0,vi 0,vi 0, .nils]), .box 102 (.agg [.agg [vi m,vi b,vi f,vi h,vi o], .agg [vi p,vi n,vi g,vi y,vi ab], .own 3]),Ai 3 w,Ai 3 k],[]⟩
def x19(a u:LB)(v:LI)(m b f h o p n g af:Int)(k:LI):Option R_:=H.e P_ [r,r,r,r,r,l,(call 1 57),r,r,r,r,r,r,r] ⟨[(6, .own 0)],[Ai 3 v, .box 24 (.agg [vi 0,vi 0,vi 0, .nils]), .box 102 (.agg [.agg [vi m,vi b,vi f,vi h,vi o], .agg [vi p,vi n,vi g,vi (Ad (Ad g (Au (4:Int) (Ac v))) (4:Int)),vi af], .own 3]),Ai 3 k],[[(0,vb a),(1,vs u),(4, .ptr 1 []),(6, .ptr 2 []),(42,vb a)]]⟩
def x17(v:LI)(a u:LB)(m b f h o p n g:Int)(k:LI)(ag af:Int):Option R_:=H.e P_ [r,r,r,r,r,l,(call 1 57),r,r,r,r,r,r,l,r,d] (t17 v a u m b f h o p n g k ag af)
def x16(al:Int)(a u:LB)(m b f h o p n g ah ai:Int)(v k:LI):Option R_:=H.e P_ [r,r,r,r,r,l,(call 1 57),r,r,r] ⟨[(0, .ptr 0 []),(6, .own 1),(7,vi al)],[.box 102 (.agg [.agg [vi m,vi b,vi f,vi h,vi o], .agg [vi p,vi n,vi g,vi ah,vi ai], .own 3]),Ai 3 v, .box 24 (.agg [vi 0,vi 0,vi 0, .nils]),Ai 3 k],[[(0,vb a),(1,vs u),(4, .ptr 2 []),(6, .ptr 0 []),(42,vb a)]]⟩
def x15(a u:LB)(m b f h o p n g ah ai:Int)(k:LI):Option R_:=H.e P_ [r,r,r,r,r] ⟨[(0,vb a),(1,vs u),(4, .ptr 0 []),(6, .ptr 1 [])],[.box 24 (.agg [vi 0,vi 0,vi 0, .nils]), .box 102 (.agg [.agg [vi m,vi b,vi f,vi h,vi o], .agg [vi p,vi n,vi g,vi ah,vi ai], .own 2]),Ai 3 k],[]⟩
def x14(a u:LB)(m b f h o p n g ah ai:Int)(k:LI)(ao:Int):Option R_:=H.e P_ [r,r,r,r,l,r] ⟨[(0,vb a),(1,vs u),(4, .ptr 0 []),(6, .ptr 1 []),(8,vi ao)],[.box 24 (.agg [vi 0,vi 0,vi 0, .nils]), .box 102 (.agg [.agg [vi m,vi b,vi f,vi h,vi o], .agg [vi p,vi n,vi g,vi ah,vi ai], .own 2]),Ai 3 k],[]⟩
theorem e26:x26=Alu:=by kernel_rfl
theorem e24(kn21:K_)(a:LB)(w:LI)(m b f h o p n g y ab:Int)(ac:LX)(k:LI):x24 kn21 a w m b f h o p n g y ab ac k=Al2 (fun aa ae ad=>kn21 (t21 a w m b f h o p n g y ab ac k aa ae ad)) a w m b f h o p n g y ab ac k:=by kernel_rfl
theorem i21(a:LB)(w:LI)(m b f h o p n g y ab:Int)(ac:LX)(k:LI):∀(q:Nat) (aa ae:Int) (ad:LX),z21 q (t21 a w m b f h o p n g y ab ac k aa ae ad)=Qm a w m b f h o p n g y ab ac k q aa ae ad:=
 ind (fun _ _ _=>by kernel_rfl) fun q ih aa ae ad=>Eq.trans (b:=Abg (x24 (z21 q) a w m b f h o p n g y ab ac k) x26 a w m b f h o p n g y ab ac k aa ae ad) (by kernel_rfl) (by simp only[e24,e26,ih]<;>rfl)
theorem e21:x21=Aw3:=by funext a w m b f h o p n g y ab ac k aa ae ad;exact Eq.trans (by kernel_rfl) ((i21 a w m b f h o p n g y ab ac k Cq aa ae ad).trans (by rw[Aq];rfl))
theorem e20:x20=Mj:=Eq.trans (b:=Adw x21) (by kernel_rfl) (by simp only[e21]<;>rfl)
theorem e19:x19=Abi:=Eq.trans (b:=Ana x20) (by kernel_rfl) (by simp only[e20]<;>rfl)
theorem i17(v:LI)(a u:LB)(m b f h o p n g:Int)(k:LI):∀(q:Nat) (ag af:Int),z17 q (t17 v a u m b f h o p n g k ag af)=Qs v a u m b f h o p n g k q ag af:=
 ind (fun _ _=>by kernel_rfl) fun q ih ag af=>Eq.trans (b:=Abn x19 (fun ag af=>(z17 q) (t17 v a u m b f h o p n g k ag af)) v a u m b f h o p n g k ag af) (by kernel_rfl) (by simp only[e19,ih]<;>rfl)
theorem e17:x17=Alg:=by funext v a u m b f h o p n g k ag af;exact Eq.trans (by kernel_rfl) ((i17 v a u m b f h o p n g k Cq ag af).trans (by rw[Aq];rfl))
theorem e16:x16=Abz:=Eq.trans (b:=Ade x20 x17) (by kernel_rfl) (by simp only[e20,e17]<;>rfl)
theorem e15:x15=Vy:=Eq.trans (b:=Amj x20 x16) (by kernel_rfl) (by simp only[e20,e16]<;>rfl)
theorem e14:x14=Px:=Eq.trans (b:=Ab6 x15) (by kernel_rfl) (by simp only[e15]<;>rfl)
noncomputable def F:=u2 Ki
theorem rn x:H.u P_ x=F x:=Eq.trans (b:=u2 (Apo x14) x) (by kernel_rfl) (by simp only[e14]<;>rfl)
noncomputable def c:Con:=⟨H.p,H.r,F⟩
theorem ok:ConOk P_ gl 69 c:=cr H func69 (.cons F48.ok (.cons F50.ok (.cons F52.ok (.cons F56.ok (.cons F85.ok (.cons F104.ok .nil)))))) (AnsOk.cons ent57 (AnsOk.cons ent115 AnsOk.nil)) rn
end F69
namespace F31
noncomputable def H:Hd:=⟨[Sb,Ss],[Si], .d,⟨[(69,F69.c)],gl,false⟩,[],f31⟩
noncomputable def F:=u2 Gq
theorem rn x:H.u P_ x=F x:=by kernel_rfl
noncomputable def c:Con:=⟨H.p,H.r,F⟩
theorem ok:ConOk P_ gl 31 c:=co H func31 (.cons F69.ok .nil) rn
end F31
namespace F15
abbrev R_:=(Int×Int×Int×Int×Int×Int)
noncomputable def H:Hd:=⟨[Sb],[.agg [Si,Si,Si,Si,Si],Si],(.seq .d (.seq .d (.seq .d (.cut [0,2,4] [] (.cut [0,2,4,7] [] (.keep [0,2,4,7,17,18,19,20,21] true) .d) .d)))),⟨[(50,F50.c),(56,F56.c)],gl,false⟩,[(57,(.seq .d (.seq .d (.cut [0,6,7] [] .d (.seq .d (.seq .d (.seq .d (.cut [6] [] (.seq .d (.blk (.loop [0,6,60,61,62] [] .d))) .d))))))))],f15⟩
def t8(u:LI)(a:LB)(k m n o p f g b:Int)(h:LI)(w v:Int):S:=⟨[(0, .ptr 0 []),(6, .own 1),(60, .own 1),(61,vi (Ac u)),(62,vi w)],[.box 102 (.agg [.agg [vi k,vi m,vi n,vi o,vi p], .agg [vi f,vi g,vi b,vi (Ad (Ad b (Au (4:Int) (Ac u))) (4:Int)),vi v], .own 3]),Ai 3 u, .box 41 (.agg [vi 0,vi 0,vi 0,vi 0,vi 0]),Ai 3 h],[[(0,vb a),(2, .ptr 2 []),(4, .ptr 0 []),(18,vb a)]]⟩
def z8:Nat→S→Option R_:=H.i P_ [r,r,r,l,l,(call 1 57),r,r,r,r,r,r,l,r,d]
def x12(a:LB)(k m n o p f g b aa y:Int)(h:LI):Option R_:=H.e P_ [r,r,r,r] ⟨[(0,vb a),(2, .ptr 0 []),(4, .ptr 1 [])],[.box 41 (.agg [vi 0,vi 0,vi 0,vi 0,vi 0]), .box 102 (.agg [.agg [vi k,vi m,vi n,vi o,vi p], .agg [vi f,vi g,vi b,vi aa,vi y], .own 2]),Ai 3 h],[]⟩
def x11(a:LB)(k m n o p f g b:Int)(h:LI)(ae aa y:Int):Option R_:=H.e P_ [r,r,r,l,r] ⟨[(0,vb a),(2, .ptr 0 []),(4, .ptr 1 []),(7,vi ae)],[.box 41 (.agg [vi 0,vi 0,vi 0,vi 0,vi 0]), .box 102 (.agg [.agg [vi k,vi m,vi n,vi o,vi p], .agg [vi f,vi g,vi b,vi aa,vi y], .own 2]),Ai 3 h],[]⟩
def x10(a:LB)(u:LI)(k m n o p f g b v:Int)(h:LI):Option R_:=H.e P_ [r,r,r,l,l,(call 1 57),r,r,r,r,r,r,r] ⟨[(6, .own 0)],[Ai 3 u, .box 41 (.agg [vi 0,vi 0,vi 0,vi 0,vi 0]), .box 102 (.agg [.agg [vi k,vi m,vi n,vi o,vi p], .agg [vi f,vi g,vi b,vi (Ad (Ad b (Au (4:Int) (Ac u))) (4:Int)),vi v], .own 3]),Ai 3 h],[[(0,vb a),(2, .ptr 1 []),(4, .ptr 2 []),(18,vb a)]]⟩
def x8(u:LI)(a:LB)(k m n o p f g b:Int)(h:LI)(w v:Int):Option R_:=H.e P_ [r,r,r,l,l,(call 1 57),r,r,r,r,r,r,l,r,d] (t8 u a k m n o p f g b h w v)
def x7(ab:Int)(a:LB)(k m n o p f g b ac ad:Int)(u h:LI):Option R_:=H.e P_ [r,r,r,l,l,(call 1 57),r,r,r] ⟨[(0, .ptr 0 []),(6, .own 1),(7,vi ab)],[.box 102 (.agg [.agg [vi k,vi m,vi n,vi o,vi p], .agg [vi f,vi g,vi b,vi ac,vi ad], .own 3]),Ai 3 u, .box 41 (.agg [vi 0,vi 0,vi 0,vi 0,vi 0]),Ai 3 h],[[(0,vb a),(2, .ptr 2 []),(4, .ptr 0 []),(18,vb a)]]⟩
theorem e12:x12=Ai9:=by kernel_rfl
theorem e11:x11=Sm:=Eq.trans (b:=Aiu x12) (by kernel_rfl) (by simp only[e12]<;>rfl)
theorem e10:x10=Yy:=Eq.trans (b:=Aih x11) (by kernel_rfl) (by simp only[e11]<;>rfl)
theorem i8(u:LI)(a:LB)(k m n o p f g b:Int)(h:LI):∀(q:Nat) (w v:Int),z8 q (t8 u a k m n o p f g b h w v)=Po u a k m n o p f g b h q w v:=
 ind (fun _ _=>by kernel_rfl) fun q ih w v=>Eq.trans (b:=Acg x10 (fun w v=>(z8 q) (t8 u a k m n o p f g b h w v)) u a k m n o p f g b h w v) (by kernel_rfl) (by simp only[e10,ih]<;>rfl)
theorem e8:x8=Anr:=by funext u a k m n o p f g b h w v;exact Eq.trans (by kernel_rfl) ((i8 u a k m n o p f g b h Cq w v).trans (by rw[Aq];rfl))
theorem e7:x7=Alp:=Eq.trans (b:=Am9 x11 x8) (by kernel_rfl) (by simp only[e11,e8]<;>rfl)
noncomputable def F:=Aoh
theorem rn x:H.u P_ x=F x:=Eq.trans (b:=Ak8 x11 x7 x) (by kernel_rfl) (by simp only[e11,e7]<;>rfl)
noncomputable def c:Con:=⟨H.p,H.r,F⟩
theorem ok:ConOk P_ gl 15 c:=cr H func15 (.cons F50.ok (.cons F56.ok .nil)) (AnsOk.cons ent57 AnsOk.nil) rn
end F15
namespace F11
abbrev R_:=(Int×Int×Int×Int×Int×Int×LI×Int)
noncomputable def H:Hd:=⟨[Sb,Ss],[.agg [.agg [Si,Si,Si,Si,Si],Si,Ol 3],Si],(.seq .d (.seq .d (.seq .d (.seq .d (.seq .d (.seq .d (.seq .d (.seq .d (.seq .d (.cut [0,4,6,8] [] .d .d)))))))))),⟨[(46,Yh),(47,F47.c),(48,F48.c),(49,F49.c),(50,F50.c)],gl,false⟩,[],f11⟩
def x2(a:LB)(b f g h k n:Int):Option R_:=H.e P_ [r,r,r,r,r,r,r,r,r,r] ⟨[(0,vb a),(4, .ptr 0 []),(6,vi n),(8, .ptr 1 [])],[.box 35 (.agg [.agg [vi 0,vi 0,vi 0,vi 0,vi 0],vi 0, .nils]), .box 32 (.agg [vi b,vi f,vi g,vi h,vi k])],[]⟩
theorem e2:x2=Ha:=by kernel_rfl
noncomputable def F:=u2 seekto_Open
theorem rn x:H.u P_ x=F x:=Eq.trans (b:=u2 (Fx x2) x) (by kernel_rfl) (by simp only[e2]<;>rfl)
noncomputable def c:Con:=⟨H.p,H.r,F⟩
theorem ok:ConOk P_ gl 11 c:=co H func11 (.cons Ali (.cons F47.ok (.cons F48.ok (.cons F49.ok (.cons F50.ok .nil))))) rn
end F11
namespace F77
abbrev R_:=(Int×Int)
noncomputable def H:Hd:=⟨[.agg [Si,Si,Si,Si,Si],Si],[Si,Si],(.seq .d (.seq .d (.seq .d (.seq .d (.cut [2,8] [] (.seq .d (.blk (.loop [2,6,8,23,24] [] .d))) .d))))),⟨[(49,F49.c)],gl,false⟩,[],f77⟩
def t4(n f a b g h:Int)(m:LI)(k o:Int):S:=⟨[(2, .ptr 0 []),(6, .own 1),(8,vi k),(23,vi n),(24,vi o)],[.box 32 (.agg [vi f,vi a,vi b,vi g,vi h]),Ai 3 m],[]⟩
def z4:Nat→S→Option R_:=H.i P_ [r,r,r,r,l,r,d]
def x6(k f a b g h:Int):Option R_:=H.e P_ [r,r,r,r,r] ⟨[(2, .ptr 0 []),(8,vi k)],[.box 32 (.agg [vi f,vi a,vi b,vi g,vi h])],[]⟩
def x4(n f a b g h:Int)(m:LI)(k o:Int):Option R_:=H.e P_ [r,r,r,r,l,r,d] (t4 n f a b g h m k o)
theorem e6:x6=Amb:=by kernel_rfl
theorem i4(n f a b g h:Int)(m:LI):∀(q:Nat) (k o:Int),z4 q (t4 n f a b g h m k o)=Qg n f a b g h m q k o:=
 ind (fun _ _=>by kernel_rfl) fun q ih k o=>Eq.trans (b:=Abp x6 (fun k o=>(z4 q) (t4 n f a b g h m k o)) n f a b g h m k o) (by kernel_rfl) (by simp only[e6,ih]<;>rfl)
theorem e4:x4=Axk:=by funext n f a b g h m k o;exact Eq.trans (by kernel_rfl) ((i4 n f a b g h m Cq k o).trans (by rw[Aq];rfl))
noncomputable def F:=u6 Agw
theorem rn x:H.u P_ x=F x:=Eq.trans (b:=u6 (Ak3 x4) x) (by kernel_rfl) (by simp only[e4]<;>rfl)
noncomputable def c:Con:=⟨H.p,H.r,F⟩
theorem ok:ConOk P_ gl 77 c:=co H func77 (.cons F49.ok .nil) rn
end F77
namespace F29
abbrev R_:=(Int×UInt8×Int×Int×Int)
noncomputable def H:Hd:=⟨[Sb,Ss,Si],[.agg [Si,Sc,Si,Si],Si],(.seq .d (.seq .d (.seq .d (.seq .d (.seq .d (.seq .d (.seq .d (.seq .d (.seq .d (.cut [6] [] (.seq .d (.blk (.loop [2,6,11,12,79,80,81] [] .d))) .d)))))))))),⟨[(11,F11.c),(15,F15.c),(31,F31.c),(77,F77.c)],gl,false⟩,[],f29⟩
def t4(a:Int)(b:LI)(g h k m n o p f:Int):S:=⟨[(2,vi a),(6, .ptr 0 []),(11, .ptr 1 []),(12,vi p),(79, .own 2),(80,vi (Ac b)),(81,vi f)],[.box 63 (.agg [vi 0,vc 0,vi 0,vi 0]), .box 35 (.agg [.agg [vi g,vi h,vi k,vi m,vi n],vi o, .own 2]),Ai 3 b],[]⟩
def z4:Nat→S→Option R_:=H.i P_ [r,r,r,r,r,r,r,r,r,l,r,d]
def x6:Option R_:=H.e P_ [r,r,r,r,r,r,r,r,r,r] ⟨[(6, .ptr 0 [])],[.box 63 (.agg [vi 0,vc 0,vi 0,vi 0])],[]⟩
def x4(a:Int)(b:LI)(g h k m n o p f:Int):Option R_:=H.e P_ [r,r,r,r,r,r,r,r,r,l,r,d] (t4 a b g h k m n o p f)
theorem e6:x6=At7:=by kernel_rfl
theorem i4(a:Int)(b:LI)(g h k m n o:Int):∀(q:Nat) (p f:Int),z4 q (t4 a b g h k m n o p f)=Nr a b g h k m n o q p f:=
 ind (fun _ _=>by kernel_rfl) fun q ih p f=>Eq.trans (b:=Yw x6 (fun p f=>(z4 q) (t4 a b g h k m n o p f)) a b g h k m n o p f) (by kernel_rfl) (by simp only[e6,ih]<;>rfl)
theorem e4:x4=Aup:=by funext a b g h k m n o p f;exact Eq.trans (by kernel_rfl) ((i4 a b g h k m n o Cq p f).trans (by rw[Aq];rfl))
noncomputable def F:=u3 Ld
theorem rn x:H.u P_ x=F x:=Eq.trans (b:=u3 (Aim x4) x) (by kernel_rfl) (by simp only[e4]<;>rfl)
noncomputable def c:Con:=⟨H.p,H.r,F⟩
theorem ok:ConOk P_ gl 29 c:=co H func29 (.cons F11.ok (.cons F15.ok (.cons F31.ok (.cons F77.ok .nil)))) rn
end F29
namespace F75
def Aiq(a:LB):Option (LB):=
Blm a (
some ([]:LB)) (
(Ek ([]:LB) a).bind fun b=>
some b)
theorem Bay: @Aiq= @Oe:=by
  unfold Aiq Oe
  repeat (refine funext fun _=>?_)
  repeat' first
    |with_reducible rfl
    |with_reducible refine Vz ?_ ?_
    |with_reducible refine Vs ?_ ?_ ?_
    |with_reducible refine Vu ?_ ?_ ?_ ?_
    |((with_reducible refine Ac1 ?_ ?_);focus (intro h;first|(subst h;rfl)|(simp only[h];rfl)|(simp[Ek,Ac,h];done)))
    |with_reducible refine Acy fun x=>?_
    |with_reducible refine Anc (fun _=>?_) (fun _=>?_)
    |(refine Mc (fun h=>by simp only[h,Aby,Hx,Hh,ite_self]) (fun x h=>?_);(try simp only[h,Hx]))
    |(refine Pq (fun h=>?_) (fun h=>?_)<;>simp only[h,if_true,if_false,Bool.false_eq_true])
noncomputable def H:Hd:=⟨[Sb],[Ob 5], .d,⟨[],gl,false⟩,[],f75⟩
noncomputable def F:=Oe
theorem rn x:H.u P_ x=F x:=Eq.trans (b:=Aiq x) (by kernel_rfl) (by rw[Bay];rfl)
noncomputable def c:Con:=⟨H.p,H.r,F⟩
theorem ok:ConOk P_ gl 75 c:=co H func75 .nil rn
end F75
namespace F32
noncomputable def H:Hd:=⟨[Sb,Si,Sc],[Ob 5,Si], .d,⟨[(75,F75.c)],gl,false⟩,[],f32⟩
noncomputable def F:=u3 Bfy
theorem rn x:H.u P_ x=F x:=by kernel_rfl
noncomputable def c:Con:=⟨H.p,H.r,F⟩
theorem ok:ConOk P_ gl 32 c:=co H func32 (.cons F75.ok .nil) rn
end F32
namespace F78
noncomputable def H:Hd:=⟨[Sb,Ss,Si],[Sc], .d,⟨[(46,Yh),(47,F47.c)],gl,false⟩,[],f78⟩
noncomputable def F:=u3 Fj
theorem rn x:H.u P_ x=F x:=by kernel_rfl
noncomputable def c:Con:=⟨H.p,H.r,F⟩
theorem ok:ConOk P_ gl 78 c:=co H func78 (.cons Ali (.cons F47.ok .nil)) rn
end F78
namespace F102
abbrev R_:=(LI×Int)
abbrev K_:=S→Option R_
noncomputable def H:Hd:=⟨[Sl],[Ol 3,Si],(.seq .d (.seq .d (.seq .d (.seq .d (.seq .d (.cut [7] [] (.seq .d (.blk (.loop [6,7,17,18,19] [] (.seq .d (.seq .d (.cut [6,7,17,18,19] [] (.blk (.seq .d (.keep [6,7,9,17,18,19,23,24,25,26,27,28] true))) .d)))))) .d)))))),⟨[(93,F93.c)],gl,false⟩,[(138, .d)],f102⟩
def t6(a:LI)(b g:Int)(f:LI):S:=⟨[(6, .fn 138 [.ptr 0 []]),(7, .own 1),(17,vl a),(18,vi (Ac a)),(19,vi b)],[.box 3 (vi g),Ai 3 f],[]⟩
def z6:Nat→S→Option R_:=H.i P_ [r,r,r,r,r,l,r,d]
def x10(f:LI):Option R_:=H.e P_ [r,r,r,r,r,r] ⟨[(7, .own 0)],[Ai 3 f],[]⟩
def x8(kn6:K_)(a:LI)(b g h:Int)(k:LI):Option R_:=H.e P_ [r,r,r,r,r,l,r,d,(lp kn6),r,r,r] ⟨[(6, .fn 138 [.ptr 0 []]),(7, .own 1),(17,vl a),(18,vi (Ac a)),(19,vi b)],[.box 3 (vi (Ad g h)),Ai 3 k],[]⟩
def x6(a:LI)(b g:Int)(f:LI):Option R_:=H.e P_ [r,r,r,r,r,l,r,d] (t6 a b g f)
theorem e10:x10=Aom:=by kernel_rfl
theorem e8(kn6:K_)(a:LI):x8 kn6 a=Afd (fun b g f=>kn6 (t6 a b g f)) a:=by kernel_rfl
theorem i6(a:LI):∀(q:Nat) (b g:Int) (f:LI),z6 q (t6 a b g f)=Lr a q b g f:=
 ind (fun _ _ _=>by kernel_rfl) fun q ih b g f=>Eq.trans (b:=Wn (x8 (z6 q) a) x10 a b g f) (by kernel_rfl) (by simp only[e8,e10,ih]<;>rfl)
theorem e6:x6=Aq9:=by funext a b g f;exact Eq.trans (by kernel_rfl) ((i6 a Cq b g f).trans (by rw[Aq];rfl))
noncomputable def F:=Agj
theorem rn x:H.u P_ x=F x:=Eq.trans (b:=Afh x6 x) (by kernel_rfl) (by simp only[e6]<;>rfl)
noncomputable def c:Con:=⟨H.p,H.r,F⟩
theorem ok:ConOk P_ gl 102 c:=cr H func102 (.cons F93.ok .nil) (AnsOk.cons ent138 AnsOk.nil) rn
end F102
namespace F19
abbrev R_:=(LB×Int)
abbrev K_:=S→Option R_
noncomputable def H:Hd:=⟨[Si,Sw],[Ob 5,Si],(.seq .d (.seq .d (.seq .d (.cut [7] [] (.seq .d (.blk (.loop [0,7,17,18,19] [⟨7,[], .own 5 (.int .u8)⟩] (.seq .d (.seq .d (.cut [0,7,17,18,19] [] (.blk (.seq .d (.cut [0,7,9,17,18,19] [] .d (.seq .d (.blk (.loop [0,7,9,17,18,19,28,29] [] .d)))))) .d)))))) .d)))),⟨[(63,F63.c)],gl,false⟩,[],f19⟩
def t26(b:Int)(a:LX)(k:Int32)(f m:Int)(h:LB):S:=⟨[(0,vi b),(7, .own 0),(9,vx k),(17,vw a),(18,vi (Ac a)),(19,vi f),(28,vi (Bt b (8:Int))),(29,vi m)],[Ab 5 h],[]⟩
def z26(kn16:K_):Nat→S→Option R_:=H.i P_ [r,r,r,l,r,d,(lp kn16),r,r,l,d,r,r,r,d]
def t16(b:Int)(a:LX)(f:Int)(g:LB):S:=⟨[(0,vi b),(7, .own 0),(17,vw a),(18,vi (Ac a)),(19,vi f)],[Ab 5 g],[]⟩
def z16:Nat→S→Option R_:=H.i P_ [r,r,r,l,r,d]
def x30(g:LB):Option R_:=H.e P_ [r,r,r,r] ⟨[(7, .own 0)],[Ab 5 g],[]⟩
def x28(kn16:K_)(b:Int)(a:LX)(f:Int)(h:LB):Option R_:=H.e P_ [r,r,r,l,r,d,(lp kn16),r,r,r] ⟨[(0,vi b),(7, .own 0),(17,vw a),(18,vi (Ac a)),(19,vi f)],[Ab 5 h],[]⟩
def x26(kn16:K_)(b:Int)(a:LX)(k:Int32)(f m:Int)(h:LB):Option R_:=H.e P_ [r,r,r,l,r,d,(lp kn16),r,r,l,d,r,r,r,d] (t26 b a k f m h)
def x25(kn16:K_)(b:Int)(a:LX)(f:Int)(g:LB)(k:Int32):Option R_:=H.e P_ [r,r,r,l,r,d,(lp kn16),r,r,l,d,r,r] ⟨[(0,vi b),(7, .own 0),(9,vx k),(17,vw a),(18,vi (Ac a)),(19,vi f)],[Ab 5 g],[]⟩
def x16(b:Int)(a:LX)(f:Int)(g:LB):Option R_:=H.e P_ [r,r,r,l,r,d] (t16 b a f g)
theorem e30:x30=Auk:=by kernel_rfl
theorem e28(kn16:K_)(b:Int)(a:LX):x28 kn16 b a=Ajh (fun f g=>kn16 (t16 b a f g)) b a:=by kernel_rfl
theorem i26(kn16:K_)(b:Int)(a:LX)(k:Int32)(f:Int):∀(q:Nat) (m:Int) (h:LB),z26 kn16 q (t26 b a k f m h)=Ht (fun f g=>kn16 (t16 b a f g)) b a k f q m h:=
 ind (fun _ _=>by kernel_rfl) fun q ih m h=>Eq.trans (b:=Yu (x28 kn16 b a) (fun m h=>(z26 kn16 q) (t26 b a k f m h)) b a k f m h) (by kernel_rfl) (by simp only[e28,ih]<;>rfl)
theorem e26(kn16:K_)(b:Int)(a:LX):x26 kn16 b a=Ait (fun f g=>kn16 (t16 b a f g)) b a:=by funext k f m h;exact Eq.trans (by kernel_rfl) ((i26 kn16 b a k f Cq m h).trans (by rw[Aq];rfl))
theorem e25(kn16:K_)(b:Int)(a:LX):x25 kn16 b a=Kk (fun f g=>kn16 (t16 b a f g)) b a:=Eq.trans (b:=Aii (x26 kn16 b a) b a) (by kernel_rfl) (by simp only[e26]<;>rfl)
theorem i16(b:Int)(a:LX):∀(q:Nat) (f:Int) (g:LB),z16 q (t16 b a f g)=Fg b a q f g:=
 ind (fun _ _=>by kernel_rfl) fun q ih f g=>Eq.trans (b:=Yt (x25 (z16 q) b a) x30 b a f g) (by kernel_rfl) (by simp only[e25,e30,ih]<;>rfl)
theorem e16:x16=At8:=by funext b a f g;exact Eq.trans (by kernel_rfl) ((i16 b a Cq f g).trans (by rw[Aq];rfl))
noncomputable def F:=u2 width_Bytes
theorem rn x:H.u P_ x=F x:=Eq.trans (b:=u2 (Alw x16) x) (by kernel_rfl) (by simp only[e16]<;>rfl)
noncomputable def c:Con:=⟨H.p,H.r,F⟩
theorem ok:ConOk P_ gl 19 c:=co H func19 (.cons F63.ok .nil) rn
end F19
namespace F12
abbrev R_:=(LB×Int)
noncomputable def H:Hd:=⟨[Sb,Ss,Si],[Ob 5,Si],(.seq .d (.cut [2,8,9,11] [] (.keep [0,1,2,8,9,11,12,13,14,15,16,17,18,19] true) (.seq .d (.seq .d (.cut [6,7] [⟨6,[], .own 5 (.int .u8)⟩] (.keep [2,6,7,8,30,31,32,33,34] true) .d))))),⟨[(11,F11.c),(19,F19.c),(49,F49.c),(85,F85.c),(102,F102.c),(104,F104.c)],gl,false⟩,[(51, .d),(103,(.seq .d (.cut [0,3,4,5,6,10,11] [] .d (.seq .d (.cut [4,12,13] [] .d .d)))))],f12⟩
def x6(a ac:Int):Option R_:=H.e P_ [r,r] ⟨[(2,vi a),(8, .cst .nilFunc),(9,vi 0),(11,vi ac)],[],[]⟩
def x10(ad:Int)(ae:LB):Option R_:=H.e P_ [r,r,r,r,r] ⟨[(6, .own 0),(7,vi ad)],[Ab 5 ae],[]⟩
def x9(w a h b:Int)(aa:LX)(n o p k:Int)(m:LB)(u:LX)(v f g:LI):Option R_:=H.e P_ [r,r,r,r,l,(call 2 103),r,r,r,r] ⟨[(4, .ptr 0 []),(12, .own 1),(13,vi w)],[.box 74 (.agg [vi h,vi b]),Aw 21 aa, .box 35 (.agg [.agg [vi n,vi h,vi b,vi o,vi p],vi k, .own 7]), .box 33 (.own 8), .box 27 (vb m), .box 136 (.val (.vec 16 (.int .i32)) u), .box 33 (.own 9),Ai 3 v,Ai 3 f,Ai 3 g],[[(2,vi a),(8, .fn 103 [.ptr 2 [], .ptr 3 [], .ptr 4 [], .ptr 0 [], .ptr 5 [], .ptr 6 []]),(30, .fn 103 [.ptr 2 [], .ptr 3 [], .ptr 4 [], .ptr 0 [], .ptr 5 [], .ptr 6 []]),(31,vi a)]]⟩
def x8(a k ab y:Int)(m:LB)(h b:Int)(u:LX)(n o p:Int)(g v f:LI):Option R_:=H.e P_ [r,r,r,r,l,(call 2 103),r,r] ⟨[(0,vi a),(3, .ptr 0 []),(4, .ptr 1 []),(5, .ptr 2 []),(6, .ptr 3 []),(10,vi (Ad k ab)),(11,vi (Ad k y))],[.box 27 (vb m), .box 74 (.agg [vi h,vi b]), .box 136 (.val (.vec 16 (.int .i32)) u), .box 33 (.own 6), .box 35 (.agg [.agg [vi n,vi h,vi b,vi o,vi p],vi k, .own 7]), .box 33 (.own 8),Ai 3 g,Ai 3 v,Ai 3 f],[[(2,vi a),(8, .fn 103 [.ptr 4 [], .ptr 5 [], .ptr 0 [], .ptr 1 [], .ptr 2 [], .ptr 3 []]),(30, .fn 103 [.ptr 4 [], .ptr 5 [], .ptr 0 [], .ptr 1 [], .ptr 2 [], .ptr 3 []]),(31,vi a)]]⟩
def x7(a:Int)(g:LI)(n h b o p k:Int)(m:LB)(u:LX)(v f:LI):Option R_:=H.e P_ [r,r] ⟨[(2,vi a),(8, .fn 103 [.ptr 0 [], .ptr 1 [], .ptr 2 [], .ptr 3 [], .ptr 4 [], .ptr 5 []]),(9,vi (Ac g)),(11,vi 0)],[.box 35 (.agg [.agg [vi n,vi h,vi b,vi o,vi p],vi k, .own 6]), .box 33 (.own 7), .box 27 (vb m), .box 74 (.agg [vi h,vi b]), .box 136 (.val (.vec 16 (.int .i32)) u), .box 33 (.own 8),Ai 3 v,Ai 3 f,Ai 3 g],[]⟩
theorem e6:x6=Aum:=by kernel_rfl
theorem e10:x10=Afc:=by kernel_rfl
theorem e9:x9=Aiv:=Eq.trans (b:=Aje x10) (by kernel_rfl) (by simp only[e10]<;>rfl)
theorem e8:x8=Aiw:=Eq.trans (b:=Ajg x10 x9) (by kernel_rfl) (by simp only[e10,e9]<;>rfl)
theorem e7:x7=Sr:=Eq.trans (b:=Ai2 x8) (by kernel_rfl) (by simp only[e8]<;>rfl)
noncomputable def F:=u3 Abf
theorem rn x:H.u P_ x=F x:=Eq.trans (b:=u3 (Ai4 x6 x7) x) (by kernel_rfl) (by simp only[e6,e7]<;>rfl)
noncomputable def c:Con:=⟨H.p,H.r,F⟩
theorem ok:ConOk P_ gl 12 c:=cr H func12 (.cons F11.ok (.cons F19.ok (.cons F49.ok (.cons F85.ok (.cons F102.ok (.cons F104.ok .nil)))))) (AnsOk.cons ent51 (AnsOk.cons ent103 AnsOk.nil)) rn
end F12
namespace F30
abbrev R_:=(Int×UInt8×Int×Int×Int)
noncomputable def H:Hd:=⟨[Sb,Ss],[.agg [Si,Sc,Si,Si],Si],(.seq .d (.seq .d (.seq .d (.seq .d (.seq .d (.cut [0,1,4,6,7] [] .d (.seq .d (.cut [4,6,7,9] [] (.seq .d (.blk (.loop [0,1,4,6,7,9,42,43] [] .d))) .d)))))))),⟨[(11,F11.c),(12,F12.c),(31,F31.c),(77,F77.c),(78,F78.c)],gl,false⟩,[],f30⟩
def t6(p o:LB)(a:LI)(b:Int)(u:UInt8)(f g h k m n v:Int):S:=⟨[(0,vb p),(1,vs o),(4, .ptr 0 []),(6, .ptr 1 []),(7, .ptr 2 []),(9,vi (Ac a)),(42,vi (Ac a)),(43,vi v)],[.box 63 (.agg [vi 0,vc 0,vi 0,vi 0]), .box 63 (.agg [vi b,vc u,vi 0,vi 0]), .box 35 (.agg [.agg [vi f,vi g,vi h,vi k,vi m],vi n, .own 3]),Ai 3 a],[]⟩
def z6:Nat→S→Option R_:=H.i P_ [r,r,r,r,r,r,r,l,r,d]
def x8(b f g h k m n:Int)(a:LI)(w:Int)(y:UInt8)(aa:Int):Option R_:=H.e P_ [r,r,r,r,r,r,r,r] ⟨[(4, .ptr 0 []),(6, .ptr 1 []),(7, .ptr 2 []),(9,vi w)],[.box 63 (.agg [vi 0,vc 0,vi 0,vi 0]), .box 63 (.agg [vi b,vc y,vi aa,vi 0]), .box 35 (.agg [.agg [vi f,vi g,vi h,vi k,vi m],vi n, .own 3]),Ai 3 a],[]⟩
def x6(p o:LB)(a:LI)(b:Int)(u:UInt8)(f g h k m n v:Int):Option R_:=H.e P_ [r,r,r,r,r,r,r,l,r,d] (t6 p o a b u f g h k m n v)
def x5(p o:LB)(b f g h k m n:Int)(a:LI)(u:UInt8):Option R_:=H.e P_ [r,r,r,r,r,r] ⟨[(0,vb p),(1,vs o),(4, .ptr 0 []),(6, .ptr 1 []),(7, .ptr 2 [])],[.box 63 (.agg [vi 0,vc 0,vi 0,vi 0]), .box 63 (.agg [vi b,vc u,vi 0,vi 0]), .box 35 (.agg [.agg [vi f,vi g,vi h,vi k,vi m],vi n, .own 3]),Ai 3 a],[]⟩
theorem e8:x8=Ac6:=by kernel_rfl
theorem i6(p o:LB)(a:LI)(b:Int)(u:UInt8)(f g h k m n:Int):∀(q:Nat) (v:Int),z6 q (t6 p o a b u f g h k m n v)=Qa p o a b u f g h k m n q v:=
 ind (fun _=>by kernel_rfl) fun q ih v=>Eq.trans (b:=Acx x8 (fun v=>(z6 q) (t6 p o a b u f g h k m n v)) p o a b u f g h k m n v) (by kernel_rfl) (by simp only[e8,ih]<;>rfl)
theorem e6:x6=Avq:=by funext p o a b u f g h k m n v;exact Eq.trans (by kernel_rfl) ((i6 p o a b u f g h k m n Cq v).trans (by rw[Aq];rfl))
theorem e5:x5=Amo:=Eq.trans (b:=Am3 x6) (by kernel_rfl) (by simp only[e6]<;>rfl)
noncomputable def F:=u2 Og
theorem rn x:H.u P_ x=F x:=Eq.trans (b:=u2 (Ado x5) x) (by kernel_rfl) (by simp only[e5]<;>rfl)
noncomputable def c:Con:=⟨H.p,H.r,F⟩
theorem ok:ConOk P_ gl 30 c:=co H func30 (.cons F11.ok (.cons F12.ok (.cons F31.ok (.cons F77.ok (.cons F78.ok .nil))))) rn
end F30
namespace F74
noncomputable def H:Hd:=⟨[Sb,Si, .agg [Si,Sc,Si,Si],Si],[Sz], .d,⟨[(29,F29.c),(30,F30.c),(32,F32.c)],gl,false⟩,[],f74⟩
noncomputable def F:=u7 Eb
theorem rn x:H.u P_ x=F x:=by kernel_rfl
noncomputable def c:Con:=⟨H.p,H.r,F⟩
theorem ok:ConOk P_ gl 74 c:=co H func74 (.cons F29.ok (.cons F30.ok (.cons F32.ok .nil))) rn
end F74
namespace F27
noncomputable def H:Hd:=⟨[],[Sz], .d,⟨[(73,F73.c),(74,F74.c)],gl,false⟩,[],f27⟩
noncomputable def F(x:Unit):=Rf
theorem rn x:H.u P_ x=F x:=by kernel_rfl
noncomputable def c:Con:=⟨H.p,H.r,F⟩
theorem ok:ConOk P_ gl 27 c:=co H func27 (.cons F73.ok (.cons F74.ok .nil)) rn
end F27
namespace F36
noncomputable def H:Hd:=⟨[.agg [Si,Si,Si,Sw]],[.agg [Si,Si]], .d,⟨[],gl,false⟩,[],f36⟩
noncomputable def F:=u4 Gj
theorem rn x:H.u P_ x=F x:=by kernel_rfl
noncomputable def c:Con:=⟨H.p,H.r,F⟩
theorem ok:ConOk P_ gl 36 c:=co H func36 .nil rn
end F36
namespace F119
noncomputable def H:Hd:=⟨[Si],[Si], .d,⟨[],gl,false⟩,[],f119⟩
noncomputable def F:=Hm
theorem rn x:H.u P_ x=F x:=by kernel_rfl
noncomputable def c:Con:=⟨H.p,H.r,F⟩
theorem ok:ConOk P_ gl 119 c:=co H func119 .nil rn
end F119
namespace F80
noncomputable def H:Hd:=⟨[.agg [Si,Si]],[Si], .d,⟨[(119,F119.c)],gl,false⟩,[],f80⟩
noncomputable def F:=u2 Cc
theorem rn x:H.u P_ x=F x:=by kernel_rfl
noncomputable def c:Con:=⟨H.p,H.r,F⟩
theorem ok:ConOk P_ gl 80 c:=co H func80 (.cons F119.ok .nil) rn
end F80
namespace F81
abbrev R_:=Int
noncomputable def H:Hd:=⟨[Si,Sw],[Si],(.seq .d (.seq .d (.seq .d (.seq .d (.cut [] [] (.seq .d (.blk (.loop [1,5,6] [] .d))) .d))))),⟨[(119,F119.c)],gl,false⟩,[],f81⟩
def t4(a:LX)(b f:Int):S:=⟨[(1,vw a),(5,vi b),(6,vi f)],[],[]⟩
def z4:Nat→S→Option R_:=H.i P_ [r,r,r,r,l,r,d]
def x6:Option R_:=H.e P_ [r,r,r,r,r] ⟨[],[],[]⟩
def x4(a:LX)(b f:Int):Option R_:=H.e P_ [r,r,r,r,l,r,d] (t4 a b f)
theorem e6:x6=Ae4:=by kernel_rfl
theorem i4(a:LX)(b:Int):∀(q:Nat) (f:Int),z4 q (t4 a b f)=Ao a b q f:=
 ind (fun _=>by kernel_rfl) fun q ih f=>Eq.trans (b:=Bv x6 (fun f=>(z4 q) (t4 a b f)) a b f) (by kernel_rfl) (by simp only[e6,ih]<;>rfl)
theorem e4:x4=Aej:=by funext a b f;exact Eq.trans (by kernel_rfl) ((i4 a b Cq f).trans (by rw[Aq];rfl))
noncomputable def F:=u2 cadenzaref18_Check
theorem rn x:H.u P_ x=F x:=Eq.trans (b:=u2 (Cm x4) x) (by kernel_rfl) (by simp only[e4]<;>rfl)
noncomputable def c:Con:=⟨H.p,H.r,F⟩
theorem ok:ConOk P_ gl 81 c:=co H func81 (.cons F119.ok .nil) rn
end F81
namespace F35
noncomputable def H:Hd:=⟨[.agg [Si,Si],Sw],[Si], .d,⟨[(80,F80.c),(81,F81.c)],gl,false⟩,[],f35⟩
noncomputable def F:=u3 Bp
theorem rn x:H.u P_ x=F x:=by kernel_rfl
noncomputable def c:Con:=⟨H.p,H.r,F⟩
theorem ok:ConOk P_ gl 35 c:=co H func35 (.cons F80.ok (.cons F81.ok .nil)) rn
end F35
namespace F82
noncomputable def H:Hd:=⟨[.agg [Si,Si],Si],[Si], .d,⟨[(80,F80.c)],gl,false⟩,[],f82⟩
noncomputable def F:=u3 Ck
theorem rn x:H.u P_ x=F x:=by kernel_rfl
noncomputable def c:Con:=⟨H.p,H.r,F⟩
theorem ok:ConOk P_ gl 82 c:=co H func82 (.cons F80.ok .nil) rn
end F82
namespace F153
noncomputable def H:Hd:=⟨[Si],[Si,Si], .d,⟨[],gl,false⟩,[],f153⟩
noncomputable def F:=Ny
theorem rn x:H.u P_ x=F x:=by kernel_rfl
noncomputable def c:Con:=⟨H.p,H.r,F⟩
theorem ok:ConOk P_ gl 153 c:=co H func153 .nil rn
end F153
namespace F120
abbrev R_:=(LI×Int)
noncomputable def H:Hd:=⟨[Si,Si],[Ol 3,Si],(.seq .d (.seq .d (.seq .d (.seq .d (.cut [8] [] (.blk (.loop [1,6,8] [⟨8,[], .own 3 (.int .i64)⟩] .d)) .d))))),⟨[(153,F153.c)],gl,false⟩,[],f120⟩
def t4(b f:Int)(a:LI):S:=⟨[(1,vi f),(6,vi b),(8, .own 0)],[Ai 3 a],[]⟩
def z4:Nat→S→Option R_:=H.i P_ [r,r,r,r,l,d]
def x6(a:LI):Option R_:=H.e P_ [r,r,r,r,r] ⟨[(8, .own 0)],[Ai 3 a],[]⟩
def x4(b f:Int)(a:LI):Option R_:=H.e P_ [r,r,r,r,l,d] (t4 b f a)
theorem e6:x6=Xl:=by kernel_rfl
theorem i4(b:Int):∀(q:Nat) (f:Int) (a:LI),z4 q (t4 b f a)=Ho b q f a:=
 ind (fun _ _=>by kernel_rfl) fun q ih f a=>Eq.trans (b:=Pb x6 (fun f a=>(z4 q) (t4 b f a)) b f a) (by kernel_rfl) (by simp only[e6,ih]<;>rfl)
theorem e4:x4=Xi:=by funext b f a;exact Eq.trans (by kernel_rfl) ((i4 b Cq f a).trans (by rw[Aq];rfl))
noncomputable def F:=u2 Wp
theorem rn x:H.u P_ x=F x:=Eq.trans (b:=u2 (Pn x4) x) (by kernel_rfl) (by simp only[e4]<;>rfl)
noncomputable def c:Con:=⟨H.p,H.r,F⟩
theorem ok:ConOk P_ gl 120 c:=co H func120 (.cons F153.ok .nil) rn
end F120
namespace F83
noncomputable def H:Hd:=⟨[Si,Si],[Si,Si], .d,⟨[(120,F120.c)],gl,false⟩,[],f83⟩
noncomputable def F:=u2 Is
theorem rn x:H.u P_ x=F x:=by kernel_rfl
noncomputable def c:Con:=⟨H.p,H.r,F⟩
theorem ok:ConOk P_ gl 83 c:=co H func83 (.cons F120.ok .nil) rn
end F83
namespace F37
noncomputable def H:Hd:=⟨[.agg [Si,Si,Si,Sw],Si],[Sz], .d,⟨[(36,F36.c),(82,F82.c),(83,F83.c)],gl,false⟩,[],f37⟩
noncomputable def F:=u5 Ads
theorem rn x:H.u P_ x=F x:=by kernel_rfl
noncomputable def c:Con:=⟨H.p,H.r,F⟩
theorem ok:ConOk P_ gl 37 c:=co H func37 (.cons F36.ok (.cons F82.ok (.cons F83.ok .nil))) rn
end F37
namespace F9
noncomputable def H:Hd:=⟨[.agg [Si,Si,Si,Sw]],[Si], .d,⟨[(35,F35.c),(36,F36.c),(37,F37.c)],gl,false⟩,[],f9⟩
noncomputable def F:=u4 Cf
theorem rn x:H.u P_ x=F x:=by kernel_rfl
noncomputable def c:Con:=⟨H.p,H.r,F⟩
theorem ok:ConOk P_ gl 9 c:=co H func9 (.cons F35.ok (.cons F36.ok (.cons F37.ok .nil))) rn
end F9
namespace F28
abbrev R_:=(LB×Int)
abbrev K_:=S→Option R_
noncomputable def H:Hd:=⟨[Sb,Si,Su],[Ob 5,Si],(.seq .d (.seq .d (.seq .d (.seq .d (.seq .d (.cut [8,9] [] (.seq .d (.blk (.loop [1,2,8,9,10,24] [] (.seq .d (.seq .d (.cut [1,2,8,9,10,24] [] (.blk (.seq .d (.seq .d (.cond (.keep [1,2,8,9,10,11,24,32,33,34,35] true) .d)))) .d)))))) .d)))))),⟨[(75,F75.c)],gl,false⟩,[(76, .d)],f28⟩
def t6(a:Int)(g:UInt32)(b:Int)(h:Bool)(f:LB):S:=⟨[(1,vi a),(2,vu g),(8, .ptr 0 []),(9, .ptr 1 []),(10, .fn 76 [.ptr 0 [], .ptr 1 []]),(24,vi b)],[.box 27 (.own 2), .box 4 (vt h),Ab 5 f],[]⟩
def z6:Nat→S→Option R_:=H.i P_ [r,r,r,r,r,l,r,d]
def x10(h:Bool)(f:LB):Option R_:=H.e P_ [r,r,r,r,r,r] ⟨[(8, .ptr 0 []),(9, .ptr 1 [])],[.box 27 (.own 2), .box 4 (vt h),Ab 5 f],[]⟩
def x8(kn6:K_)(a:Int)(g:UInt32)(b:Int)(k:Bool)(m:LB):Option R_:=H.e P_ [r,r,r,r,r,l,r,d,(lp kn6),r,r,r] ⟨[(1,vi a),(2,vu g),(8, .ptr 0 []),(9, .ptr 1 []),(10, .fn 76 [.ptr 0 [], .ptr 1 []]),(24,vi b)],[.box 27 (.own 2), .box 4 (vt k),Ab 5 m],[]⟩
def x6(a:Int)(g:UInt32)(b:Int)(h:Bool)(f:LB):Option R_:=H.e P_ [r,r,r,r,r,l,r,d] (t6 a g b h f)
theorem e10:x10=Aqi:=by kernel_rfl
theorem e8(kn6:K_)(a:Int)(g:UInt32):x8 kn6 a g=Yz (fun b h f=>kn6 (t6 a g b h f)) a g:=by kernel_rfl
theorem i6(a:Int)(g:UInt32):∀(q:Nat) (b:Int) (h:Bool) (f:LB),z6 q (t6 a g b h f)=Kh a g q b h f:=
 ind (fun _ _ _=>by kernel_rfl) fun q ih b h f=>Eq.trans (b:=Yo (x8 (z6 q) a g) x10 a g b h f) (by kernel_rfl) (by simp only[e8,e10,ih]<;>rfl)
theorem e6:x6=Aio:=by funext a g b h f;exact Eq.trans (by kernel_rfl) ((i6 a g Cq b h f).trans (by rw[Aq];rfl))
noncomputable def F:=u3 Akc
theorem rn x:H.u P_ x=F x:=Eq.trans (b:=u3 (Ajf x6) x) (by kernel_rfl) (by simp only[e6]<;>rfl)
noncomputable def c:Con:=⟨H.p,H.r,F⟩
theorem ok:ConOk P_ gl 28 c:=cr H func28 (.cons F75.ok .nil) (AnsOk.cons ent76 AnsOk.nil) rn
end F28
namespace F6
def Jq(j14:Bool→Int→UInt8→Int→Int→Int→UInt8→Int→Int→Option Bool)(f:LB)(a:Bool)(b:LB)(v:Int)(n:UInt8)(o p:Int):Option Bool:=
(Og b f).bind fun(u,w,y,aa,ad)=>
(fun ax:Option Bool=>
(fun ay:Option Bool=>
(fun az:Option Bool=>
(fun ba:Option Bool=>
bo (
ba)) (
bo (
az))) (
bo (
ay))) (
bo (
ax))) (
if((((Ay ad 0)||(Ay w n))||(Ay y o))||(Ay aa p))then
some false
else
(Gq b f).bind fun ae=>
if(Ay u ae)then
some false
else
j14 a v n o p u w y aa)
theorem Abe: @Jq= @Ge:=by
  unfold Jq Ge
  simp only[Bc4,Atk,Asf]
abbrev R_:=Bool
abbrev K_:=S→Option R_
noncomputable def H:Hd:=⟨[.agg [Si,Si,Si,Sw],Ss,Si,Su],[Sz],(.seq .d (.seq .d (.seq .d (.seq .d (.seq .d (.seq .d (.seq .d (.seq .d (.cut [1,9,10,12,14,15] [] (.seq .d (.blk (.loop [1,9,10,12,14,15,16] [] (.seq .d (.seq (.blk (.cut [1,9,10,12,14,15,16,85] [] .d .d)) .d))))) (.seq .d (.seq .d (.seq .d (.seq .d (.cut [1,9,12,17] [] .d (.seq .d (.cut [9,17,21] [] (.seq (.mode false) .d) .d)))))))))))))))),⟨[(9,F9.c),(10,F10.c),(27,F27.c),(28,F28.c),(29,F29.c),(30,F30.c),(31,F31.c)],gl,false⟩,[],f6⟩
def t8(f:LB)(a:Bool)(g b:LB)(k m h:Int):S:=⟨[(1,vs f),(9,vt a),(10, .own 0),(12, .own 1),(14,vi k),(15,vi m),(16,vi h)],[Ab 5 g,Ab 5 b],[]⟩
def z8:Nat→S→Option R_:=H.i P_ [r,r,r,r,r,r,r,r,l,r,d]
def x14(a:Bool)(v:Int)(n:UInt8)(o p u:Int)(w:UInt8)(y aa:Int):Option R_:=H.e P_ [r,r,r,r,r,r,r,r,r,r,r,r,r,r,r,r] ⟨[(9,vt a),(17, .ptr 0 []),(21, .ptr 1 [])],[.box 63 (.agg [vi v,vc n,vi o,vi p]), .box 63 (.agg [vi u,vc w,vi y,vi aa])],[]⟩
def x13(f:LB)(a:Bool)(b:LB)(v:Int)(n:UInt8)(o p:Int):Option R_:=H.e P_ [r,r,r,r,r,r,r,r,r,r,r,r,r,r] ⟨[(1,vs f),(9,vt a),(12,vb b),(17, .ptr 0 [])],[.box 63 (.agg [vi v,vc n,vi o,vi p])],[]⟩
def x12(f:LB)(a:Bool)(k m:Int)(g b:LB):Option R_:=H.e P_ [r,r,r,r,r,r,r,r,r] ⟨[(1,vs f),(9,vt a),(10, .own 0),(12, .own 1),(14,vi k),(15,vi m)],[Ab 5 g,Ab 5 b],[]⟩
def x10(kn8:K_)(f:LB)(a:Bool)(g b:LB)(k m h:Int)(ab ac:UInt8):Option R_:=H.e P_ [r,r,r,r,r,r,r,r,l,r,d,(lp kn8),r,l,d,r] ⟨[(1,vs f),(9,vt a),(10, .own 0),(12, .own 1),(14,vi k),(15,vi m),(16,vi h),(85,vt (Ay ab ac))],[Ab 5 g,Ab 5 b],[]⟩
def x8(f:LB)(a:Bool)(g b:LB)(k m h:Int):Option R_:=H.e P_ [r,r,r,r,r,r,r,r,l,r,d] (t8 f a g b k m h)
theorem e14:x14=Gc:=by kernel_rfl
theorem e13:x13=Ga:=Eq.trans (b:=Jq x14) (by kernel_rfl) (by rw[Abe];simp only[e14]<;>rfl)
theorem e12:x12=Ds:=Eq.trans (b:=Ks x13) (by kernel_rfl) (by simp only[e13]<;>rfl)
theorem e10(kn8:K_)(f:LB)(a:Bool)(g b:LB):x10 kn8 f a g b=Ke (fun k m h=>kn8 (t8 f a g b k m h)) f a g b:=by kernel_rfl
theorem i8(f:LB)(a:Bool)(g b:LB):∀(q:Nat) (k m h:Int),z8 q (t8 f a g b k m h)=Da f a g b q k m h:=
 ind (fun _ _ _=>by kernel_rfl) fun q ih k m h=>Eq.trans (b:=Gs (x10 (z8 q) f a g b) x12 f a g b k m h) (by kernel_rfl) (by simp only[e10,e12,ih]<;>rfl)
theorem e8:x8=Lk:=by funext f a g b k m h;exact Eq.trans (by kernel_rfl) ((i8 f a g b Cq k m h).trans (by rw[Aq];rfl))
noncomputable def F:=u7 Je
theorem rn x:H.u P_ x=F x:=Eq.trans (b:=u7 (Lh x8) x) (by kernel_rfl) (by simp only[e8]<;>rfl)
noncomputable def c:Con:=⟨H.p,H.r,F⟩
theorem ok:ConOk P_ gl 6 c:=co H func6 (.cons F9.ok (.cons F10.ok (.cons F27.ok (.cons F28.ok (.cons F29.ok (.cons F30.ok (.cons F31.ok .nil))))))) rn
end F6
end
end Go.Proofs.YtidigmkmfmopgaaGreatDoor
