/- A part of the proof of a statement of this seat (see the text that ends in Proof): SoOk. No conditions of its own. -/
import Derived.Test.YtidigmkmfmopgaaGreatDoorSoBB
import Derived.Test.YtidigmkmfmopgaaGreatDoorSoPA
import Derived.Test.YtidigmkmfmopgaaGreatDoorSoHA
import Derived.Test.YtidigmkmfmopgaaGreatDoorProg
import Derived.KernelRfl
set_option linter.unusedVariables false
set_option linter.unusedSimpArgs false
set_option maxRecDepth 10000
namespace Go.Proofs.YtidigmkmfmopgaaGreatDoor
open Go Go.Lv Go.Pl Go.Rx Go.Rx.PS
noncomputable section
def g0:List Value:=[.int .i64 2, .int .i64 2, .int .i64 2, .int .i64 4, .int .i64 4]
def g3:List Value:=[.int .u8 0, .int .u8 1, .int .u8 56, .int .u8 2, .int .u8 57, .int .u8 49, .int .u8 28, .int .u8 3, .int .u8 61, .int .u8 58, .int .u8 42, .int .u8 50, .int .u8 38, .int .u8 29, .int .u8 17, .int .u8 4, .int .u8 62, .int .u8 47, .int .u8 59, .int .u8 36, .int .u8 45, .int .u8 43, .int .u8 51, .int .u8 22, .int .u8 53, .int .u8 39, .int .u8 33, .int .u8 30, .int .u8 24, .int .u8 18, .int .u8 12, .int .u8 5, .int .u8 63, .int .u8 55, .int .u8 48, .int .u8 27, .int .u8 60, .int .u8 41, .int .u8 37, .int .u8 16, .int .u8 46, .int .u8 35, .int .u8 44, .int .u8 21, .int .u8 52, .int .u8 32, .int .u8 23, .int .u8 11, .int .u8 54, .int .u8 26, .int .u8 40, .int .u8 15, .int .u8 34, .int .u8 20, .int .u8 31, .int .u8 10, .int .u8 25, .int .u8 14, .int .u8 19, .int .u8 9, .int .u8 13, .int .u8 8, .int .u8 7, .int .u8 6]
def gl:List (Nat×List Value):=[(0,g0),(3,g3)]
theorem mixed:Tryz.prog.follows .mixedOrders=true:=by kernel_rfl
noncomputable abbrev P_:=Tryz.prog
theorem cr(H:Hd){f:Nat}{F:LTy (shL H.p)→Option (LTy (shL H.r))}(hf:P_.funcs[f]? =some H.f)(hT:Abu P_ H.T)(hA:∀p∈H.s,Ent P_ p.1)(h:∀x,H.u P_ x=F x)(hb:okH H=true:=by kernel_rfl):ConOk P_ H.T.gl f ⟨H.p,H.r,F⟩:=Hd.con mixed H hf hT hA hb h
theorem co(H:Hd){f:Nat}{F:LTy (shL H.p)→Option (LTy (shL H.r))}(hf:P_.funcs[f]? =some H.f)(hT:Abu P_ H.T)(h:∀x,H.u P_ x=F x)(hb:(H.s.isEmpty&&okH H)=true:=by kernel_rfl):ConOk P_ H.T.gl f ⟨H.p,H.r,F⟩:=Hd.Cgp mixed H hf hT hb h
theorem ent34:Ent Tryz.prog 34:=Ent.mk Tryz.func34 (by kernel_rfl) rfl
theorem ent43:Ent Tryz.prog 43:=Ent.mk Tryz.func43 (by kernel_rfl) rfl
theorem ent46:Ent Tryz.prog 46:=Ent.mk Tryz.func46 (by kernel_rfl) rfl
theorem ent51:Ent Tryz.prog 51:=Ent.mk Tryz.func51 (by kernel_rfl) rfl
theorem ent94:Ent Tryz.prog 94:=Ent.mk Tryz.func94 (by kernel_rfl) rfl
theorem ent103:Ent Tryz.prog 103:=Ent.mk Tryz.func103 (by kernel_rfl) rfl
theorem ent105:Ent Tryz.prog 105:=Ent.mk Tryz.func105 (by kernel_rfl) rfl
theorem ent128:Ent Tryz.prog 128:=Ent.mk Tryz.func128 (by kernel_rfl) rfl
theorem ent138:Ent Tryz.prog 138:=Ent.mk Tryz.func138 (by kernel_rfl) rfl
theorem ent166:Ent Tryz.prog 166:=Ent.mk Tryz.func166 (by kernel_rfl) rfl
theorem ent167:Ent Tryz.prog 167:=Ent.mk Tryz.func167 (by kernel_rfl) rfl
theorem ent168:Ent Tryz.prog 168:=Ent.mk Tryz.func168 (by kernel_rfl) rfl
theorem ent181:Ent Tryz.prog 181:=Ent.mk Tryz.func181 (by kernel_rfl) rfl
theorem ent182:Ent Tryz.prog 182:=Ent.mk Tryz.func182 (by kernel_rfl) rfl
theorem ent185:Ent Tryz.prog 185:=Ent.mk Tryz.func185 (by kernel_rfl) rfl
theorem ent191:Ent Tryz.prog 191:=Ent.mk Tryz.func191 (by kernel_rfl) rfl
theorem ent194:Ent Tryz.prog 194:=Ent.mk Tryz.func194 (by kernel_rfl) rfl
theorem ent196:Ent Tryz.prog 196:=Ent.mk Tryz.func196 (by kernel_rfl) rfl
theorem ent199:Ent Tryz.prog 199:=Ent.mk Tryz.func199 (by kernel_rfl) rfl
theorem ent202:Ent Tryz.prog 202:=Ent.mk Tryz.func202 (by kernel_rfl) rfl
theorem ent213:Ent Tryz.prog 213:=Ent.mk Tryz.func213 (by kernel_rfl) rfl
abbrev u2{A B R:Type}(f:A→B→R)(x:A×B):=f x.1 x.2
abbrev u3{A B C R:Type}(f:A→B→C→R):=u2 fun a=>u2 (f a)
abbrev u4{A B C D R:Type}(f:A→B→C→D→R):=u2 fun a=>u3 (f a)
abbrev u5{A B C D E R:Type}(f:A→B→C→D→E→R):=u2 fun a=>u4 (f a)
abbrev u6{A B C D E F R:Type}(f:A→B→C→D→E→F→R):=u2 fun a=>u5 (f a)
abbrev u7{A B C D E F G R:Type}(f:A→B→C→D→E→F→G→R):=u2 fun a=>u6 (f a)
open Go.Proofs.Tryz
namespace F88
noncomputable def H:Hd:=⟨[.agg [Si,Si,Si,Sw]],[.agg [Si,Si]], .d,⟨[],gl,false⟩,[],f88⟩
noncomputable def F:=u4 Acu
theorem rn x:H.u P_ x=F x:=by kernel_rfl
noncomputable def c:Con:=⟨H.p,H.r,F⟩
theorem ok:ConOk P_ gl 88 c:=co H func88 .nil rn
end F88
namespace F113
abbrev R_:=(Int32×Int32×Int)
noncomputable def H:Hd:=⟨[Si],[Sx,Sx,Si],(.seq .d (.seq (.seq .d (.blk (.cut [0,7] [] .d .d))) .d)),⟨[],gl,false⟩,[],f113⟩
def x2(a:Int)(b:Bool):Option R_:=H.e P_ [r,l,r,d,r] ⟨[(0,vi a),(7,vt b)],[],[]⟩
theorem e2:x2=Ah9:=by kernel_rfl
noncomputable def F:=Ny
theorem rn x:H.u P_ x=F x:=Eq.trans (b:=Ajc x2 x) (by kernel_rfl) (by simp only[e2]<;>rfl)
noncomputable def c:Con:=⟨H.p,H.r,F⟩
theorem ok:ConOk P_ gl 113 c:=co H func113 .nil rn
end F113
namespace F139
noncomputable def H:Hd:=⟨[.agg [Si,Si]],[Si], .d,⟨[(113,F113.c)],gl,false⟩,[],f139⟩
noncomputable def F:=u2 Ep
theorem rn x:H.u P_ x=F x:=by kernel_rfl
noncomputable def c:Con:=⟨H.p,H.r,F⟩
theorem ok:ConOk P_ gl 139 c:=co H func139 (.cons F113.ok .nil) rn
end F139
namespace F118
noncomputable def H:Hd:=⟨[Si],[Si,Si], .d,⟨[],gl,false⟩,[],f118⟩
noncomputable def F:=Lm
theorem rn x:H.u P_ x=F x:=by kernel_rfl
noncomputable def c:Con:=⟨H.p,H.r,F⟩
theorem ok:ConOk P_ gl 118 c:=co H func118 .nil rn
end F118
namespace F117
noncomputable def H:Hd:=⟨[Si,Si],[Si,Si], .d,⟨[(118,F118.c)],gl,false⟩,[],f117⟩
noncomputable def F:=u2 Fh
theorem rn x:H.u P_ x=F x:=by kernel_rfl
noncomputable def c:Con:=⟨H.p,H.r,F⟩
theorem ok:ConOk P_ gl 117 c:=co H func117 (.cons F118.ok .nil) rn
end F117
namespace F121
noncomputable def H:Hd:=⟨[.agg [Si,Si,Si,Sw],Si],[Si], .d,⟨[(88,F88.c),(117,F117.c),(139,F139.c)],gl,false⟩,[],f121⟩
noncomputable def F:=u5 Acp
theorem rn x:H.u P_ x=F x:=by kernel_rfl
noncomputable def c:Con:=⟨H.p,H.r,F⟩
theorem ok:ConOk P_ gl 121 c:=co H func121 (.cons F88.ok (.cons F117.ok (.cons F139.ok .nil))) rn
end F121
namespace F63
abbrev R_:=Int
noncomputable def H:Hd:=⟨[Si,Sw],[Si],(.seq .d (.seq .d (.seq .d (.seq .d (.cut [] [] (.seq .d (.blk (.loop [5,6,22,23,24] [] .d))) .d))))),⟨[(113,F113.c)],gl,false⟩,[],f63⟩
def t4(b f:Int32)(a:LX)(g:Int):S:=⟨[(5,vx b),(6,vx f),(22,vw a),(23,vi (Ac a)),(24,vi g)],[],[]⟩
def z4:Nat→S→Option R_:=H.i P_ [r,r,r,r,l,r,d]
def x6:Option R_:=H.e P_ [r,r,r,r,r] ⟨[],[],[]⟩
def x4(b f:Int32)(a:LX)(g:Int):Option R_:=H.e P_ [r,r,r,r,l,r,d] (t4 b f a g)
theorem e6:x6=Atj:=by kernel_rfl
theorem i4(b f:Int32)(a:LX):∀(q:Nat) (g:Int),z4 q (t4 b f a g)=Nj b f a q g:=
 ind (fun _=>by kernel_rfl) fun q ih g=>Eq.trans (b:=Zb x6 (fun g=>(z4 q) (t4 b f a g)) b f a g) (by kernel_rfl) (by simp only[e6,ih]<;>rfl)
theorem e4:x4=Atg:=by funext b f a g;exact Eq.trans (by kernel_rfl) ((i4 b f a Cu g).trans (by rw[As];rfl))
noncomputable def F:=u2 Rs
theorem rn x:H.u P_ x=F x:=Eq.trans (b:=u2 (Aia x4) x) (by kernel_rfl) (by simp only[e4]<;>rfl)
noncomputable def c:Con:=⟨H.p,H.r,F⟩
theorem ok:ConOk P_ gl 63 c:=co H func63 (.cons F113.ok .nil) rn
end F63
namespace F84
noncomputable def H:Hd:=⟨[.agg [Si,Si,Si,Sw]],[Si], .d,⟨[(63,F63.c),(121,F121.c)],gl,false⟩,[],f84⟩
noncomputable def F:=u4 Cz
theorem rn x:H.u P_ x=F x:=by kernel_rfl
noncomputable def c:Con:=⟨H.p,H.r,F⟩
theorem ok:ConOk P_ gl 84 c:=co H func84 (.cons F63.ok (.cons F121.ok .nil)) rn
end F84
namespace F38
def Ae9(j2:LB→Int→Int→Int→LX→Option (Int×Int×Int×Int×Int×Int))(a b f:Int)(g:LX)(h:LB):Option (Int×Int×Int×Int×Int×Int):=
(Cz a b f g).bind fun k=>
if(Bf k 0)then
some (0,0,0,0,0,k)
else
if(Ez (Ac h) 64)then
some (0,0,0,0,0,2)
else
(Gw (Bf a 0)).bind fun _=>
bo (
j2 h a b f g)
theorem Avs: @Ae9= @Zv:=by
  unfold Ae9 Zv
  simp only[Ba5,Ar3,Ast]
abbrev R_:=(Int×Int×Int×Int×Int×Int)
noncomputable def H:Hd:=⟨[.agg [Si,Si,Si,Sw],Ss],[.agg [Si,Si,Si,Si,Si],Si],(.seq .d (.seq .d (.seq .d (.cut [1,4,7] [] .d .d)))),⟨[(84,F84.c)],gl,false⟩,[],f38⟩
def x2(h:LB)(a b f:Int)(g:LX):Option R_:=H.e P_ [r,r,r,r] ⟨[(1,vs h),(4, .ptr 0 []),(7, .ptr 1 [])],[.box 32 (.agg [vi 0,vi 0,vi 0,vi 0,vi 0]), .box 32 (.agg [vi 1,vi a,vi b,vi f,vi (Bs (Ac g) a)])],[]⟩
theorem e2:x2=Aiy:=by kernel_rfl
noncomputable def F:=u5 Ak8
theorem rn x:H.u P_ x=F x:=Eq.trans (b:=u5 (Ae9 x2) x) (by kernel_rfl) (by unfold F;rw[Avs];simp only[e2]<;>rfl)
noncomputable def c:Con:=⟨H.p,H.r,F⟩
theorem ok:ConOk P_ gl 38 c:=co H func38 (.cons F84.ok .nil) rn
end F38
namespace F154
abbrev R_:=(UInt64×Int)
abbrev K_:=S→Option R_
noncomputable def H:Hd:=⟨[Sq,Sb],[Sq,Si],(.seq .d (.seq .d (.cut [4,5] [] (.keep [0,1,4,5,9,10,11,12] true) .d))),⟨[],gl,false⟩,[(181,(.seq .d (.cut [1] [] (.seq .d (.blk (.loop [0,1,9,10,11] [] .d))) .d))),(182,(.seq .d (.seq .d (.cut [1] [] (.seq .d (.blk (.loop [1,5] [] (.seq .d (.seq .d (.cut [1,5] [] (.blk (.seq .d (.seq .d (.cut [1,2,3,5] [] (.seq .d (.blk (.loop [1,2,3,5,11] [] .d))) .d)))) .d)))))) .d))))],f154⟩
def t27(a:LB)(b:UInt64)(f:LQ)(h:UInt64)(m:Int):S:=⟨[(0, .ptr 0 []),(1,vq h),(9,vb a),(10,vi (Ac a)),(11,vi m)],[.box 285 (.val (.vec 256 (.int .u64)) f)],[[(0,vq b),(1,vb a),(4,vq 0),(5,vi 0),(9, .ptr 0 []),(10,vq b),(11,vb a)]]⟩
def z27:Nat→S→Option R_:=H.i P_ [r,r,l,(call 3 181),r,l,r,d]
def t21(b:UInt64)(a:LB)(g:Int)(f:LQ)(k:UInt64)(n:Int):S:=⟨[(1, .ptr 0 []),(2,vi g),(3,vq k),(5,vi g),(11,vi n)],[.box 285 (.val (.vec 256 (.int .u64)) f)],[[(0,vq b),(1,vb a),(4,vq 0),(5,vi 0)]]⟩
def z21(kn16:K_):Nat→S→Option R_:=H.i P_ [r,r,l,(call 0 182),r,r,l,r,d,(lp kn16),r,r,l,d,r,r,l,r,d]
def t16(b:UInt64)(a:LB)(g:Int)(f:LQ):S:=⟨[(1, .ptr 0 []),(5,vi g)],[.box 285 (.val (.vec 256 (.int .u64)) f)],[[(0,vq b),(1,vb a),(4,vq 0),(5,vi 0)]]⟩
def z16:Nat→S→Option R_:=H.i P_ [r,r,l,(call 0 182),r,r,l,r,d]
def x30(h:UInt64):Option R_:=H.e P_ [r,r,r] ⟨[(4,vq h),(5,vi 0)],[],[]⟩
def x29(h b:UInt64)(a:LB)(f:LQ):Option R_:=H.e P_ [r,r,l,(call 3 181),r,r] ⟨[(1,vq h)],[.box 285 (.val (.vec 256 (.int .u64)) f)],[[(0,vq b),(1,vb a),(4,vq 0),(5,vi 0),(9, .ptr 0 []),(10,vq b),(11,vb a)]]⟩
def x27(a:LB)(b:UInt64)(f:LQ)(h:UInt64)(m:Int):Option R_:=H.e P_ [r,r,l,(call 3 181),r,l,r,d] (t27 a b f h m)
def x26(b:UInt64)(a:LB)(f:LQ):Option R_:=H.e P_ [r,r,l,(call 0 182),r,r,r] ⟨[(1, .ptr 0 [])],[.box 285 (.val (.vec 256 (.int .u64)) f)],[[(0,vq b),(1,vb a),(4,vq 0),(5,vi 0)]]⟩
def x24(kn16:K_)(b:UInt64)(a:LB)(g:Int)(o:LQ):Option R_:=H.e P_ [r,r,l,(call 0 182),r,r,l,r,d,(lp kn16),r,r,r] ⟨[(1, .ptr 0 []),(5,vi g)],[.box 285 (.val (.vec 256 (.int .u64)) o)],[[(0,vq b),(1,vb a),(4,vq 0),(5,vi 0)]]⟩
def x23(kn16:K_)(b:UInt64)(a:LB)(g:Int)(k:UInt64)(f:LQ):Option R_:=H.e P_ [r,r,l,(call 0 182),r,r,l,r,d,(lp kn16),r,r,l,d,r,r,r] ⟨[(1, .ptr 0 []),(2,vi g),(3,vq k),(5,vi g)],[.box 285 (.val (.vec 256 (.int .u64)) f)],[[(0,vq b),(1,vb a),(4,vq 0),(5,vi 0)]]⟩
def x21(kn16:K_)(b:UInt64)(a:LB)(g:Int)(f:LQ)(k:UInt64)(n:Int):Option R_:=H.e P_ [r,r,l,(call 0 182),r,r,l,r,d,(lp kn16),r,r,l,d,r,r,l,r,d] (t21 b a g f k n)
def x16(b:UInt64)(a:LB)(g:Int)(f:LQ):Option R_:=H.e P_ [r,r,l,(call 0 182),r,r,l,r,d] (t16 b a g f)
theorem e30:x30=Ajr:=by kernel_rfl
theorem e29:x29=Ahx:=Eq.trans (b:=Ahz x30) (by kernel_rfl) (by simp only[e30]<;>rfl)
theorem i27(a:LB)(b:UInt64)(f:LQ):∀(q:Nat) (h:UInt64) (m:Int),z27 q (t27 a b f h m)=Mw a b f q h m:=
 ind (fun _ _=>by kernel_rfl) fun q ih h m=>Eq.trans (b:=Zg x29 (fun h m=>(z27 q) (t27 a b f h m)) a b f h m) (by kernel_rfl) (by simp only[e29,ih]<;>rfl)
theorem e27:x27=Ahp:=by funext a b f h m;exact Eq.trans (by kernel_rfl) ((i27 a b f Cu h m).trans (by rw[As];rfl))
theorem e26:x26=Aak:=Eq.trans (b:=Ah6 x27) (by kernel_rfl) (by simp only[e27]<;>rfl)
theorem e24(kn16:K_)(b:UInt64)(a:LB):x24 kn16 b a=Aif (fun g f=>kn16 (t16 b a g f)) b a:=by kernel_rfl
theorem e23(kn16:K_)(b:UInt64)(a:LB):x23 kn16 b a=Zl (fun g f=>kn16 (t16 b a g f)) b a:=Eq.trans (b:=Ahe (x24 kn16 b a) b a) (by kernel_rfl) (by simp only[e24]<;>rfl)
theorem i21(kn16:K_)(b:UInt64)(a:LB)(g:Int)(f:LQ):∀(q:Nat) (k:UInt64) (n:Int),z21 kn16 q (t21 b a g f k n)=Nw (fun g f=>kn16 (t16 b a g f)) b a g f q k n:=
 ind (fun _ _=>by kernel_rfl) fun q ih k n=>Eq.trans (b:=Yd (x23 kn16 b a) (fun k n=>(z21 kn16 q) (t21 b a g f k n)) b a g f k n) (by kernel_rfl) (by simp only[e23,ih]<;>rfl)
theorem e21(kn16:K_)(b:UInt64)(a:LB):x21 kn16 b a=Ai0 (fun g f=>kn16 (t16 b a g f)) b a:=by funext g f k n;exact Eq.trans (by kernel_rfl) ((i21 kn16 b a g f Cu k n).trans (by rw[As];rfl))
theorem i16(b:UInt64)(a:LB):∀(q:Nat) (g:Int) (f:LQ),z16 q (t16 b a g f)=Kn b a q g f:=
 ind (fun _ _=>by kernel_rfl) fun q ih g f=>Eq.trans (b:=Aay (x21 (z16 q) b a) x26 b a g f) (by kernel_rfl) (by simp only[e21,e26,ih]<;>rfl)
theorem e16:x16=Aiz:=by funext b a g f;exact Eq.trans (by kernel_rfl) ((i16 b a Cu g f).trans (by rw[As];rfl))
noncomputable def F:=u2 Aoz
theorem rn x:H.u P_ x=F x:=Eq.trans (b:=u2 (Alr x16) x) (by kernel_rfl) (by simp only[e16]<;>rfl)
noncomputable def c:Con:=⟨H.p,H.r,F⟩
theorem ok:ConOk P_ gl 154 c:=cr H func154 .nil (AnsOk.cons ent181 (AnsOk.cons ent182 AnsOk.nil)) rn
end F154
namespace F122
noncomputable def H:Hd:=⟨[Sb],[Sq,Si], .d,⟨[(154,F154.c)],gl,false⟩,[],f122⟩
noncomputable def F:=Amr
theorem rn x:H.u P_ x=F x:=by kernel_rfl
noncomputable def c:Con:=⟨H.p,H.r,F⟩
theorem ok:ConOk P_ gl 122 c:=co H func122 (.cons F154.ok .nil) rn
end F122
namespace F123
abbrev R_:=LX
noncomputable def H:Hd:=⟨[Sq],[.lf (.vec 16 (.int .i32)) none],(.seq .d (.seq .d (.cut [2,3] [] (.seq .d (.blk (.loop [0,2,3,5] [] .d))) .d))),⟨[],gl,false⟩,[],f123⟩
def t4(f:UInt64)(b:Int)(a:LX):S:=⟨[(0,vq f),(2, .ptr 0 []),(3, .ptr 1 []),(5,vi b)],[.box 136 (.val (.vec 16 (.int .i32)) (List.replicate 16 (0:Int32))), .box 136 (.val (.vec 16 (.int .i32)) a)],[]⟩
def z4:Nat→S→Option R_:=H.i P_ [r,r,l,r,d]
def x6(a:LX):Option R_:=H.e P_ [r,r,r] ⟨[(2, .ptr 0 []),(3, .ptr 1 [])],[.box 136 (.val (.vec 16 (.int .i32)) (List.replicate 16 (0:Int32))), .box 136 (.val (.vec 16 (.int .i32)) a)],[]⟩
def x4(f:UInt64)(b:Int)(a:LX):Option R_:=H.e P_ [r,r,l,r,d] (t4 f b a)
theorem e6:x6=Bff:=by kernel_rfl
theorem i4(f:UInt64):∀(q:Nat) (b:Int) (a:LX),z4 q (t4 f b a)=Ac1 f q b a:=
 ind (fun _ _=>by kernel_rfl) fun q ih b a=>Eq.trans (b:=Aoi x6 (fun b a=>(z4 q) (t4 f b a)) f b a) (by kernel_rfl) (by simp only[e6,ih]<;>rfl)
theorem e4:x4=Bdv:=by funext f b a;exact Eq.trans (by kernel_rfl) ((i4 f Cu b a).trans (by rw[As];rfl))
noncomputable def F:=Bkj
theorem rn x:H.u P_ x=F x:=Eq.trans (b:=Bct x4 x) (by kernel_rfl) (by simp only[e4]<;>rfl)
noncomputable def c:Con:=⟨H.p,H.r,F⟩
theorem ok:ConOk P_ gl 123 c:=co H func123 .nil rn
end F123
namespace F85
noncomputable def H:Hd:=⟨[Ss],[.lf (.vec 16 (.int .i32)) none,Si], .d,⟨[(122,F122.c),(123,F123.c)],gl,false⟩,[],f85⟩
noncomputable def F:=Xb
theorem rn x:H.u P_ x=F x:=by kernel_rfl
noncomputable def c:Con:=⟨H.p,H.r,F⟩
theorem ok:ConOk P_ gl 85 c:=co H func85 (.cons F122.ok (.cons F123.ok .nil)) rn
end F85
namespace F198
noncomputable def H:Hd:=⟨[Sq,Sq],[Sq,Sq], .d,⟨[],gl,false⟩,[],f198⟩
noncomputable def F:=u2 Ae8
theorem rn x:H.u P_ x=F x:=by kernel_rfl
noncomputable def c:Con:=⟨H.p,H.r,F⟩
theorem ok:ConOk P_ gl 198 c:=co H func198 .nil rn
end F198
namespace F171
noncomputable def H:Hd:=⟨[Sq,Sq],[Sq,Sq], .d,⟨[(198,F198.c)],gl,false⟩,[],f171⟩
noncomputable def F:=u2 Ac4
theorem rn x:H.u P_ x=F x:=by kernel_rfl
noncomputable def c:Con:=⟨H.p,H.r,F⟩
theorem ok:ConOk P_ gl 171 c:=co H func171 (.cons F198.ok .nil) rn
end F171
namespace F136
def Lh(j10:LI→Option (LI))(bk8:Int→LI→Option (LI))(b:Int)(a:LI):Option (LI):=
if(Bw b (Ac a))then
both (
(vwI (Ac a) b (Ac a)).bind fun _=>
(vwI (Ac a) 0 b).bind fun _=>
bk8 (Ad b (Ajj ((Ac a)-b) (Ajv a 0 (b-(0:Int))).length)) (Ql a b ((Ac a)-b) (Ajv a 0 (b-(0:Int))))) [
(vwI (Ac a) 0 b).bind fun _=>
(vwI (Ac a) b (Ac a)).bind fun _=>
bk8 (Ad b (Ajj ((Ac a)-b) (Ajv a 0 (b-(0:Int))).length)) (Ql a b ((Ac a)-b) (Ajv a 0 (b-(0:Int))))]
else
j10 a
theorem Afs: @Lh= @Fi:=by
  unfold Lh Fi
  repeat (refine funext fun _=>?_)
  repeat' first
    |with_reducible rfl
    |with_reducible refine Uw ?_ ?_
    |with_reducible refine Us ?_ ?_ ?_
    |with_reducible refine Uy ?_ ?_ ?_ ?_
    |((with_reducible refine Adj ?_ ?_);focus (intro h;first|(subst h;rfl)|(simp only[h];rfl)|(simp[Fj,Ac,h];done)))
    |with_reducible refine Ac9 fun x=>?_
    |with_reducible refine Alh (fun _=>?_) (fun _=>?_)
    |(refine Md (fun h=>by simp only[h,Ada,Ij,Hx,ite_self]) (fun x h=>?_);(try simp only[h,Ij]))
    |(refine Px (fun h=>?_) (fun h=>?_)<;>simp only[h,if_true,if_false,Bool.false_eq_true])
abbrev R_:=LI
noncomputable def H:Hd:=⟨[Sl,Si],[Ol 3],(.seq .d (.cut [0,1] [] .d (.seq .d (.cut [0,6] [] .d (.seq .d (.seq .d (.cut [7] [] (.blk (.loop [7,8] [] (.seq .d (.blk (.mode false))))) .d))))))),⟨[(171,F171.c)],gl,true⟩,[],f136⟩
def t8(b:Int)(a:LI):S:=⟨[(7, .own 0),(8,vi b)],[Ai 3 a],[]⟩
def z8:Nat→S→Option R_:=H.i P_ [r,r,r,r,r,r,l,d]
def x10(a:LI):Option R_:=H.e P_ [r,r,r,r,r,r,r] ⟨[(7, .own 0)],[Ai 3 a],[]⟩
def x8(b:Int)(a:LI):Option R_:=H.e P_ [r,r,r,r,r,r,l,d] (t8 b a)
def x7(f:LI)(g:UInt64):Option R_:=H.e P_ [r,r,r,r] ⟨[(0,vl f),(6,vq g)],[],[]⟩
def x6(f:LI)(h:Int):Option R_:=H.e P_ [r,r] ⟨[(0,vl f),(1,vi h)],[],[]⟩
theorem e10:x10=Gy:=by kernel_rfl
theorem i8:∀(q:Nat) (b:Int) (a:LI),z8 q (t8 b a)=Dm q b a:=
 ind (fun _ _=>by kernel_rfl) fun q ih b a=>Eq.trans (b:=Lh x10 (fun b a=>(z8 q) (t8 b a)) b a) (by kernel_rfl) (by rw[Afs];simp only[e10,ih]<;>rfl)
theorem e8:x8=Mi:=by funext b a;exact Eq.trans (by kernel_rfl) ((i8 Cu b a).trans (by rw[As];rfl))
theorem e7:x7=Mj:=Eq.trans (b:=Mh x8) (by kernel_rfl) (by simp only[e8]<;>rfl)
theorem e6:x6=Lz:=Eq.trans (b:=Ml x7) (by kernel_rfl) (by simp only[e7]<;>rfl)
noncomputable def F:=u2 Kv
theorem rn x:H.u P_ x=F x:=Eq.trans (b:=u2 (Ly x6) x) (by kernel_rfl) (by simp only[e6]<;>rfl)
noncomputable def c:Con:=⟨H.p,H.r,F⟩
theorem ok:ConOk P_ gl 136 c:=co H func136 (.cons F171.ok .nil) rn
end F136
namespace F172
abbrev R_:=LI
noncomputable def H:Hd:=⟨[.lf (.list (.list (.int .i64))) none],[Ol 3],(.seq .d (.seq .d (.cut [0,3] [] (.seq .d (.blk (.loop [0,3,9,10,11] [] .d))) (.cut [0,6] [⟨6,[], .own 3 (.int .i64)⟩] (.keep [0,3,6,23,24] true) (.cut [6] [] (.seq .d (.blk (.loop [6,25,26,27] [] .d))) .d))))),⟨[],gl,true⟩,[(199,(.seq .d (.cut [0,1] [] .d .d)))],f172⟩
def t14(a:List LI)(g:Int)(f:LI):S:=⟨[(6, .own 0),(25, .val (.list (.list (.int .i64))) a),(26,vi (Ac a)),(27,vi g)],[Ai 3 f],[]⟩
def z14:Nat→S→Option R_:=H.i P_ [r,r,r,r,l,r,d]
def t9(a:List LI)(b h:Int):S:=⟨[(0, .val (.list (.list (.int .i64))) a),(3,vi b),(9, .val (.list (.list (.int .i64))) a),(10,vi (Ac a)),(11,vi h)],[],[]⟩
def z9:Nat→S→Option R_:=H.i P_ [r,r,l,r,d]
def x16(f:LI):Option R_:=H.e P_ [r,r,r,r,r] ⟨[(6, .own 0)],[Ai 3 f],[]⟩
def x14(a:List LI)(g:Int)(f:LI):Option R_:=H.e P_ [r,r,r,r,l,r,d] (t14 a g f)
def x13(a:List LI)(k:LI):Option R_:=H.e P_ [r,r,r,r] ⟨[(0, .val (.list (.list (.int .i64))) a),(6, .own 0)],[Ai 3 k],[]⟩
def x12(b:Int)(a:List LI):Option R_:=H.e P_ [r,r,r,l,(call 1 199),r,r] ⟨[(0, .nils),(1,vi b)],[],[[(0, .val (.list (.list (.int .i64))) a),(3,vi b),(23,vi b)]]⟩
def x11(a:List LI)(b:Int):Option R_:=H.e P_ [r,r,r] ⟨[(0, .val (.list (.list (.int .i64))) a),(3,vi b)],[],[]⟩
def x9(a:List LI)(b h:Int):Option R_:=H.e P_ [r,r,l,r,d] (t9 a b h)
theorem e16:x16=Tk:=by kernel_rfl
theorem i14(a:List LI):∀(q:Nat) (g:Int) (f:LI),z14 q (t14 a g f)=Dd a q g f:=
 ind (fun _ _=>by kernel_rfl) fun q ih g f=>Eq.trans (b:=Ey x16 (fun g f=>(z14 q) (t14 a g f)) a g f) (by kernel_rfl) (by simp only[e16,ih]<;>rfl)
theorem e14:x14=Lb:=by funext a g f;exact Eq.trans (by kernel_rfl) ((i14 a Cu g f).trans (by rw[As];rfl))
theorem e13:x13=Ha:=Eq.trans (b:=Lc x14) (by kernel_rfl) (by simp only[e14]<;>rfl)
theorem e12:x12=Lf:=Eq.trans (b:=Ld x13) (by kernel_rfl) (by simp only[e13]<;>rfl)
theorem e11:x11=La:=Eq.trans (b:=Lg x12) (by kernel_rfl) (by simp only[e12]<;>rfl)
theorem i9(a:List LI):∀(q:Nat) (b h:Int),z9 q (t9 a b h)=Dq a q b h:=
 ind (fun _ _=>by kernel_rfl) fun q ih b h=>Eq.trans (b:=Ff x11 (fun b h=>(z9 q) (t9 a b h)) a b h) (by kernel_rfl) (by simp only[e11,ih]<;>rfl)
theorem e9:x9=Me:=by funext a b h;exact Eq.trans (by kernel_rfl) ((i9 a Cu b h).trans (by rw[As];rfl))
noncomputable def F:=Kt
theorem rn x:H.u P_ x=F x:=Eq.trans (b:=Mf x9 x) (by kernel_rfl) (by simp only[e9]<;>rfl)
noncomputable def c:Con:=⟨H.p,H.r,F⟩
theorem ok:ConOk P_ gl 172 c:=cr H func172 .nil (AnsOk.cons ent199 AnsOk.nil) rn
end F172
namespace F137
noncomputable def H:Hd:=⟨[Sl,Sl],[Ol 3], .d,⟨[(172,F172.c)],gl,false⟩,[],f137⟩
noncomputable def F:=u2 Aji
theorem rn x:H.u P_ x=F x:=by kernel_rfl
noncomputable def c:Con:=⟨H.p,H.r,F⟩
theorem ok:ConOk P_ gl 137 c:=co H func137 (.cons F172.ok .nil) rn
end F137
namespace F101
noncomputable def H:Hd:=⟨[Si,Si],[Ol 3,Si], .d,⟨[(117,F117.c),(118,F118.c),(136,F136.c),(137,F137.c)],gl,false⟩,[],f101⟩
noncomputable def F:=u2 Ry
theorem rn x:H.u P_ x=F x:=by kernel_rfl
noncomputable def c:Con:=⟨H.p,H.r,F⟩
theorem ok:ConOk P_ gl 101 c:=co H func101 (.cons F117.ok (.cons F118.ok (.cons F136.ok (.cons F137.ok .nil)))) rn
end F101
namespace F155
noncomputable def H:Hd:=⟨[.agg [Si,Si],Sw],[Si], .d,⟨[(63,F63.c),(139,F139.c)],gl,false⟩,[],f155⟩
noncomputable def F:=u3 Ac7
theorem rn x:H.u P_ x=F x:=by kernel_rfl
noncomputable def c:Con:=⟨H.p,H.r,F⟩
theorem ok:ConOk P_ gl 155 c:=co H func155 (.cons F63.ok (.cons F139.ok .nil)) rn
end F155
namespace F183
noncomputable def H:Hd:=⟨[Si,Sw],[Si], .d,⟨[],gl,false⟩,[],f183⟩
noncomputable def F:=u2 Amp
theorem rn x:H.u P_ x=F x:=by kernel_rfl
noncomputable def c:Con:=⟨H.p,H.r,F⟩
theorem ok:ConOk P_ gl 183 c:=co H func183 .nil rn
end F183
namespace F184
def Im(a:LX):Option (LX):=
Bj0 a (
some ([]:LX)) (
(Fj ([]:LX) a).bind fun b=>
some b)
theorem Aba: @Im= @Cr:=by
  unfold Im Cr
  repeat (refine funext fun _=>?_)
  repeat' first
    |with_reducible rfl
    |with_reducible refine Uw ?_ ?_
    |with_reducible refine Us ?_ ?_ ?_
    |with_reducible refine Uy ?_ ?_ ?_ ?_
    |((with_reducible refine Adj ?_ ?_);focus (intro h;first|(subst h;rfl)|(simp only[h];rfl)|(simp[Fj,Ac,h];done)))
    |with_reducible refine Ac9 fun x=>?_
    |with_reducible refine Alh (fun _=>?_) (fun _=>?_)
    |(refine Md (fun h=>by simp only[h,Ada,Ij,Hx,ite_self]) (fun x h=>?_);(try simp only[h,Ij]))
    |(refine Px (fun h=>?_) (fun h=>?_)<;>simp only[h,if_true,if_false,Bool.false_eq_true])
noncomputable def H:Hd:=⟨[Sw],[Ow 21], .d,⟨[],gl,false⟩,[],f184⟩
noncomputable def F:=Cr
theorem rn x:H.u P_ x=F x:=Eq.trans (b:=Im x) (by kernel_rfl) (by rw[Aba];rfl)
noncomputable def c:Con:=⟨H.p,H.r,F⟩
theorem ok:ConOk P_ gl 184 c:=co H func184 .nil rn
end F184
namespace F156
abbrev R_:=(LX×Int)
abbrev K_:=S→Option R_
noncomputable def H:Hd:=⟨[Si,Sw],[Ow 21,Si],(.seq .d (.seq .d (.seq .d (.cut [7] [] (.seq .d (.blk (.loop [0,7,8] [] (.seq .d (.cut [0,7,8] [] (.blk (.keep [0,7,8,24,25,26,27,28,29] true)) .d))))) .d)))),⟨[(183,F183.c),(184,F184.c)],gl,true⟩,[(185,(.seq .d (.cut [0,2] [] (.seq .d (.blk (.loop [0,2,7,8] [] .d))) .d)))],f156⟩
def t17(b a h:Int)(g:LX):S:=⟨[(0, .view true 0 [] (.int .i32) a ((Ad a b)-a)),(2,vi (Ah ((Ad a b)-a) (1:Int))),(7,vi (Ah ((Ad a b)-a) (1:Int))),(8,vi h)],[Aw 21 g],[[(0,vi b),(7, .own 0),(8,vi a),(24, .own 0),(25,vi a),(26,vi a),(27,vi b),(28,vi (Ad a b)),(29, .view true 0 [] (.int .i32) a ((Ad a b)-a))]]⟩
def z17(kn12:K_):Nat→S→Option R_:=H.i P_ [r,r,r,l,r,d,(lp kn12),r,l,d,(call 6 185),r,l,r,d]
def t12(b a:Int)(f:LX):S:=⟨[(0,vi b),(7, .own 0),(8,vi a)],[Aw 21 f],[]⟩
def z12:Nat→S→Option R_:=H.i P_ [r,r,r,l,r,d]
def x22(f:LX):Option R_:=H.e P_ [r,r,r,r] ⟨[(7, .own 0)],[Aw 21 f],[]⟩
def x20(kn12:K_)(b a:Int)(k:LX):Option R_:=H.e P_ [r,r,r,l,r,d,(lp kn12),r,r] ⟨[(0,vi b),(7, .own 0),(8,vi a)],[Aw 21 k],[]⟩
def x19(kn12:K_)(b a:Int)(g:LX):Option R_:=H.e P_ [r,r,r,l,r,d,(lp kn12),r,l,d,(call 6 185),r,r] ⟨[(0, .view true 0 [] (.int .i32) a ((Ad a b)-a)),(2,vi (Ah ((Ad a b)-a) (1:Int)))],[Aw 21 g],[[(0,vi b),(7, .own 0),(8,vi a),(24, .own 0),(25,vi a),(26,vi a),(27,vi b),(28,vi (Ad a b)),(29, .view true 0 [] (.int .i32) a ((Ad a b)-a))]]⟩
def x17(kn12:K_)(b a h:Int)(g:LX):Option R_:=H.e P_ [r,r,r,l,r,d,(lp kn12),r,l,d,(call 6 185),r,l,r,d] (t17 b a h g)
def x12(b a:Int)(f:LX):Option R_:=H.e P_ [r,r,r,l,r,d] (t12 b a f)
theorem e22:x22=Bav:=by kernel_rfl
theorem e20(kn12:K_)(b:Int):x20 kn12 b=Akp (fun a f=>kn12 (t12 b a f)) b:=by kernel_rfl
theorem e19(kn12:K_)(b:Int):x19 kn12 b=Atr (fun a f=>kn12 (t12 b a f)) b:=Eq.trans (b:=Att (x20 kn12 b) b) (by kernel_rfl) (by simp only[e20]<;>rfl)
theorem i17(kn12:K_)(b a:Int):∀(q:Nat) (h:Int) (g:LX),z17 kn12 q (t17 b a h g)=Xt (fun a f=>kn12 (t12 b a f)) b a q h g:=
 ind (fun _ _=>by kernel_rfl) fun q ih h g=>Eq.trans (b:=Aj0 (x19 kn12 b) (fun h g=>(z17 kn12 q) (t17 b a h g)) b a h g) (by kernel_rfl) (by simp only[e19,ih]<;>rfl)
theorem e17(kn12:K_)(b:Int):x17 kn12 b=Baf (fun a f=>kn12 (t12 b a f)) b:=by funext a h g;exact Eq.trans (by kernel_rfl) ((i17 kn12 b a Cu h g).trans (by rw[As];rfl))
theorem i12(b:Int):∀(q:Nat) (a:Int) (f:LX),z12 q (t12 b a f)=Xq b q a f:=
 ind (fun _ _=>by kernel_rfl) fun q ih a f=>Eq.trans (b:=Asr (x17 (z12 q) b) x22 b a f) (by kernel_rfl) (by simp only[e17,e22,ih]<;>rfl)
theorem e12:x12=As1:=by funext b a f;exact Eq.trans (by kernel_rfl) ((i12 b Cu a f).trans (by rw[As];rfl))
noncomputable def F:=u2 Bbr
theorem rn x:H.u P_ x=F x:=Eq.trans (b:=u2 (Awf x12) x) (by kernel_rfl) (by simp only[e12]<;>rfl)
noncomputable def c:Con:=⟨H.p,H.r,F⟩
theorem ok:ConOk P_ gl 156 c:=cr H func156 (.cons F183.ok (.cons F184.ok .nil)) (AnsOk.cons ent185 AnsOk.nil) rn
end F156
namespace F186
abbrev R_:=(Int×LX×LX×Int)
noncomputable def H:Hd:=⟨[Si, .lf (.vec 16 (.int .i32)) none],[.agg [Si, .lf (.vec 16 (.int .i32)) none, .lf (.vec 16 (.int .i32)) none],Si],(.seq .d (.seq .d (.seq (.seq .d (.blk (.cut [4,6,9,11] [] .d .d))) .d))),⟨[],gl,false⟩,[],f186⟩
def x2(a:Int)(b:LX)(f:Bool):Option R_:=H.e P_ [r,r,l,r,d,r] ⟨[(4, .ptr 0 []),(6, .ptr 1 []),(9,vi a),(11,vt f)],[.box 222 (.agg [vi 0, .val (.vec 16 (.int .i32)) (List.replicate 16 (0:Int32)), .val (.vec 16 (.int .i32)) (List.replicate 16 (0:Int32))]), .box 222 (.agg [vi 10, .val (.vec 16 (.int .i32)) b, .val (.vec 16 (.int .i32)) (List.replicate 16 (0:Int32))])],[]⟩
theorem e2:x2=Baz:=by kernel_rfl
noncomputable def F:=u2 Awv
theorem rn x:H.u P_ x=F x:=Eq.trans (b:=u2 (Bam x2) x) (by kernel_rfl) (by simp only[e2]<;>rfl)
noncomputable def c:Con:=⟨H.p,H.r,F⟩
theorem ok:ConOk P_ gl 186 c:=co H func186 .nil rn
end F186
namespace F157
noncomputable def H:Hd:=⟨[Si, .lf (.vec 16 (.int .i32)) none],[.agg [Si,Sx, .agg [Si, .lf (.vec 16 (.int .i32)) none, .lf (.vec 16 (.int .i32)) none]],Si], .d,⟨[(186,F186.c)],gl,false⟩,[],f157⟩
noncomputable def F:=u2 Azt
theorem rn x:H.u P_ x=F x:=by kernel_rfl
noncomputable def c:Con:=⟨H.p,H.r,F⟩
theorem ok:ConOk P_ gl 157 c:=co H func157 (.cons F186.ok .nil) rn
end F157
namespace F187
noncomputable def H:Hd:=⟨[.agg [Si,Sx, .agg [Si, .lf (.vec 16 (.int .i32)) none, .lf (.vec 16 (.int .i32)) none]]],[Si], .d,⟨[(186,F186.c)],gl,false⟩,[],f187⟩
noncomputable def F:=u5 Rt
theorem rn x:H.u P_ x=F x:=by kernel_rfl
noncomputable def c:Con:=⟨H.p,H.r,F⟩
theorem ok:ConOk P_ gl 187 c:=co H func187 (.cons F186.ok .nil) rn
end F187
namespace F204
noncomputable def H:Hd:=⟨[Si],[Si,Si], .d,⟨[],gl,false⟩,[],f204⟩
noncomputable def F:=Ar1
theorem rn x:H.u P_ x=F x:=by kernel_rfl
noncomputable def c:Con:=⟨H.p,H.r,F⟩
theorem ok:ConOk P_ gl 204 c:=co H func204 .nil rn
end F204
namespace F205
noncomputable def H:Hd:=⟨[Si,Sx],[Sx], .d,⟨[],gl,false⟩,[],f205⟩
noncomputable def F:=u2 Akl
theorem rn x:H.u P_ x=F x:=by kernel_rfl
noncomputable def c:Con:=⟨H.p,H.r,F⟩
theorem ok:ConOk P_ gl 205 c:=co H func205 .nil rn
end F205
namespace F188
noncomputable def H:Hd:=⟨[Si,Sx],[Sx,Si], .d,⟨[(204,F204.c),(205,F205.c)],gl,false⟩,[],f188⟩
noncomputable def F:=u2 Rj
theorem rn x:H.u P_ x=F x:=by kernel_rfl
noncomputable def c:Con:=⟨H.p,H.r,F⟩
theorem ok:ConOk P_ gl 188 c:=co H func188 (.cons F204.ok (.cons F205.ok .nil)) rn
end F188
namespace F210
noncomputable def H:Hd:=⟨[.agg [Si, .lf (.vec 16 (.int .i32)) none, .lf (.vec 16 (.int .i32)) none]],[Si], .d,⟨[],gl,false⟩,[],f210⟩
noncomputable def F:=u3 Acw
theorem rn x:H.u P_ x=F x:=by kernel_rfl
noncomputable def c:Con:=⟨H.p,H.r,F⟩
theorem ok:ConOk P_ gl 210 c:=co H func210 .nil rn
end F210
namespace F206
abbrev R_:=(Int32×Int)
noncomputable def H:Hd:=⟨[.agg [Si, .lf (.vec 16 (.int .i32)) none, .lf (.vec 16 (.int .i32)) none]],[Sx,Si],(.seq .d (.seq .d (.seq .d (.cut [1,5] [] (.seq .d (.blk (.loop [1,5,18,19] [] .d))) .d)))),⟨[(210,F210.c)],gl,false⟩,[],f206⟩
def t4(b:LX)(a:Int)(f:LX)(g:Int32)(h:Int):S:=⟨[(1, .ptr 0 []),(5,vx g),(18, .val (.vec 16 (.int .i32)) b),(19,vi h)],[.box 222 (.agg [vi a, .val (.vec 16 (.int .i32)) b, .val (.vec 16 (.int .i32)) f])],[]⟩
def z4:Nat→S→Option R_:=H.i P_ [r,r,r,l,r,d]
def x6(g:Int32)(a:Int)(b f:LX):Option R_:=H.e P_ [r,r,r,r] ⟨[(1, .ptr 0 []),(5,vx g)],[.box 222 (.agg [vi a, .val (.vec 16 (.int .i32)) b, .val (.vec 16 (.int .i32)) f])],[]⟩
def x4(b:LX)(a:Int)(f:LX)(g:Int32)(h:Int):Option R_:=H.e P_ [r,r,r,l,r,d] (t4 b a f g h)
theorem e6:x6=Aly:=by kernel_rfl
theorem i4(b:LX)(a:Int)(f:LX):∀(q:Nat) (g:Int32) (h:Int),z4 q (t4 b a f g h)=Py b a f q g h:=
 ind (fun _ _=>by kernel_rfl) fun q ih g h=>Eq.trans (b:=Adg x6 (fun g h=>(z4 q) (t4 b a f g h)) b a f g h) (by kernel_rfl) (by simp only[e6,ih]<;>rfl)
theorem e4:x4=Al0:=by funext b a f g h;exact Eq.trans (by kernel_rfl) ((i4 b a f Cu g h).trans (by rw[As];rfl))
noncomputable def F:=u3 Ain
theorem rn x:H.u P_ x=F x:=Eq.trans (b:=u3 (Al7 x4) x) (by kernel_rfl) (by simp only[e4]<;>rfl)
noncomputable def c:Con:=⟨H.p,H.r,F⟩
theorem ok:ConOk P_ gl 206 c:=co H func206 (.cons F210.ok .nil) rn
end F206
namespace F215
noncomputable def H:Hd:=⟨[Si],[Sx], .d,⟨[],gl,false⟩,[],f215⟩
noncomputable def F:=Anm
theorem rn x:H.u P_ x=F x:=by kernel_rfl
noncomputable def c:Con:=⟨H.p,H.r,F⟩
theorem ok:ConOk P_ gl 215 c:=co H func215 .nil rn
end F215
namespace F211
abbrev R_:=(Int×LX×LX×Int)
noncomputable def H:Hd:=⟨[.agg [Si, .lf (.vec 16 (.int .i32)) none, .lf (.vec 16 (.int .i32)) none],Sx],[.agg [Si, .lf (.vec 16 (.int .i32)) none, .lf (.vec 16 (.int .i32)) none],Si],(.seq .d (.seq .d (.seq .d (.cut [2,4] [] (.seq .d (.blk (.loop [1,2,4,19,20] [] .d))) .d)))),⟨[(210,F210.c),(215,F215.c)],gl,false⟩,[],f211⟩
def t4(h:Int32)(f:LX)(g a:Int)(b:LX):S:=⟨[(1,vx h),(2, .ptr 0 []),(4, .ptr 1 []),(19, .val (.vec 16 (.int .i32)) f),(20,vi a)],[.box 222 (.agg [vi g, .val (.vec 16 (.int .i32)) b, .val (.vec 16 (.int .i32)) f]), .box 222 (.agg [vi 0, .val (.vec 16 (.int .i32)) (List.replicate 16 (0:Int32)), .val (.vec 16 (.int .i32)) (List.replicate 16 (0:Int32))])],[]⟩
def z4:Nat→S→Option R_:=H.i P_ [r,r,r,l,r,d]
def x6(g:Int)(b f:LX):Option R_:=H.e P_ [r,r,r,r] ⟨[(2, .ptr 0 []),(4, .ptr 1 [])],[.box 222 (.agg [vi g, .val (.vec 16 (.int .i32)) b, .val (.vec 16 (.int .i32)) f]), .box 222 (.agg [vi 0, .val (.vec 16 (.int .i32)) (List.replicate 16 (0:Int32)), .val (.vec 16 (.int .i32)) (List.replicate 16 (0:Int32))])],[]⟩
def x4(h:Int32)(f:LX)(g a:Int)(b:LX):Option R_:=H.e P_ [r,r,r,l,r,d] (t4 h f g a b)
theorem e6:x6=Au7:=by kernel_rfl
theorem i4(h:Int32)(f:LX)(g:Int):∀(q:Nat) (a:Int) (b:LX),z4 q (t4 h f g a b)=Qc h f g q a b:=
 ind (fun _ _=>by kernel_rfl) fun q ih a b=>Eq.trans (b:=Adc x6 (fun a b=>(z4 q) (t4 h f g a b)) h f g a b) (by kernel_rfl) (by simp only[e6,ih]<;>rfl)
theorem e4:x4=Au2:=by funext h f g a b;exact Eq.trans (by kernel_rfl) ((i4 h f g Cu a b).trans (by rw[As];rfl))
noncomputable def F:=u4 Aoa
theorem rn x:H.u P_ x=F x:=Eq.trans (b:=u4 (All x4) x) (by kernel_rfl) (by simp only[e4]<;>rfl)
noncomputable def c:Con:=⟨H.p,H.r,F⟩
theorem ok:ConOk P_ gl 211 c:=co H func211 (.cons F210.ok (.cons F215.ok .nil)) rn
end F211
namespace F212
def Alb(j2:Int32→Int→LX→LX→Option (Int×LX×LX×Int))(b:Int)(f a:LX)(g:Int32):Option (Int×LX×LX×Int):=
(Acw b f a).bind fun h=>
if(Bf h 0)then
some (0,(List.replicate 16 (0:Int32)),(List.replicate 16 (0:Int32)),h)
else
both (
(vwI 16 1 16).bind fun _=>
(vwI 16 0 16).bind fun _=>
j2 g b f a) [
(vwI 16 0 16).bind fun _=>
(vwI 16 1 16).bind fun _=>
j2 g b f a]
theorem Ay4: @Alb= @Agy:=by
  unfold Alb Agy
  repeat (refine funext fun _=>?_)
  repeat' first
    |with_reducible rfl
    |with_reducible refine Uw ?_ ?_
    |with_reducible refine Us ?_ ?_ ?_
    |with_reducible refine Uy ?_ ?_ ?_ ?_
    |((with_reducible refine Adj ?_ ?_);focus (intro h;first|(subst h;rfl)|(simp only[h];rfl)|(simp[Fj,Ac,h];done)))
    |with_reducible refine Ac9 fun x=>?_
    |with_reducible refine Alh (fun _=>?_) (fun _=>?_)
    |(refine Md (fun h=>by simp only[h,Ada,Ij,Hx,ite_self]) (fun x h=>?_);(try simp only[h,Ij]))
    |(refine Px (fun h=>?_) (fun h=>?_)<;>simp only[h,if_true,if_false,Bool.false_eq_true])
abbrev R_:=(Int×LX×LX×Int)
noncomputable def H:Hd:=⟨[.agg [Si, .lf (.vec 16 (.int .i32)) none, .lf (.vec 16 (.int .i32)) none],Sx],[.agg [Si, .lf (.vec 16 (.int .i32)) none, .lf (.vec 16 (.int .i32)) none],Si],(.seq .d (.seq .d (.cut [1,2,4] [] .d .d))),⟨[(210,F210.c)],gl,false⟩,[],f212⟩
def x2(g:Int32)(b:Int)(f a:LX):Option R_:=H.e P_ [r,r,r] ⟨[(1,vx g),(2, .ptr 0 []),(4, .ptr 1 [])],[.box 222 (.agg [vi b, .val (.vec 16 (.int .i32)) f, .val (.vec 16 (.int .i32)) (Ql a (1:Int) ((16:Int)-(1:Int)) (Ajv a (0:Int) ((16:Int)-(0:Int))))]), .box 222 (.agg [vi 0, .val (.vec 16 (.int .i32)) (List.replicate 16 (0:Int32)), .val (.vec 16 (.int .i32)) (List.replicate 16 (0:Int32))])],[]⟩
theorem e2:x2=An3:=by kernel_rfl
noncomputable def F:=u4 At1
theorem rn x:H.u P_ x=F x:=Eq.trans (b:=u4 (Alb x2) x) (by kernel_rfl) (by unfold F;rw[Ay4];simp only[e2]<;>rfl)
noncomputable def c:Con:=⟨H.p,H.r,F⟩
theorem ok:ConOk P_ gl 212 c:=co H func212 (.cons F210.ok .nil) rn
end F212
namespace F207
noncomputable def H:Hd:=⟨[.agg [Si, .lf (.vec 16 (.int .i32)) none, .lf (.vec 16 (.int .i32)) none],Sx,Sx],[.agg [Si, .lf (.vec 16 (.int .i32)) none, .lf (.vec 16 (.int .i32)) none]], .d,⟨[(211,F211.c),(212,F212.c)],gl,false⟩,[],f207⟩
noncomputable def F:=u5 Ajn
theorem rn x:H.u P_ x=F x:=by kernel_rfl
noncomputable def c:Con:=⟨H.p,H.r,F⟩
theorem ok:ConOk P_ gl 207 c:=co H func207 (.cons F211.ok (.cons F212.ok .nil)) rn
end F207
namespace F189
noncomputable def H:Hd:=⟨[.agg [Si, .lf (.vec 16 (.int .i32)) none, .lf (.vec 16 (.int .i32)) none],Sx],[Sx, .agg [Si, .lf (.vec 16 (.int .i32)) none, .lf (.vec 16 (.int .i32)) none],Si], .d,⟨[(206,F206.c),(207,F207.c)],gl,false⟩,[],f189⟩
noncomputable def F:=u4 Aj4
theorem rn x:H.u P_ x=F x:=by kernel_rfl
noncomputable def c:Con:=⟨H.p,H.r,F⟩
theorem ok:ConOk P_ gl 189 c:=co H func189 (.cons F206.ok (.cons F207.ok .nil)) rn
end F189
namespace F158
def Aa3(a:Int)(b:Int32)(f:Int)(g h:LX)(k:Int32):Option (Int32×Int×Int32×Int×LX×LX×Int):=
(Rt a b f g h).bind fun m=>
if(Bf m 0)then
some (0,0,0,0,(List.replicate 16 (0:Int32)),(List.replicate 16 (0:Int32)),m)
else
(Rj a b).bind fun(n,y)=>
(Aj4 f g h (Ah k n)).bind fun(o,p,u,v,w)=>
bo (
some (o,a,k,p,u,v,w))
theorem Asx: @Aa3= @Pu:=by
  unfold Aa3 Pu
  simp only[Ba5,Ar3,Ast]
noncomputable def H:Hd:=⟨[.agg [Si,Sx, .agg [Si, .lf (.vec 16 (.int .i32)) none, .lf (.vec 16 (.int .i32)) none]],Sx],[Sx, .agg [Si,Sx, .agg [Si, .lf (.vec 16 (.int .i32)) none, .lf (.vec 16 (.int .i32)) none]],Si],(.seq .d (.seq .d (.seq .d (.seq .d (.seq (.mode false) .d))))),⟨[(187,F187.c),(188,F188.c),(189,F189.c)],gl,false⟩,[],f158⟩
noncomputable def F:=u6 Pu
theorem rn x:H.u P_ x=F x:=Eq.trans (b:=u6 Aa3 x) (by kernel_rfl) (by rw[Asx];rfl)
noncomputable def c:Con:=⟨H.p,H.r,F⟩
theorem ok:ConOk P_ gl 158 c:=co H func158 (.cons F187.ok (.cons F188.ok (.cons F189.ok .nil))) rn
end F158
namespace F159
noncomputable def H:Hd:=⟨[Sx],[Su], .d,⟨[],gl,false⟩,[],f159⟩
noncomputable def F:=At6
theorem rn x:H.u P_ x=F x:=by kernel_rfl
noncomputable def c:Con:=⟨H.p,H.r,F⟩
theorem ok:ConOk P_ gl 159 c:=co H func159 .nil rn
end F159
namespace F125
abbrev R_:=(LU×Int)
noncomputable def H:Hd:=⟨[.agg [Si,Si], .lf (.vec 16 (.int .i32)) none,Sw],[Ov 60,Si],(.seq .d (.seq .d (.seq .d (.seq .d (.seq .d (.cut [3,9,11] [] (.seq .d (.blk (.loop [3,4,9,11,36] [] .d))) (.seq .d (.cut [13] [] (.seq .d (.blk (.loop [3,11,13,49,50,51] [⟨13,[], .own 60 (.int .u32)⟩] .d))) .d)))))))),⟨[(155,F155.c),(156,F156.c),(157,F157.c),(158,F158.c),(159,F159.c)],gl,false⟩,[],f125⟩
def t10(b:LX)(a f g:Int)(o:List (Int×Int32×(Int×LX×LX×Unit)×Unit))(k:LU):S:=⟨[(3, .ptr 0 []),(11, .ptr 1 []),(13, .own 2),(49, .own 3),(50,vi (Ac b)),(51,vi g)],[.box 74 (.agg [vi a,vi f]), .box 225 (.val (.vec 6 (.cons (.int .i64) (.cons (.int .i32) (.cons (.cons (.int .i64) (.cons (.vec 16 (.int .i32)) (.cons (.vec 16 (.int .i32)) .nil))) .nil)))) o),Av 60 k,Aw 21 b],[]⟩
def z10:Nat→S→Option R_:=H.i P_ [r,r,r,r,r,r,r,l,r,d]
def t7(a f:Int)(m b:LX)(n:Int)(h:List (Int×Int32×(Int×LX×LX×Unit)×Unit)):S:=⟨[(3, .ptr 0 []),(4, .ptr 1 []),(9, .own 2),(11, .ptr 3 []),(36,vi n)],[.box 74 (.agg [vi a,vi f]), .box 136 (.val (.vec 16 (.int .i32)) m),Aw 21 b, .box 225 (.val (.vec 6 (.cons (.int .i64) (.cons (.int .i32) (.cons (.cons (.int .i64) (.cons (.vec 16 (.int .i32)) (.cons (.vec 16 (.int .i32)) .nil))) .nil)))) h)],[]⟩
def z7:Nat→S→Option R_:=H.i P_ [r,r,r,r,r,l,r,d]
def x12(k:LU):Option R_:=H.e P_ [r,r,r,r,r,r,r,r] ⟨[(13, .own 0)],[Av 60 k],[]⟩
def x10(b:LX)(a f g:Int)(o:List (Int×Int32×(Int×LX×LX×Unit)×Unit))(k:LU):Option R_:=H.e P_ [r,r,r,r,r,r,r,l,r,d] (t10 b a f g o k)
def x9(a f:Int)(b:LX)(h:List (Int×Int32×(Int×LX×LX×Unit)×Unit)):Option R_:=H.e P_ [r,r,r,r,r,r] ⟨[(3, .ptr 0 []),(9, .own 1),(11, .ptr 2 [])],[.box 74 (.agg [vi a,vi f]),Aw 21 b, .box 225 (.val (.vec 6 (.cons (.int .i64) (.cons (.int .i32) (.cons (.cons (.int .i64) (.cons (.vec 16 (.int .i32)) (.cons (.vec 16 (.int .i32)) .nil))) .nil)))) h)],[]⟩
def x7(a f:Int)(m b:LX)(n:Int)(h:List (Int×Int32×(Int×LX×LX×Unit)×Unit)):Option R_:=H.e P_ [r,r,r,r,r,l,r,d] (t7 a f m b n h)
theorem e12:x12=Ai3:=by kernel_rfl
theorem i10(b:LX)(a f:Int):∀(q:Nat) (g:Int) (o:List (Int×Int32×(Int×LX×LX×Unit)×Unit)) (k:LU),z10 q (t10 b a f g o k)=Hu b a f q g o k:=
 ind (fun _ _ _=>by kernel_rfl) fun q ih g o k=>Eq.trans (b:=Oe x12 (fun g o k=>(z10 q) (t10 b a f g o k)) b a f g o k) (by kernel_rfl) (by simp only[e12,ih]<;>rfl)
theorem e10:x10=Ai8:=by funext b a f g o k;exact Eq.trans (by kernel_rfl) ((i10 b a f Cu g o k).trans (by rw[As];rfl))
theorem e9:x9=Yy:=Eq.trans (b:=Aku x10) (by kernel_rfl) (by simp only[e10]<;>rfl)
theorem i7(a f:Int)(m b:LX):∀(q:Nat) (n:Int) (h:List (Int×Int32×(Int×LX×LX×Unit)×Unit)),z7 q (t7 a f m b n h)=Zo a f m b q n h:=
 ind (fun _ _=>by kernel_rfl) fun q ih n h=>Eq.trans (b:=Akx x9 (fun n h=>(z7 q) (t7 a f m b n h)) a f m b n h) (by kernel_rfl) (by simp only[e9,ih]<;>rfl)
theorem e7:x7=Qx:=by funext a f m b n h;exact Eq.trans (by kernel_rfl) ((i7 a f m b Cu n h).trans (by rw[As];rfl))
noncomputable def F:=u4 Yo
theorem rn x:H.u P_ x=F x:=Eq.trans (b:=u4 (Aap x7) x) (by kernel_rfl) (by simp only[e7]<;>rfl)
noncomputable def c:Con:=⟨H.p,H.r,F⟩
theorem ok:ConOk P_ gl 125 c:=co H func125 (.cons F155.ok (.cons F156.ok (.cons F157.ok (.cons F158.ok (.cons F159.ok .nil))))) rn
end F125
namespace F160
noncomputable def H:Hd:=⟨[],[.agg [Si,Si,Sq,Sq]], .d,⟨[],gl,false⟩,[],f160⟩
noncomputable def F(x:Unit):=Awh
theorem rn x:H.u P_ x=F x:=by kernel_rfl
noncomputable def c:Con:=⟨H.p,H.r,F⟩
theorem ok:ConOk P_ gl 160 c:=co H func160 .nil rn
end F160
namespace F126
abbrev R_:=((List (Int×Int×UInt64×UInt64×Unit)))
noncomputable def H:Hd:=⟨[],[.lf (.vec 6 (.cons (.int .i64) (.cons (.int .i64) (.cons (.int .u64) (.cons (.int .u64) .nil))))) none],(.seq .d (.seq .d (.cut [0,1] [] (.seq .d (.blk (.loop [0,1,3] [] .d))) .d))),⟨[(160,F160.c)],gl,false⟩,[],f126⟩
def t4(b:Int)(a:List (Int×Int×UInt64×UInt64×Unit)):S:=⟨[(0, .ptr 0 []),(1, .ptr 1 []),(3,vi b)],[.box 185 (.val (.vec 6 (.cons (.int .i64) (.cons (.int .i64) (.cons (.int .u64) (.cons (.int .u64) .nil))))) (List.replicate 6 ((0:Int),(0:Int),(0:UInt64),(0:UInt64),()))), .box 185 (.val (.vec 6 (.cons (.int .i64) (.cons (.int .i64) (.cons (.int .u64) (.cons (.int .u64) .nil))))) a)],[]⟩
def z4:Nat→S→Option R_:=H.i P_ [r,r,l,r,d]
def x6(a:List (Int×Int×UInt64×UInt64×Unit)):Option R_:=H.e P_ [r,r,r] ⟨[(0, .ptr 0 []),(1, .ptr 1 [])],[.box 185 (.val (.vec 6 (.cons (.int .i64) (.cons (.int .i64) (.cons (.int .u64) (.cons (.int .u64) .nil))))) (List.replicate 6 ((0:Int),(0:Int),(0:UInt64),(0:UInt64),()))), .box 185 (.val (.vec 6 (.cons (.int .i64) (.cons (.int .i64) (.cons (.int .u64) (.cons (.int .u64) .nil))))) a)],[]⟩
def x4(b:Int)(a:List (Int×Int×UInt64×UInt64×Unit)):Option R_:=H.e P_ [r,r,l,r,d] (t4 b a)
theorem e6:x6=Ajz:=by kernel_rfl
theorem i4:∀(q:Nat) (b:Int) (a:List (Int×Int×UInt64×UInt64×Unit)),z4 q (t4 b a)=Aao q b a:=
 ind (fun _ _=>by kernel_rfl) fun q ih b a=>Eq.trans (b:=Aj3 x6 (fun b a=>(z4 q) (t4 b a)) b a) (by kernel_rfl) (by simp only[e6,ih]<;>rfl)
theorem e4:x4=Ye:=by funext b a;exact Eq.trans (by kernel_rfl) ((i4 Cu b a).trans (by rw[As];rfl))
noncomputable def F(x:Unit):=Aam
theorem rn x:H.u P_ x=F x:=Eq.trans (b:=Aan x4) (by kernel_rfl) (by simp only[e4]<;>rfl)
noncomputable def c:Con:=⟨H.p,H.r,F⟩
theorem ok:ConOk P_ gl 126 c:=co H func126 (.cons F160.ok .nil) rn
end F126
namespace F161
noncomputable def H:Hd:=⟨[.agg [Sb,Si]],[Si], .d,⟨[],gl,false⟩,[],f161⟩
noncomputable def F:=u2 Ge
theorem rn x:H.u P_ x=F x:=by kernel_rfl
noncomputable def c:Con:=⟨H.p,H.r,F⟩
theorem ok:ConOk P_ gl 161 c:=co H func161 .nil rn
end F161
namespace F162
def Ai6(j4:Int→Int→UInt64→UInt64→Option Int)(a b:Int)(f g:UInt64):Option Int:=
both (
bo (
j4 a b f g)) [
j4 a b f g]
theorem Axo: @Ai6= @Adi:=by
  unfold Ai6 Adi
  repeat (refine funext fun _=>?_)
  repeat' first
    |with_reducible rfl
    |with_reducible refine Uw ?_ ?_
    |with_reducible refine Us ?_ ?_ ?_
    |with_reducible refine Uy ?_ ?_ ?_ ?_
    |((with_reducible refine Adj ?_ ?_);focus (intro h;first|(subst h;rfl)|(simp only[h];rfl)|(simp[Fj,Ac,h];done)))
    |with_reducible refine Ac9 fun x=>?_
    |with_reducible refine Alh (fun _=>?_) (fun _=>?_)
    |(refine Md (fun h=>by simp only[h,Ada,Ij,Hx,ite_self]) (fun x h=>?_);(try simp only[h,Ij]))
    |(refine Px (fun h=>?_) (fun h=>?_)<;>simp only[h,if_true,if_false,Bool.false_eq_true])
def Ahw(j3:Int→Int→UInt64→UInt64→Option Int)(a b:Int)(f g:UInt64):Option Int:=
both (
bo (
j3 a b f g)) [
j3 a b f g]
theorem Awy: @Ahw= @Ac8:=by
  unfold Ahw Ac8
  repeat (refine funext fun _=>?_)
  repeat' first
    |with_reducible rfl
    |with_reducible refine Uw ?_ ?_
    |with_reducible refine Us ?_ ?_ ?_
    |with_reducible refine Uy ?_ ?_ ?_ ?_
    |((with_reducible refine Adj ?_ ?_);focus (intro h;first|(subst h;rfl)|(simp only[h];rfl)|(simp[Fj,Ac,h];done)))
    |with_reducible refine Ac9 fun x=>?_
    |with_reducible refine Alh (fun _=>?_) (fun _=>?_)
    |(refine Md (fun h=>by simp only[h,Ada,Ij,Hx,ite_self]) (fun x h=>?_);(try simp only[h,Ij]))
    |(refine Px (fun h=>?_) (fun h=>?_)<;>simp only[h,if_true,if_false,Bool.false_eq_true])
abbrev R_:=Int
noncomputable def H:Hd:=⟨[.agg [Si,Si,Sq,Sq]],[Si],(.seq .d (.seq .d (.cut [1,3] [] (.mode false) (.cut [1,3] [] (.mode false) .d)))),⟨[],gl,false⟩,[],f162⟩
def x4(a b:Int)(f g:UInt64):Option R_:=H.e P_ [r,r,r,r] ⟨[(1, .ptr 0 []),(3, .ptr 1 [])],[.box 184 (.agg [vi a,vi b,vq f,vq g]), .box 184 (.agg [vi (Da (Auq a (0:Int)) (24:Int)),vi (Da (Auq b (0:Int)) (24:Int)),vq (Da f (68719476735:UInt64)),vq (Da g (68719476735:UInt64))])],[]⟩
def x3(a b:Int)(f g:UInt64):Option R_:=H.e P_ [r,r,r] ⟨[(1, .ptr 0 []),(3, .ptr 1 [])],[.box 184 (.agg [vi a,vi b,vq f,vq g]), .box 184 (.agg [vi (Da (Auq a (0:Int)) (24:Int)),vi (Da (Auq b (0:Int)) (24:Int)),vq f,vq g])],[]⟩
theorem e4:x4=Alc:=by kernel_rfl
theorem e3:x3=Alq:=Eq.trans (b:=Ai6 x4) (by kernel_rfl) (by rw[Axo];simp only[e4]<;>rfl)
noncomputable def F:=u4 Aii
theorem rn x:H.u P_ x=F x:=Eq.trans (b:=u4 (Ahw x3) x) (by kernel_rfl) (by unfold F;rw[Awy];simp only[e3]<;>rfl)
noncomputable def c:Con:=⟨H.p,H.r,F⟩
theorem ok:ConOk P_ gl 162 c:=co H func162 .nil rn
end F162
namespace F163
noncomputable def H:Hd:=⟨[.agg [Si,Si,Sq,Sq],Su],[Si,Su], .d,⟨[],gl,false⟩,[],f163⟩
noncomputable def F:=u5 Aco
theorem rn x:H.u P_ x=F x:=by kernel_rfl
noncomputable def c:Con:=⟨H.p,H.r,F⟩
theorem ok:ConOk P_ gl 163 c:=co H func163 .nil rn
end F163
namespace F173
def Jz(a:LB):Option (LB):=
Bj0 a (
some ([]:LB)) (
(Fj ([]:LB) a).bind fun b=>
some b)
theorem Adm: @Jz= @Dg:=by
  unfold Jz Dg
  repeat (refine funext fun _=>?_)
  repeat' first
    |with_reducible rfl
    |with_reducible refine Uw ?_ ?_
    |with_reducible refine Us ?_ ?_ ?_
    |with_reducible refine Uy ?_ ?_ ?_ ?_
    |((with_reducible refine Adj ?_ ?_);focus (intro h;first|(subst h;rfl)|(simp only[h];rfl)|(simp[Fj,Ac,h];done)))
    |with_reducible refine Ac9 fun x=>?_
    |with_reducible refine Alh (fun _=>?_) (fun _=>?_)
    |(refine Md (fun h=>by simp only[h,Ada,Ij,Hx,ite_self]) (fun x h=>?_);(try simp only[h,Ij]))
    |(refine Px (fun h=>?_) (fun h=>?_)<;>simp only[h,if_true,if_false,Bool.false_eq_true])
noncomputable def H:Hd:=⟨[Sb],[Ob 5], .d,⟨[],gl,false⟩,[],f173⟩
noncomputable def F:=Dg
theorem rn x:H.u P_ x=F x:=Eq.trans (b:=Jz x) (by kernel_rfl) (by rw[Adm];rfl)
noncomputable def c:Con:=⟨H.p,H.r,F⟩
theorem ok:ConOk P_ gl 173 c:=co H func173 .nil rn
end F173
namespace F190
noncomputable def H:Hd:=⟨[.agg [Sb,Si]],[.agg [Ob 5,Si]], .d,⟨[(173,F173.c)],gl,false⟩,[],f190⟩
noncomputable def F:=u2 Ane
theorem rn x:H.u P_ x=F x:=by kernel_rfl
noncomputable def c:Con:=⟨H.p,H.r,F⟩
theorem ok:ConOk P_ gl 190 c:=co H func190 (.cons F173.ok .nil) rn
end F190
namespace F164
abbrev R_:=(LB×Int×Int)
abbrev K_:=S→Option R_
noncomputable def H:Hd:=⟨[.agg [Sb,Si],Sq,Si],[.agg [Ob 5,Si],Si],(.seq .d (.seq .d (.seq .d (.cut [3,6] [] (.keep [1,2,3,6,40,41] true) .d)))),⟨[(161,F161.c),(190,F190.c)],gl,false⟩,[(191,(.blk (.loop [0,1,2] [] (.seq .d (.blk (.cut [0,1,2] [] .d (.seq .d (.cut [0,1,2,7] [] .d .d))))))))],f164⟩
def t15(b:UInt64)(a:Int)(m:UInt64)(h f:Int)(o:LB):S:=⟨[(0, .ptr 0 []),(1,vq m),(2,vi h)],[.box 188 (.agg [.own 2,vi f]), .box 188 (.agg [.nils,vi 0]),Ab 5 o],[[(1,vq b),(2,vi a),(3, .ptr 0 []),(6, .ptr 1 []),(40,vq b),(41,vi a)]]⟩
def z15:Nat→S→Option R_:=H.i P_ [r,r,r,l,(call 2 191),d]
def t22(b:UInt64)(a:Int)(n:UInt64)(k g:Int)(p:LB):S:=⟨[(0, .ptr 0 []),(1,vq n),(2,vi k)],[.box 188 (.agg [.own 2,vi g]), .box 188 (.agg [.nils,vi 0]),Ab 5 p],[[(1,vq b),(2,vi a),(3, .ptr 0 []),(6, .ptr 1 []),(40,vq b),(41,vi a)]]⟩
def z22:Nat→S→Option R_:=H.i P_ [r,r,r,l,(call 2 191),d]
def x21(f:Int)(o:LB):Option R_:=H.e P_ [r,r,r,r] ⟨[(3, .ptr 0 []),(6, .ptr 1 [])],[.box 188 (.agg [.own 2,vi f]), .box 188 (.agg [.nils,vi 0]),Ab 5 o],[]⟩
def x19(kn15:K_)(b:UInt64)(a:Int)(m:UInt64)(h f:Int)(w:LB):Option R_:=H.e P_ [r,r,r,l,(call 2 191),d,(lp kn15),r,d,r,r,r] ⟨[(0, .ptr 0 []),(1,vq m),(2,vi h),(7,vi (Da h (Ah (8:Int) (Cx f (7:Int)))))],[.box 188 (.agg [.own 2,vi f]), .box 188 (.agg [.nils,vi 0]),Ab 5 w],[[(1,vq b),(2,vi a),(3, .ptr 0 []),(6, .ptr 1 []),(40,vq b),(41,vi a)]]⟩
def x18(kn15:K_)(b:UInt64)(a:Int)(m:UInt64)(h f:Int)(u:LB):Option R_:=H.e P_ [r,r,r,l,(call 2 191),d,(lp kn15),r,d,r] ⟨[(0, .ptr 0 []),(1,vq m),(2,vi h)],[.box 188 (.agg [.own 2,vi f]), .box 188 (.agg [.nils,vi 0]),Ab 5 u],[[(1,vq b),(2,vi a),(3, .ptr 0 []),(6, .ptr 1 []),(40,vq b),(41,vi a)]]⟩
def x15(b:UInt64)(a:Int)(m:UInt64)(h f:Int)(o:LB):Option R_:=H.e P_ [r,r,r,l,(call 2 191),d] (t15 b a m h f o)
def x28(g:Int)(p:LB):Option R_:=H.e P_ [r,r,r,r] ⟨[(3, .ptr 0 []),(6, .ptr 1 [])],[.box 188 (.agg [.own 2,vi g]), .box 188 (.agg [.nils,vi 0]),Ab 5 p],[]⟩
def x26(kn22:K_)(b:UInt64)(a:Int)(n:UInt64)(k g:Int)(y:LB):Option R_:=H.e P_ [r,r,r,l,(call 2 191),d,(lp kn22),r,d,r,r,r] ⟨[(0, .ptr 0 []),(1,vq n),(2,vi k),(7,vi (Da k (Ah (8:Int) (Cx g (7:Int)))))],[.box 188 (.agg [.own 2,vi g]), .box 188 (.agg [.nils,vi 0]),Ab 5 y],[[(1,vq b),(2,vi a),(3, .ptr 0 []),(6, .ptr 1 []),(40,vq b),(41,vi a)]]⟩
def x25(kn22:K_)(b:UInt64)(a:Int)(n:UInt64)(k g:Int)(v:LB):Option R_:=H.e P_ [r,r,r,l,(call 2 191),d,(lp kn22),r,d,r] ⟨[(0, .ptr 0 []),(1,vq n),(2,vi k)],[.box 188 (.agg [.own 2,vi g]), .box 188 (.agg [.nils,vi 0]),Ab 5 v],[[(1,vq b),(2,vi a),(3, .ptr 0 []),(6, .ptr 1 []),(40,vq b),(41,vi a)]]⟩
def x22(b:UInt64)(a:Int)(n:UInt64)(k g:Int)(p:LB):Option R_:=H.e P_ [r,r,r,l,(call 2 191),d] (t22 b a n k g p)
theorem e21:x21=Ao1:=by kernel_rfl
theorem e19(kn15:K_)(b:UInt64)(a:Int):x19 kn15 b a=Ao8 (fun m h f o=>kn15 (t15 b a m h f o)) b a:=by kernel_rfl
theorem e18(kn15:K_)(b:UInt64)(a:Int):x18 kn15 b a=Ag0 (fun m h f o=>kn15 (t15 b a m h f o)) b a:=Eq.trans (b:=Aog (x19 kn15 b a) b a) (by kernel_rfl) (by simp only[e19]<;>rfl)
theorem i15(b:UInt64)(a:Int):∀(q:Nat) (m:UInt64) (h f:Int) (o:LB),z15 q (t15 b a m h f o)=Lw b a q m h f o:=
 ind (fun _ _ _ _=>by kernel_rfl) fun q ih m h f o=>Eq.trans (b:=Agx (x18 (z15 q) b a) x21 b a m h f o) (by kernel_rfl) (by simp only[e18,e21,ih]<;>rfl)
theorem e15:x15=Ayq:=by funext b a m h f o;exact Eq.trans (by kernel_rfl) ((i15 b a Cu m h f o).trans (by rw[As];rfl))
theorem e28:x28=Axy:=by kernel_rfl
theorem e26(kn22:K_)(b:UInt64)(a:Int):x26 kn22 b a=Ax4 (fun n k g p=>kn22 (t22 b a n k g p)) b a:=by kernel_rfl
theorem e25(kn22:K_)(b:UInt64)(a:Int):x25 kn22 b a=Aye (fun n k g p=>kn22 (t22 b a n k g p)) b a:=Eq.trans (b:=Axr (x26 kn22 b a) b a) (by kernel_rfl) (by simp only[e26]<;>rfl)
theorem i22(b:UInt64)(a:Int):∀(q:Nat) (n:UInt64) (k g:Int) (p:LB),z22 q (t22 b a n k g p)=An1 b a q n k g p:=
 ind (fun _ _ _ _=>by kernel_rfl) fun q ih n k g p=>Eq.trans (b:=Ayc (x25 (z22 q) b a) x28 b a n k g p) (by kernel_rfl) (by simp only[e25,e28,ih]<;>rfl)
theorem e22:x22=Axm:=by funext b a n k g p;exact Eq.trans (by kernel_rfl) ((i22 b a Cu n k g p).trans (by rw[As];rfl))
noncomputable def F:=u4 Ajd
theorem rn x:H.u P_ x=F x:=Eq.trans (b:=u4 (Asa x15 x22) x) (by kernel_rfl) (by simp only[e15,e22]<;>rfl)
noncomputable def c:Con:=⟨H.p,H.r,F⟩
theorem ok:ConOk P_ gl 164 c:=cr H func164 (.cons F161.ok (.cons F190.ok .nil)) (AnsOk.cons ent191 AnsOk.nil) rn
end F164
namespace F192
noncomputable def H:Hd:=⟨[Su,Si],[Sz], .d,⟨[],gl,false⟩,[],f192⟩
noncomputable def F:=u2 Sy
theorem rn x:H.u P_ x=F x:=by kernel_rfl
noncomputable def c:Con:=⟨H.p,H.r,F⟩
theorem ok:ConOk P_ gl 192 c:=co H func192 .nil rn
end F192
namespace F208
noncomputable def H:Hd:=⟨[Si],[Si,Si], .d,⟨[],gl,false⟩,[],f208⟩
noncomputable def F:=Apk
theorem rn x:H.u P_ x=F x:=by kernel_rfl
noncomputable def c:Con:=⟨H.p,H.r,F⟩
theorem ok:ConOk P_ gl 208 c:=co H func208 .nil rn
end F208
namespace F193
noncomputable def H:Hd:=⟨[.agg [Sb,Si],Si],[.agg [Ob 5,Si],Si], .d,⟨[(161,F161.c),(164,F164.c),(208,F208.c)],gl,false⟩,[],f193⟩
noncomputable def F:=u3 Akv
theorem rn x:H.u P_ x=F x:=by kernel_rfl
noncomputable def c:Con:=⟨H.p,H.r,F⟩
theorem ok:ConOk P_ gl 193 c:=co H func193 (.cons F161.ok (.cons F164.ok (.cons F208.ok .nil))) rn
end F193
namespace F165
abbrev R_:=(LB×Int×Int)
noncomputable def H:Hd:=⟨[.agg [Sb,Si],Su,Si],[.agg [Ob 5,Si],Si],(.seq .d (.seq .d (.seq .d (.seq .d (.cut [3,6,9,10,11] [] .d .d))))),⟨[(161,F161.c),(164,F164.c),(192,F192.c),(193,F193.c)],gl,false⟩,[],f165⟩
def x2(b:LB)(f h:Int)(k:UInt32)(m:Int):Option R_:=H.e P_ [r,r,r,r,r] ⟨[(3, .ptr 0 []),(6, .ptr 1 []),(9,vi h),(10,vu k),(11,vi m)],[.box 188 (.agg [vb b,vi f]), .box 188 (.agg [.nils,vi 0])],[]⟩
theorem e2:x2=Ac3:=by kernel_rfl
noncomputable def F:=u4 Aop
theorem rn x:H.u P_ x=F x:=Eq.trans (b:=u4 (Al1 x2) x) (by kernel_rfl) (by simp only[e2]<;>rfl)
noncomputable def c:Con:=⟨H.p,H.r,F⟩
theorem ok:ConOk P_ gl 165 c:=co H func165 (.cons F161.ok (.cons F164.ok (.cons F192.ok (.cons F193.ok .nil)))) rn
end F165
namespace F127
def Afy(k u n:Int)(a:UInt64)(b:UInt32)(o:UInt64)(m:LB):Option (LB×Int×Int×Int×UInt64×UInt64×Int):=
(fun af:Option (LB×Int×Int×Int×UInt64×UInt64×Int)=>
both (
bo (
af)) [
af]) (
some (m,k,u,n,(Ad a (Ah (Ae b:UInt64) (Bl a (GI.toZ (4:UInt64)).toNat))),o,0))
theorem Av5: @Afy= @Aa5:=by
  unfold Afy Aa5
  try simp only[Ba5,Ar3,Ast]
  all_goals
    repeat (refine funext fun _=>?_)
    repeat' first
      |with_reducible rfl
      |with_reducible refine Uw ?_ ?_
      |with_reducible refine Us ?_ ?_ ?_
      |with_reducible refine Uy ?_ ?_ ?_ ?_
      |((with_reducible refine Adj ?_ ?_);focus (intro h;first|(subst h;rfl)|(simp only[h];rfl)|(simp[Fj,Ac,h];done)))
      |with_reducible refine Ac9 fun x=>?_
      |with_reducible refine Alh (fun _=>?_) (fun _=>?_)
      |(refine Md (fun h=>by simp only[h,Ada,Ij,Hx,ite_self]) (fun x h=>?_);(try simp only[h,Ij]))
      |(refine Px (fun h=>?_) (fun h=>?_)<;>simp only[h,if_true,if_false,Bool.false_eq_true])
abbrev R_:=(LB×Int×Int×Int×UInt64×UInt64×Int)
noncomputable def H:Hd:=⟨[.agg [Sb,Si], .agg [Si,Si,Sq,Sq],Su],[.agg [Ob 5,Si], .agg [Si,Si,Sq,Sq],Si],(.seq .d (.cut [2,3,4,6,7] [] .d (.seq .d (.seq .d (.cut [2,3,4,6,7,11] [] .d (.seq .d (.cut [3,4,6,7] [] (.keep [2,3,4,6,7,65] true) (.seq (.mode false) .d)))))))),⟨[(161,F161.c),(162,F162.c),(163,F163.c),(164,F164.c),(165,F165.c)],gl,false⟩,[(166,(.seq .d (.seq .d (.seq .d (.blk (.cut [0,1,4] [] (.blk (.seq .d (.keep [0,1,4,6,18,19,20,21,22,23,24,25] true))) (.cut [] [] (.keep [0,1,4,27,28,29,30,31,32,33,34] true) .d))))))),(194, .d)],f127⟩
def x10(k u n:Int)(a:UInt64)(b:UInt32)(o:UInt64)(m:LB):Option R_:=H.e P_ [r,r,r,r,r,r,r] ⟨[(3, .ptr 0 []),(4, .ptr 1 []),(6, .ptr 2 []),(7, .ptr 3 [])],[.box 188 (.agg [.own 4,vi k]), .box 184 (.agg [vi u,vi n,vq (Ad a (Ah (Ae b:UInt64) (Bl a (GI.toZ (4:UInt64)).toNat))),vq o]), .box 188 (.agg [.nils,vi 0]), .box 184 (.agg [vi 0,vi 0,vq 0,vq 0]),Ab 5 m],[]⟩
def x9(b:UInt32)(k n:Int)(a o:UInt64)(m:LB)(u:Int):Option R_:=H.e P_ [r,r,r,r,r,r,l,(call 1 166),r,r,r,d,r,r] ⟨[],[.box 188 (.agg [.own 4,vi k]), .box 184 (.agg [vi u,vi n,vq (Ad a (Ah (Ae b:UInt64) (Bl a (GI.toZ (4:UInt64)).toNat))),vq o]), .box 188 (.agg [.nils,vi 0]), .box 184 (.agg [vi 0,vi 0,vq 0,vq 0]),Ab 5 m],[[(2,vu b),(3, .ptr 0 []),(4, .ptr 1 []),(6, .ptr 2 []),(7, .ptr 3 []),(65,vu b)]]⟩
def x8(b:UInt32)(f:Int)(a:UInt64)(k:Int)(m:LB)(n:Int)(o:UInt64):Option R_:=H.e P_ [r,r,r,r,r,r,l,(call 1 166),r,r,r,d,r] ⟨[(0, .ptr 0 []),(1,vu b),(4, .fn 194 [])],[.box 184 (.agg [vi f,vi n,vq a,vq o]), .box 188 (.agg [.own 4,vi k]), .box 188 (.agg [.nils,vi 0]), .box 184 (.agg [vi 0,vi 0,vq 0,vq 0]),Ab 5 m],[[(2,vu b),(3, .ptr 1 []),(4, .ptr 0 []),(6, .ptr 2 []),(7, .ptr 3 []),(65,vu b)]]⟩
def x7(b:UInt32)(f h:Int)(a g:UInt64)(y k:Int)(m:LB):Option R_:=H.e P_ [r,r,r,r,r] ⟨[(2,vu b),(3, .ptr 0 []),(4, .ptr 1 []),(6, .ptr 2 []),(7, .ptr 3 []),(11,vi y)],[.box 188 (.agg [.own 4,vi k]), .box 184 (.agg [vi f,vi h,vq a,vq g]), .box 188 (.agg [.nils,vi 0]), .box 184 (.agg [vi 0,vi 0,vq 0,vq 0]),Ab 5 m],[]⟩
def x6(b:UInt32)(v:LB)(w f h:Int)(a g:UInt64):Option R_:=H.e P_ [r,r] ⟨[(2,vu b),(3, .ptr 0 []),(4, .ptr 1 []),(6, .ptr 2 []),(7, .ptr 3 [])],[.box 188 (.agg [vb v,vi w]), .box 184 (.agg [vi f,vi h,vq a,vq g]), .box 188 (.agg [.nils,vi 0]), .box 184 (.agg [vi 0,vi 0,vq 0,vq 0])],[]⟩
theorem e10:x10=Aip:=Eq.trans (b:=Afy) (by kernel_rfl) (by rw[Av5];rfl)
theorem e9:x9=Ale:=Eq.trans (b:=Alm x10) (by kernel_rfl) (by simp only[e10]<;>rfl)
theorem e8:x8=Up:=Eq.trans (b:=Aln x9) (by kernel_rfl) (by simp only[e9]<;>rfl)
theorem e7:x7=Ac6:=Eq.trans (b:=Al3 x8) (by kernel_rfl) (by simp only[e8]<;>rfl)
theorem e6:x6=Ame:=Eq.trans (b:=Al4 x7) (by kernel_rfl) (by simp only[e7]<;>rfl)
noncomputable def F:=u7 Apr
theorem rn x:H.u P_ x=F x:=Eq.trans (b:=u7 (Alo x6) x) (by kernel_rfl) (by simp only[e6]<;>rfl)
noncomputable def c:Con:=⟨H.p,H.r,F⟩
theorem ok:ConOk P_ gl 127 c:=cr H func127 (.cons F161.ok (.cons F162.ok (.cons F163.ok (.cons F164.ok (.cons F165.ok .nil))))) (AnsOk.cons ent166 (AnsOk.cons ent194 AnsOk.nil)) rn
end F127
namespace F131
abbrev R_:=(UInt32×Int)
abbrev K_:=S→Option R_
noncomputable def H:Hd:=⟨[Su,Sb],[Su,Si],(.seq .d (.seq .d (.cut [0,1,6] [] (.keep [0,1,6,12] true) (.cut [0] [] (.seq .d (.blk (.loop [0,6,13,14,15] [] .d))) .d)))),⟨[],gl,false⟩,[(168,(.seq .d (.seq .d (.cut [1] [] (.seq .d (.blk (.loop [1,5] [] (.seq .d (.seq .d (.cut [1,5] [] (.blk (.seq .d (.seq .d (.cut [1,2,3,5] [] (.seq .d (.blk (.loop [1,2,3,5,10] [] .d))) .d)))) .d)))))) .d))))],f131⟩
def t28(a:LB)(b:LU)(h:UInt32)(m:Int):S:=⟨[(0,vu h),(6, .ptr 0 []),(13,vb a),(14,vi (Ac a)),(15,vi m)],[.box 276 (.val (.vec 256 (.int .u32)) b)],[]⟩
def z28:Nat→S→Option R_:=H.i P_ [r,r,r,l,r,d]
def t21(f:UInt32)(a:LB)(g:Int)(b:LU)(k:UInt32)(n:Int):S:=⟨[(1, .ptr 0 []),(2,vi g),(3,vu k),(5,vi g),(10,vi n)],[.box 276 (.val (.vec 256 (.int .u32)) b)],[[(0,vu f),(1,vb a)]]⟩
def z21(kn16:K_):Nat→S→Option R_:=H.i P_ [r,r,l,(call 0 168),r,r,l,r,d,(lp kn16),r,r,l,d,r,r,l,r,d]
def t16(f:UInt32)(a:LB)(g:Int)(b:LU):S:=⟨[(1, .ptr 0 []),(5,vi g)],[.box 276 (.val (.vec 256 (.int .u32)) b)],[[(0,vu f),(1,vb a)]]⟩
def z16:Nat→S→Option R_:=H.i P_ [r,r,l,(call 0 168),r,r,l,r,d]
def x30(h:UInt32):Option R_:=H.e P_ [r,r,r,r] ⟨[(0,vu h)],[],[]⟩
def x28(a:LB)(b:LU)(h:UInt32)(m:Int):Option R_:=H.e P_ [r,r,r,l,r,d] (t28 a b h m)
def x27(f:UInt32)(a:LB)(b:LU):Option R_:=H.e P_ [r,r,r] ⟨[(0,vu f),(1,vb a),(6, .ptr 0 [])],[.box 276 (.val (.vec 256 (.int .u32)) b)],[]⟩
def x26(f:UInt32)(a:LB)(b:LU):Option R_:=H.e P_ [r,r,l,(call 0 168),r,r,r] ⟨[(1, .ptr 0 [])],[.box 276 (.val (.vec 256 (.int .u32)) b)],[[(0,vu f),(1,vb a)]]⟩
def x24(kn16:K_)(f:UInt32)(a:LB)(g:Int)(o:LU):Option R_:=H.e P_ [r,r,l,(call 0 168),r,r,l,r,d,(lp kn16),r,r,r] ⟨[(1, .ptr 0 []),(5,vi g)],[.box 276 (.val (.vec 256 (.int .u32)) o)],[[(0,vu f),(1,vb a)]]⟩
def x23(kn16:K_)(f:UInt32)(a:LB)(g:Int)(k:UInt32)(b:LU):Option R_:=H.e P_ [r,r,l,(call 0 168),r,r,l,r,d,(lp kn16),r,r,l,d,r,r,r] ⟨[(1, .ptr 0 []),(2,vi g),(3,vu k),(5,vi g)],[.box 276 (.val (.vec 256 (.int .u32)) b)],[[(0,vu f),(1,vb a)]]⟩
def x21(kn16:K_)(f:UInt32)(a:LB)(g:Int)(b:LU)(k:UInt32)(n:Int):Option R_:=H.e P_ [r,r,l,(call 0 168),r,r,l,r,d,(lp kn16),r,r,l,d,r,r,l,r,d] (t21 f a g b k n)
def x16(f:UInt32)(a:LB)(g:Int)(b:LU):Option R_:=H.e P_ [r,r,l,(call 0 168),r,r,l,r,d] (t16 f a g b)
theorem e30:x30=Ahd:=by kernel_rfl
theorem i28(a:LB)(b:LU):∀(q:Nat) (h:UInt32) (m:Int),z28 q (t28 a b h m)=Nt a b q h m:=
 ind (fun _ _=>by kernel_rfl) fun q ih h m=>Eq.trans (b:=Zu x30 (fun h m=>(z28 q) (t28 a b h m)) a b h m) (by kernel_rfl) (by simp only[e30,ih]<;>rfl)
theorem e28:x28=Ahm:=by funext a b h m;exact Eq.trans (by kernel_rfl) ((i28 a b Cu h m).trans (by rw[As];rfl))
theorem e27:x27=Aiv:=Eq.trans (b:=Ajf x28) (by kernel_rfl) (by simp only[e28]<;>rfl)
theorem e26:x26=Aa7:=Eq.trans (b:=Ajl x27) (by kernel_rfl) (by simp only[e27]<;>rfl)
theorem e24(kn16:K_)(f:UInt32)(a:LB):x24 kn16 f a=Ahn (fun g b=>kn16 (t16 f a g b)) f a:=by kernel_rfl
theorem e23(kn16:K_)(f:UInt32)(a:LB):x23 kn16 f a=Aa8 (fun g b=>kn16 (t16 f a g b)) f a:=Eq.trans (b:=Aid (x24 kn16 f a) f a) (by kernel_rfl) (by simp only[e24]<;>rfl)
theorem i21(kn16:K_)(f:UInt32)(a:LB)(g:Int)(b:LU):∀(q:Nat) (k:UInt32) (n:Int),z21 kn16 q (t21 f a g b k n)=Nb (fun g b=>kn16 (t16 f a g b)) f a g b q k n:=
 ind (fun _ _=>by kernel_rfl) fun q ih k n=>Eq.trans (b:=Yz (x23 kn16 f a) (fun k n=>(z21 kn16 q) (t21 f a g b k n)) f a g b k n) (by kernel_rfl) (by simp only[e23,ih]<;>rfl)
theorem e21(kn16:K_)(f:UInt32)(a:LB):x21 kn16 f a=Ai7 (fun g b=>kn16 (t16 f a g b)) f a:=by funext g b k n;exact Eq.trans (by kernel_rfl) ((i21 kn16 f a g b Cu k n).trans (by rw[As];rfl))
theorem i16(f:UInt32)(a:LB):∀(q:Nat) (g:Int) (b:LU),z16 q (t16 f a g b)=Kg f a q g b:=
 ind (fun _ _=>by kernel_rfl) fun q ih g b=>Eq.trans (b:=Yn (x21 (z16 q) f a) x26 f a g b) (by kernel_rfl) (by simp only[e21,e26,ih]<;>rfl)
theorem e16:x16=Aig:=by funext f a g b;exact Eq.trans (by kernel_rfl) ((i16 f a Cu g b).trans (by rw[As];rfl))
noncomputable def F:=u2 Aoe
theorem rn x:H.u P_ x=F x:=Eq.trans (b:=u2 (Alu x16) x) (by kernel_rfl) (by simp only[e16]<;>rfl)
noncomputable def c:Con:=⟨H.p,H.r,F⟩
theorem ok:ConOk P_ gl 131 c:=cr H func131 .nil (AnsOk.cons ent168 AnsOk.nil) rn
end F131
namespace F91
noncomputable def H:Hd:=⟨[Sb],[Su,Si], .d,⟨[(131,F131.c)],gl,false⟩,[],f91⟩
noncomputable def F:=Sm
theorem rn x:H.u P_ x=F x:=by kernel_rfl
noncomputable def c:Con:=⟨H.p,H.r,F⟩
theorem ok:ConOk P_ gl 91 c:=co H func91 (.cons F131.ok .nil) rn
end F91
namespace F130
noncomputable def H:Hd:=⟨[Sq,Si],[Sz], .d,⟨[],gl,false⟩,[],f130⟩
noncomputable def F:=u2 Bb1
theorem rn x:H.u P_ x=F x:=by kernel_rfl
noncomputable def c:Con:=⟨H.p,H.r,F⟩
theorem ok:ConOk P_ gl 130 c:=co H func130 .nil rn
end F130
namespace F90
abbrev R_:=(LB×Int)
noncomputable def H:Hd:=⟨[Sq,Si],[Ob 5,Si],(.seq .d (.seq .d (.seq .d (.seq .d (.cut [6] [] (.seq .d (.blk (.loop [0,6,21,22] [] .d))) .d))))),⟨[(130,F130.c)],gl,false⟩,[],f90⟩
def t4(f:UInt64)(g:LB)(b:Int)(a:LB):S:=⟨[(0,vq f),(6, .own 0),(21,vi (Ac g)),(22,vi b)],[Ab 5 a],[]⟩
def z4:Nat→S→Option R_:=H.i P_ [r,r,r,r,l,r,d]
def x6(a:LB):Option R_:=H.e P_ [r,r,r,r,r] ⟨[(6, .own 0)],[Ab 5 a],[]⟩
def x4(f:UInt64)(g:LB)(b:Int)(a:LB):Option R_:=H.e P_ [r,r,r,r,l,r,d] (t4 f g b a)
theorem e6:x6=As0:=by kernel_rfl
theorem i4(f:UInt64)(g:LB):∀(q:Nat) (b:Int) (a:LB),z4 q (t4 f g b a)=Xu f g q b a:=
 ind (fun _ _=>by kernel_rfl) fun q ih b a=>Eq.trans (b:=Aki x6 (fun b a=>(z4 q) (t4 f g b a)) f g b a) (by kernel_rfl) (by simp only[e6,ih]<;>rfl)
theorem e4:x4=Ar5:=by funext f g b a;exact Eq.trans (by kernel_rfl) ((i4 f g Cu b a).trans (by rw[As];rfl))
noncomputable def F:=u2 Un
theorem rn x:H.u P_ x=F x:=Eq.trans (b:=u2 (Ars x4) x) (by kernel_rfl) (by simp only[e4]<;>rfl)
noncomputable def c:Con:=⟨H.p,H.r,F⟩
theorem ok:ConOk P_ gl 90 c:=co H func90 (.cons F130.ok .nil) rn
end F90
namespace F129
abbrev R_:=LB
noncomputable def H:Hd:=⟨[.lf (.list (.list (.int .u8))) none],[Ob 5],(.seq .d (.seq .d (.cut [0,3] [] (.seq .d (.blk (.loop [0,3,9,10,11] [] .d))) (.cut [0,6] [⟨6,[], .own 5 (.int .u8)⟩] (.keep [0,3,6,23,24] true) (.cut [6] [] (.seq .d (.blk (.loop [6,25,26,27] [] .d))) .d))))),⟨[],gl,true⟩,[(167,(.seq .d (.cut [0,1] [] .d .d)))],f129⟩
def t14(a:List LB)(g:Int)(f:LB):S:=⟨[(6, .own 0),(25, .val (.list (.list (.int .u8))) a),(26,vi (Ac a)),(27,vi g)],[Ab 5 f],[]⟩
def z14:Nat→S→Option R_:=H.i P_ [r,r,r,r,l,r,d]
def t9(a:List LB)(b h:Int):S:=⟨[(0, .val (.list (.list (.int .u8))) a),(3,vi b),(9, .val (.list (.list (.int .u8))) a),(10,vi (Ac a)),(11,vi h)],[],[]⟩
def z9:Nat→S→Option R_:=H.i P_ [r,r,l,r,d]
def x16(f:LB):Option R_:=H.e P_ [r,r,r,r,r] ⟨[(6, .own 0)],[Ab 5 f],[]⟩
def x14(a:List LB)(g:Int)(f:LB):Option R_:=H.e P_ [r,r,r,r,l,r,d] (t14 a g f)
def x13(a:List LB)(k:LB):Option R_:=H.e P_ [r,r,r,r] ⟨[(0, .val (.list (.list (.int .u8))) a),(6, .own 0)],[Ab 5 k],[]⟩
def x12(b:Int)(a:List LB):Option R_:=H.e P_ [r,r,r,l,(call 1 167),r,r] ⟨[(0, .nils),(1,vi b)],[],[[(0, .val (.list (.list (.int .u8))) a),(3,vi b),(23,vi b)]]⟩
def x11(a:List LB)(b:Int):Option R_:=H.e P_ [r,r,r] ⟨[(0, .val (.list (.list (.int .u8))) a),(3,vi b)],[],[]⟩
def x9(a:List LB)(b h:Int):Option R_:=H.e P_ [r,r,l,r,d] (t9 a b h)
theorem e16:x16=Rb:=by kernel_rfl
theorem i14(a:List LB):∀(q:Nat) (g:Int) (f:LB),z14 q (t14 a g f)=Ct a q g f:=
 ind (fun _ _=>by kernel_rfl) fun q ih g f=>Eq.trans (b:=Ea x16 (fun g f=>(z14 q) (t14 a g f)) a g f) (by kernel_rfl) (by simp only[e16,ih]<;>rfl)
theorem e14:x14=Jp:=by funext a g f;exact Eq.trans (by kernel_rfl) ((i14 a Cu g f).trans (by rw[As];rfl))
theorem e13:x13=Ga:=Eq.trans (b:=Jn x14) (by kernel_rfl) (by simp only[e14]<;>rfl)
theorem e12:x12=Jo:=Eq.trans (b:=Jf x13) (by kernel_rfl) (by simp only[e13]<;>rfl)
theorem e11:x11=Jh:=Eq.trans (b:=Jm x12) (by kernel_rfl) (by simp only[e12]<;>rfl)
theorem i9(a:List LB):∀(q:Nat) (b h:Int),z9 q (t9 a b h)=Cy a q b h:=
 ind (fun _ _=>by kernel_rfl) fun q ih b h=>Eq.trans (b:=Em x11 (fun b h=>(z9 q) (t9 a b h)) a b h) (by kernel_rfl) (by simp only[e11,ih]<;>rfl)
theorem e9:x9=Kb:=by funext a b h;exact Eq.trans (by kernel_rfl) ((i9 a Cu b h).trans (by rw[As];rfl))
noncomputable def F:=Il
theorem rn x:H.u P_ x=F x:=Eq.trans (b:=Ke x9 x) (by kernel_rfl) (by simp only[e9]<;>rfl)
noncomputable def c:Con:=⟨H.p,H.r,F⟩
theorem ok:ConOk P_ gl 129 c:=cr H func129 .nil (AnsOk.cons ent167 AnsOk.nil) rn
end F129
namespace F87
abbrev R_:=(LB×Int)
abbrev K_:=S→Option R_
noncomputable def H:Hd:=⟨[.agg [Si,Si], .lf (.vec 16 (.int .i32)) none,Sw],[Ob 5,Si],(.seq .d (.seq .d (.seq .d (.seq .d (.seq .d (.cut [11] [] (.seq .d (.blk (.loop [3,10,11,30,31,32] [⟨11,[0], .own 5 (.int .u8)⟩] (.seq .d (.seq .d (.cut [3,10,11,30,31,32] [] (.blk (.seq .d (.seq .d (.seq .d (.seq .d (.keep [3,10,11,14,30,31,32,59] true)))))) .d)))))) .d)))))),⟨[(90,F90.c),(91,F91.c),(125,F125.c),(126,F126.c),(127,F127.c),(129,F129.c)],gl,false⟩,[(128,(.seq .d (.seq .d (.blk (.loop [0,3,7,8] [] (.seq .d (.seq .d (.seq (.blk (.seq .d (.cut [0,3,4,7,8] [] .d (.seq .d (.cut [0,3,7,8] [] .d .d))))) .d))))))))],f87⟩
def t44(a:LU)(b f h g:Int)(k:List (Int×Int×UInt64×UInt64×Unit))(m:LB)(o n:Int)(v:LB):S:=⟨[(0, .ptr 0 []),(3, .ptr 1 []),(7,vi h),(8,vi o)],[.box 188 (.agg [.own 7,vi n]), .box 188 (.agg [.own 6,vi h]), .box 74 (.agg [vi b,vi f]), .box 185 (.val (.vec 6 (.cons (.int .i64) (.cons (.int .i64) (.cons (.int .u64) (.cons (.int .u64) .nil))))) k), .box 188 (.agg [.own 6,vi h]),Av 60 a,Ab 5 m,Ab 5 v],[[(3, .ptr 2 []),(10, .ptr 3 []),(11, .ptr 0 []),(14, .ptr 4 []),(30, .own 5),(31,vi (Ac a)),(32,vi g),(59, .agg [.own 6,vi h])]]⟩
def z44(kn27:K_):Nat→S→Option R_:=H.i P_ [r,r,r,r,r,l,r,d,(lp kn27),r,r,l,d,r,r,r,r,(call 1 128),r,r,d]
def t27(a:LU)(b f g:Int)(w:List (Int×Int×UInt64×UInt64×Unit))(u:Int)(p:LB):S:=⟨[(3, .ptr 0 []),(10, .ptr 1 []),(11, .ptr 2 []),(30, .own 3),(31,vi (Ac a)),(32,vi g)],[.box 74 (.agg [vi b,vi f]), .box 185 (.val (.vec 6 (.cons (.int .i64) (.cons (.int .i64) (.cons (.int .u64) (.cons (.int .u64) .nil))))) w), .box 188 (.agg [.own 4,vi u]),Av 60 a,Ab 5 p],[]⟩
def z27:Nat→S→Option R_:=H.i P_ [r,r,r,r,r,l,r,d]
def x52(u:Int)(p:LB):Option R_:=H.e P_ [r,r,r,r,r,r] ⟨[(11, .ptr 0 [])],[.box 188 (.agg [.own 1,vi u]),Ab 5 p],[]⟩
def x50(kn27:K_)(a:LU)(b f g:Int)(k:List (Int×Int×UInt64×UInt64×Unit))(n:Int)(v:LB):Option R_:=H.e P_ [r,r,r,r,r,l,r,d,(lp kn27),r,r,r] ⟨[(3, .ptr 0 []),(10, .ptr 1 []),(11, .ptr 2 []),(30, .own 3),(31,vi (Ac a)),(32,vi g)],[.box 74 (.agg [vi b,vi f]), .box 185 (.val (.vec 6 (.cons (.int .i64) (.cons (.int .i64) (.cons (.int .u64) (.cons (.int .u64) .nil))))) k), .box 188 (.agg [.own 4,vi n]),Av 60 a,Ab 5 v],[]⟩
def x48(kn27 kn44:K_)(h:Int)(a:LU)(g b f:Int)(k:List (Int×Int×UInt64×UInt64×Unit))(m:LB)(o n:Int)(aa:LB):Option R_:=H.e P_ [r,r,r,r,r,l,r,d,(lp kn27),r,r,l,d,r,r,r,r,(call 1 128),r,r,d,(lp kn44),r,r,l,d,r,r,r,r] ⟨[(0, .ptr 0 []),(3, .ptr 1 []),(7,vi h),(8,vi o)],[.box 188 (.agg [.own 7,vi n]), .box 188 (.agg [.own 6,vi h]), .box 74 (.agg [vi b,vi f]), .box 185 (.val (.vec 6 (.cons (.int .i64) (.cons (.int .i64) (.cons (.int .u64) (.cons (.int .u64) .nil))))) k), .box 188 (.agg [.own 6,vi h]),Av 60 a,Ab 5 m,Ab 5 aa],[[(3, .ptr 2 []),(10, .ptr 3 []),(11, .ptr 0 []),(14, .ptr 4 []),(30, .own 5),(31,vi (Ac a)),(32,vi g),(59, .agg [.own 6,vi h])]]⟩
def x47(kn27 kn44:K_)(h:Int)(a:LU)(g b f:Int)(k:List (Int×Int×UInt64×UInt64×Unit))(m:LB)(o n:Int)(y:LB):Option R_:=H.e P_ [r,r,r,r,r,l,r,d,(lp kn27),r,r,l,d,r,r,r,r,(call 1 128),r,r,d,(lp kn44),r,r,l,d,r,r] ⟨[(0, .ptr 0 []),(3, .ptr 1 []),(4,vi o),(7,vi h),(8,vi o)],[.box 188 (.agg [.own 7,vi n]), .box 188 (.agg [.own 6,vi h]), .box 74 (.agg [vi b,vi f]), .box 185 (.val (.vec 6 (.cons (.int .i64) (.cons (.int .i64) (.cons (.int .u64) (.cons (.int .u64) .nil))))) k), .box 188 (.agg [.own 6,vi h]),Av 60 a,Ab 5 m,Ab 5 y],[[(3, .ptr 2 []),(10, .ptr 3 []),(11, .ptr 0 []),(14, .ptr 4 []),(30, .own 5),(31,vi (Ac a)),(32,vi g),(59, .agg [.own 6,vi h])]]⟩
def x44(kn27:K_)(a:LU)(b f h g:Int)(k:List (Int×Int×UInt64×UInt64×Unit))(m:LB)(o n:Int)(v:LB):Option R_:=H.e P_ [r,r,r,r,r,l,r,d,(lp kn27),r,r,l,d,r,r,r,r,(call 1 128),r,r,d] (t44 a b f h g k m o n v)
def x27(a:LU)(b f g:Int)(w:List (Int×Int×UInt64×UInt64×Unit))(u:Int)(p:LB):Option R_:=H.e P_ [r,r,r,r,r,l,r,d] (t27 a b f g w u p)
theorem e52:x52=Wh:=by kernel_rfl
theorem e50(kn27:K_)(a:LU)(b f:Int):x50 kn27 a b f=Wq (fun g w u p=>kn27 (t27 a b f g w u p)) a b f:=by kernel_rfl
theorem e48(kn27 kn44:K_)(a:LU)(b f h g:Int)(k:List (Int×Int×UInt64×UInt64×Unit))(m:LB):x48 kn27 kn44 h a g b f k m=Wl (fun o n v=>kn44 (t44 a b f h g k m o n v)) h a g b f k m:=by kernel_rfl
theorem e47(kn27 kn44:K_)(a:LU)(b f h g:Int)(k:List (Int×Int×UInt64×UInt64×Unit))(m:LB):x47 kn27 kn44 h a g b f k m=Oj (fun o n v=>kn44 (t44 a b f h g k m o n v)) h a g b f k m:=Eq.trans (b:=Wo (x48 kn27 kn44 h a g b f k m) h a g b f k m) (by kernel_rfl) (by simp only[e48]<;>rfl)
theorem i44(kn27:K_)(a:LU)(b f h g:Int)(k:List (Int×Int×UInt64×UInt64×Unit))(m:LB):∀(q:Nat) (o n:Int) (v:LB),z44 kn27 q (t44 a b f h g k m o n v)=Eo (fun g w u p=>kn27 (t27 a b f g w u p)) a b f h g k m q o n v:=
 ind (fun _ _ _=>by kernel_rfl) fun q ih o n v=>Eq.trans (b:=Pd (x47 kn27 (z44 kn27 q) h a g b f k m) (x50 kn27 a b f) a b f h g k m o n v) (by kernel_rfl) (by simp only[e47,e50,ih]<;>rfl)
theorem e44(kn27:K_)(a:LU)(b f:Int):x44 kn27 a b f=Aje (fun g w u p=>kn27 (t27 a b f g w u p)) a b f:=by funext h g k m o n v;exact Eq.trans (by kernel_rfl) ((i44 kn27 a b f h g k m Cu o n v).trans (by rw[As];rfl))
theorem i27(a:LU)(b f:Int):∀(q:Nat) (g:Int) (w:List (Int×Int×UInt64×UInt64×Unit)) (u:Int) (p:LB),z27 q (t27 a b f g w u p)=Fs a b f q g w u p:=
 ind (fun _ _ _ _=>by kernel_rfl) fun q ih g w u p=>Eq.trans (b:=Oh (x44 (z27 q) a b f) x52 a b f g w u p) (by kernel_rfl) (by simp only[e44,e52,ih]<;>rfl)
theorem e27:x27=Wk:=by funext a b f g w u p;exact Eq.trans (by kernel_rfl) ((i27 a b f Cu g w u p).trans (by rw[As];rfl))
noncomputable def F:=u4 Nl
theorem rn x:H.u P_ x=F x:=Eq.trans (b:=u4 (Aaj x27) x) (by kernel_rfl) (by simp only[e27]<;>rfl)
noncomputable def c:Con:=⟨H.p,H.r,F⟩
theorem ok:ConOk P_ gl 87 c:=cr H func87 (.cons F90.ok (.cons F91.ok (.cons F125.ok (.cons F126.ok (.cons F127.ok (.cons F129.ok .nil)))))) (AnsOk.cons ent128 AnsOk.nil) rn
end F87
theorem Bc0:ConOk Tryz.prog gl 39 Al8:=Bcp F84.ok F85.ok F101.ok F87.ok F88.ok
namespace F98
abbrev R_:=Bool
noncomputable def H:Hd:=⟨[.agg [Si,Si,Si,Si,Si]],[Sz],(.seq .d (.cut [1] [] .d .d)),⟨[],gl,false⟩,[],f98⟩
def x2(b f a g h:Int):Option R_:=H.e P_ [r,r] ⟨[(1, .ptr 0 [])],[.box 32 (.agg [vi b,vi f,vi a,vi g,vi h])],[]⟩
theorem e2:x2=Sn:=by kernel_rfl
noncomputable def F:=u5 Ul
theorem rn x:H.u P_ x=F x:=Eq.trans (b:=u5 (Acz x2) x) (by kernel_rfl) (by simp only[e2]<;>rfl)
noncomputable def c:Con:=⟨H.p,H.r,F⟩
theorem ok:ConOk P_ gl 98 c:=co H func98 .nil rn
end F98
namespace F99
noncomputable def H:Hd:=⟨[.agg [Si,Si,Si,Si,Si]],[Sz], .d,⟨[(117,F117.c)],gl,false⟩,[],f99⟩
noncomputable def F:=u5 Ad0
theorem rn x:H.u P_ x=F x:=by kernel_rfl
noncomputable def c:Con:=⟨H.p,H.r,F⟩
theorem ok:ConOk P_ gl 99 c:=co H func99 (.cons F117.ok .nil) rn
end F99
namespace F89
noncomputable def H:Hd:=⟨[.agg [Si,Si,Si,Si,Si]],[Si], .d,⟨[(98,F98.c),(99,F99.c)],gl,false⟩,[],f89⟩
noncomputable def F:=u5 Ou
theorem rn x:H.u P_ x=F x:=by kernel_rfl
noncomputable def c:Con:=⟨H.p,H.r,F⟩
theorem ok:ConOk P_ gl 89 c:=co H func89 (.cons F98.ok (.cons F99.ok .nil)) rn
end F89
namespace F40
abbrev R_:=(LB×Int)
noncomputable def H:Hd:=⟨[.agg [Si,Si,Si,Si,Si]],[Ob 5,Si],(.seq .d (.seq .d (.seq .d (.cut [5] [] (.seq .d (.blk (.loop [5,31,32] [] .d))) .d)))),⟨[(89,F89.c),(90,F90.c),(91,F91.c)],gl,false⟩,[],f40⟩
def t4(b f g h k m:Int)(a:LB):S:=⟨[(5, .own 0),(31, .val (.vec 5 (.int .i64)) ([b,f,g,h,k]:LI)),(32,vi m)],[Ab 5 a],[]⟩
def z4:Nat→S→Option R_:=H.i P_ [r,r,r,l,r,d]
def x6(a:LB):Option R_:=H.e P_ [r,r,r,r] ⟨[(5, .own 0)],[Ab 5 a],[]⟩
def x4(b f g h k m:Int)(a:LB):Option R_:=H.e P_ [r,r,r,l,r,d] (t4 b f g h k m a)
theorem e6:x6=Vn:=by kernel_rfl
theorem i4(b f g h k:Int):∀(q:Nat) (m:Int) (a:LB),z4 q (t4 b f g h k m a)=Ip b f g h k q m a:=
 ind (fun _ _=>by kernel_rfl) fun q ih m a=>Eq.trans (b:=Vm x6 (fun m a=>(z4 q) (t4 b f g h k m a)) b f g h k m a) (by kernel_rfl) (by simp only[e6,ih]<;>rfl)
theorem e4:x4=Afh:=by funext b f g h k m a;exact Eq.trans (by kernel_rfl) ((i4 b f g h k Cu m a).trans (by rw[As];rfl))
noncomputable def F:=u5 Agp
theorem rn x:H.u P_ x=F x:=Eq.trans (b:=u5 (Af4 x4) x) (by kernel_rfl) (by simp only[e4]<;>rfl)
noncomputable def c:Con:=⟨H.p,H.r,F⟩
theorem ok:ConOk P_ gl 40 c:=co H func40 (.cons F89.ok (.cons F90.ok (.cons F91.ok .nil))) rn
end F40
namespace F92
noncomputable def H:Hd:=⟨[Ss],[Sq,Si], .d,⟨[(122,F122.c)],gl,false⟩,[],f92⟩
noncomputable def F:=Azn
theorem rn x:H.u P_ x=F x:=by kernel_rfl
noncomputable def c:Con:=⟨H.p,H.r,F⟩
theorem ok:ConOk P_ gl 92 c:=co H func92 (.cons F122.ok .nil) rn
end F92
namespace F41
noncomputable def H:Hd:=⟨[Ss],[Ob 5,Si], .d,⟨[(90,F90.c),(92,F92.c)],gl,false⟩,[],f41⟩
noncomputable def F:=Zm
theorem rn x:H.u P_ x=F x:=by kernel_rfl
noncomputable def c:Con:=⟨H.p,H.r,F⟩
theorem ok:ConOk P_ gl 41 c:=co H func41 (.cons F90.ok (.cons F92.ok .nil)) rn
end F41
namespace F93
abbrev R_:=Int
noncomputable def H:Hd:=⟨[Sl],[Si],(.seq .d (.seq .d (.seq .d (.cut [] [] (.seq .d (.blk (.loop [3,14,15,16] [] .d))) .d)))),⟨[],gl,false⟩,[],f93⟩
def t4(a:LI)(f b:Int):S:=⟨[(3,vi f),(14,vl a),(15,vi (Ac a)),(16,vi b)],[],[]⟩
def z4:Nat→S→Option R_:=H.i P_ [r,r,r,l,r,d]
def x6:Option R_:=H.e P_ [r,r,r,r] ⟨[],[],[]⟩
def x4(a:LI)(f b:Int):Option R_:=H.e P_ [r,r,r,l,r,d] (t4 a f b)
theorem e6:x6=Arq:=by kernel_rfl
theorem i4(a:LI):∀(q:Nat) (f b:Int),z4 q (t4 a f b)=Mx a q f b:=
 ind (fun _ _=>by kernel_rfl) fun q ih f b=>Eq.trans (b:=Zq x6 (fun f b=>(z4 q) (t4 a f b)) a f b) (by kernel_rfl) (by simp only[e6,ih]<;>rfl)
theorem e4:x4=Ajb:=by funext a f b;exact Eq.trans (by kernel_rfl) ((i4 a Cu f b).trans (by rw[As];rfl))
noncomputable def F:=Lt
theorem rn x:H.u P_ x=F x:=Eq.trans (b:=Aa2 x4 x) (by kernel_rfl) (by simp only[e4]<;>rfl)
noncomputable def c:Con:=⟨H.p,H.r,F⟩
theorem ok:ConOk P_ gl 93 c:=co H func93 .nil rn
end F93
namespace F42
abbrev R_:=(LB×Int)
abbrev K_:=S→Option R_
noncomputable def H:Hd:=⟨[Sl],[Ob 5,Si],(.seq .d (.seq .d (.seq .d (.seq .d (.cut [5,6] [] (.seq .d (.blk (.loop [5,6,17,18,19] [⟨5,[], .own 5 (.int .u8)⟩,⟨6,[0], .own 5 (.int .u8)⟩] (.seq .d (.seq .d (.cut [5,6,17,18,19] [] (.blk (.seq .d (.keep [5,6,8,17,18,19,23,24,25] true))) .d)))))) (.seq .d (.cut [5] [] (.keep [5,6,9,33,34,35] true) .d))))))),⟨[(90,F90.c),(91,F91.c),(93,F93.c)],gl,false⟩,[(94, .d)],f42⟩
def t8(a:LI)(f:Int)(b:LB):S:=⟨[(5, .ptr 0 []),(6, .fn 94 [.ptr 0 []]),(17,vl a),(18,vi (Ac a)),(19,vi f)],[.box 27 (.own 1),Ab 5 b],[]⟩
def z8:Nat→S→Option R_:=H.i P_ [r,r,r,r,l,r,d]
def x14(g:LB):Option R_:=H.e P_ [r,r,r,r,r,r,r] ⟨[(5, .ptr 0 [])],[.box 27 (.own 1),Ab 5 g],[]⟩
def x13(b:LB):Option R_:=H.e P_ [r,r,r,r,r] ⟨[(5, .ptr 0 []),(6, .fn 94 [.ptr 0 []])],[.box 27 (.own 1),Ab 5 b],[]⟩
def x11(kn8:K_)(a:LI)(f:Int)(h:LB):Option R_:=H.e P_ [r,r,r,r,l,r,d,(lp kn8),r,r,r] ⟨[(5, .ptr 0 []),(6, .fn 94 [.ptr 0 []]),(17,vl a),(18,vi (Ac a)),(19,vi f)],[.box 27 (.own 1),Ab 5 h],[]⟩
def x8(a:LI)(f:Int)(b:LB):Option R_:=H.e P_ [r,r,r,r,l,r,d] (t8 a f b)
theorem e14:x14=Aqp:=by kernel_rfl
theorem e13:x13=Afj:=Eq.trans (b:=Afa x14) (by kernel_rfl) (by simp only[e14]<;>rfl)
theorem e11(kn8:K_)(a:LI):x11 kn8 a=Afi (fun f b=>kn8 (t8 a f b)) a:=by kernel_rfl
theorem i8(a:LI):∀(q:Nat) (f:Int) (b:LB),z8 q (t8 a f b)=Nf a q f b:=
 ind (fun _ _=>by kernel_rfl) fun q ih f b=>Eq.trans (b:=Yi (x11 (z8 q) a) x13 a f b) (by kernel_rfl) (by simp only[e11,e13,ih]<;>rfl)
theorem e8:x8=Atx:=by funext a f b;exact Eq.trans (by kernel_rfl) ((i8 a Cu f b).trans (by rw[As];rfl))
noncomputable def F:=Ak6
theorem rn x:H.u P_ x=F x:=Eq.trans (b:=Ahv x8 x) (by kernel_rfl) (by simp only[e8]<;>rfl)
noncomputable def c:Con:=⟨H.p,H.r,F⟩
theorem ok:ConOk P_ gl 42 c:=cr H func42 (.cons F90.ok (.cons F91.ok (.cons F93.ok .nil))) (AnsOk.cons ent94 AnsOk.nil) rn
end F42
namespace F44
noncomputable def H:Hd:=⟨[Sb],[Si], .d,⟨[],gl,false⟩,[],f44⟩
noncomputable def F:=Amb
theorem rn x:H.u P_ x=F x:=by kernel_rfl
noncomputable def c:Con:=⟨H.p,H.r,F⟩
theorem ok:ConOk P_ gl 44 c:=co H func44 .nil rn
end F44
namespace F45
abbrev R_:=LB
noncomputable def H:Hd:=⟨[.lf (.list (.list (.int .u8))) none],[Ob 5],(.seq .d (.seq .d (.cut [3] [] (.seq .d (.blk (.loop [3,6,7,8] [⟨3,[], .own 5 (.int .u8)⟩] .d))) .d))),⟨[],gl,false⟩,[],f45⟩
def t4(b:List LB)(f:Int)(a:LB):S:=⟨[(3, .own 0),(6, .val (.list (.list (.int .u8))) b),(7,vi (Ac b)),(8,vi f)],[Ab 5 a],[]⟩
def z4:Nat→S→Option R_:=H.i P_ [r,r,l,r,d]
def x6(a:LB):Option R_:=H.e P_ [r,r,r] ⟨[(3, .own 0)],[Ab 5 a],[]⟩
def x4(b:List LB)(f:Int)(a:LB):Option R_:=H.e P_ [r,r,l,r,d] (t4 b f a)
theorem e6:x6=Arr:=by kernel_rfl
theorem i4(b:List LB):∀(q:Nat) (f:Int) (a:LB),z4 q (t4 b f a)=Ns b q f a:=
 ind (fun _ _=>by kernel_rfl) fun q ih f a=>Eq.trans (b:=Aah x6 (fun f a=>(z4 q) (t4 b f a)) b f a) (by kernel_rfl) (by simp only[e6,ih]<;>rfl)
theorem e4:x4=Ar6:=by funext b f a;exact Eq.trans (by kernel_rfl) ((i4 b Cu f a).trans (by rw[As];rfl))
noncomputable def F:=Atb
theorem rn x:H.u P_ x=F x:=Eq.trans (b:=Asm x4 x) (by kernel_rfl) (by simp only[e4]<;>rfl)
noncomputable def c:Con:=⟨H.p,H.r,F⟩
theorem ok:ConOk P_ gl 45 c:=co H func45 .nil rn
end F45
namespace F10
abbrev R_:=(LB×Int)
abbrev K_:=S→Option R_
noncomputable def H:Hd:=⟨[.agg [Si,Si,Si,Sw],Ss],[Ob 5,Si],(.seq .d (.seq .d (.seq .d (.seq .d (.seq .d (.seq .d (.seq .d (.seq .d (.cut [8,9,10] [⟨10,[], .own 5 (.int .u8)⟩] .d (.cut [7,8,9,10,11] [] (.keep [7,8,9,10,11,46,48,49,50,51] true) .d)))))))))),⟨[(38,F38.c),(39,Al8),(40,F40.c),(41,F41.c),(42,F42.c),(44,F44.c),(45,F45.c)],gl,false⟩,[(43,(.seq .d (.seq .d (.cut [5] [] (.seq .d (.blk (.loop [1,5,11,12,13] [] (.seq .d (.seq .d (.cut [1,5,11,12,13] [] .d .d)))))) .d))))],f10⟩
def t9(a:List LB)(b f:LB)(g:Int)(h:LI):S:=⟨[(1, .fn 44 []),(5, .own 0),(11, .own 1),(12,vi (Ac a)),(13,vi g)],[Ai 3 h, .arr 27 (.list (.int .u8)) a,Ab 5 b,Ab 5 f],[[(8, .own 1),(9, .own 2),(10, .own 3)]]⟩
def z9:Nat→S→Option R_:=H.i P_ [r,r,r,r,r,r,r,r,r,l,(call 1 43),r,r,l,r,d]
def x14(k:Int)(a:List LB)(b f n:LB):Option R_:=H.e P_ [r,r,r,r,r,r,r,r,r,r] ⟨[(7,vi k),(8, .own 0),(9, .own 1),(10, .own 2),(11, .own 3)],[.arr 27 (.list (.int .u8)) a,Ab 5 b,Ab 5 f,Ab 5 n],[]⟩
def x13(h:LI)(a:List LB)(b f:LB):Option R_:=H.e P_ [r,r,r,r,r,r,r,r,r,l,(call 1 43),r,r,r] ⟨[(5, .own 0)],[Ai 3 h, .arr 27 (.list (.int .u8)) a,Ab 5 b,Ab 5 f],[[(8, .own 1),(9, .own 2),(10, .own 3)]]⟩
def x11(kn9:K_)(a:List LB)(b f:LB)(g:Int)(m:LI):Option R_:=H.e P_ [r,r,r,r,r,r,r,r,r,l,(call 1 43),r,r,l,r,d,(lp kn9),r,r,r] ⟨[(1, .fn 44 []),(5, .own 0),(11, .own 1),(12,vi (Ac a)),(13,vi g)],[Ai 3 m, .arr 27 (.list (.int .u8)) a,Ab 5 b,Ab 5 f],[[(8, .own 1),(9, .own 2),(10, .own 3)]]⟩
def x9(a:List LB)(b f:LB)(g:Int)(h:LI):Option R_:=H.e P_ [r,r,r,r,r,r,r,r,r,l,(call 1 43),r,r,l,r,d] (t9 a b f g h)
def x8(a:List LB)(b f:LB):Option R_:=H.e P_ [r,r,r,r,r,r,r,r,r] ⟨[(8, .own 0),(9, .own 1),(10, .own 2)],[.arr 27 (.list (.int .u8)) a,Ab 5 b,Ab 5 f],[]⟩
theorem e14:x14=Afr:=by kernel_rfl
theorem e13:x13=Pk:=Eq.trans (b:=Afq x14) (by kernel_rfl) (by simp only[e14]<;>rfl)
theorem e11(kn9:K_)(a:List LB)(b f:LB):x11 kn9 a b f=Ae1 (fun g h=>kn9 (t9 a b f g h)) a b f:=by kernel_rfl
theorem i9(a:List LB)(b f:LB):∀(q:Nat) (g:Int) (h:LI),z9 q (t9 a b f g h)=Nm a b f q g h:=
 ind (fun _ _=>by kernel_rfl) fun q ih g h=>Eq.trans (b:=Yt (x11 (z9 q) a b f) x13 a b f g h) (by kernel_rfl) (by simp only[e11,e13,ih]<;>rfl)
theorem e9:x9=Ar4:=by funext a b f g h;exact Eq.trans (by kernel_rfl) ((i9 a b f Cu g h).trans (by rw[As];rfl))
theorem e8:x8=Zd:=Eq.trans (b:=Aiu x9) (by kernel_rfl) (by simp only[e9]<;>rfl)
noncomputable def F:=u5 Aeq
theorem rn x:H.u P_ x=F x:=Eq.trans (b:=u5 (Ahs x8) x) (by kernel_rfl) (by simp only[e8]<;>rfl)
noncomputable def c:Con:=⟨H.p,H.r,F⟩
theorem ok:ConOk P_ gl 10 c:=cr H func10 (.cons F38.ok (.cons Bc0 (.cons F40.ok (.cons F41.ok (.cons F42.ok (.cons F44.ok (.cons F45.ok .nil))))))) (AnsOk.cons ent43 AnsOk.nil) rn
end F10
namespace F33
noncomputable def H:Hd:=⟨[],[Ob 5,Sz], .d,⟨[(10,F10.c)],gl,false⟩,[],f33⟩
noncomputable def F(x:Unit):=Ahj
theorem rn x:H.u P_ x=F x:=by kernel_rfl
noncomputable def c:Con:=⟨H.p,H.r,F⟩
theorem ok:ConOk P_ gl 33 c:=co H func33 (.cons F10.ok .nil) rn
end F33
namespace F100
noncomputable def H:Hd:=⟨[Sb,Sb],[Sz], .d,⟨[],gl,false⟩,[],f100⟩
noncomputable def F:=u2 Fy
theorem rn x:H.u P_ x=F x:=by kernel_rfl
noncomputable def c:Con:=⟨H.p,H.r,F⟩
theorem ok:ConOk P_ gl 100 c:=co H func100 .nil rn
end F100
namespace F145
noncomputable def H:Hd:=⟨[Sb,Sb],[Sz], .d,⟨[(100,F100.c)],gl,false⟩,[],f145⟩
noncomputable def F:=u2 Ir
theorem rn x:H.u P_ x=F x:=by kernel_rfl
noncomputable def c:Con:=⟨H.p,H.r,F⟩
theorem ok:ConOk P_ gl 145 c:=co H func145 (.cons F100.ok .nil) rn
end F145
namespace F195
abbrev R_:=(Int×Int)
noncomputable def H:Hd:=⟨[Sb],[Si,Si],(.seq .d (.seq .d (.seq .d (.cut [4] [] (.seq .d (.blk (.loop [4,10,11,12] [] .d))) .d)))),⟨[],gl,false⟩,[],f195⟩
def t4(a:LB)(b f:Int):S:=⟨[(4,vi b),(10,vb a),(11,vi (Ac a)),(12,vi f)],[],[]⟩
def z4:Nat→S→Option R_:=H.i P_ [r,r,r,l,r,d]
def x6(b:Int):Option R_:=H.e P_ [r,r,r,r] ⟨[(4,vi b)],[],[]⟩
def x4(a:LB)(b f:Int):Option R_:=H.e P_ [r,r,r,l,r,d] (t4 a b f)
theorem e6:x6=Amt:=by kernel_rfl
theorem i4(a:LB):∀(q:Nat) (b f:Int),z4 q (t4 a b f)=Ju a q b f:=
 ind (fun _ _=>by kernel_rfl) fun q ih b f=>Eq.trans (b:=Tj x6 (fun b f=>(z4 q) (t4 a b f)) a b f) (by kernel_rfl) (by simp only[e6,ih]<;>rfl)
theorem e4:x4=Acf:=by funext a b f;exact Eq.trans (by kernel_rfl) ((i4 a Cu b f).trans (by rw[As];rfl))
noncomputable def F:=Ade
theorem rn x:H.u P_ x=F x:=Eq.trans (b:=Acb x4 x) (by kernel_rfl) (by simp only[e4]<;>rfl)
noncomputable def c:Con:=⟨H.p,H.r,F⟩
theorem ok:ConOk P_ gl 195 c:=co H func195 .nil rn
end F195
namespace F169
def Acs(j5:LB→UInt8→UInt8→Option (Int×Int))(a:LB):Option (Int×Int):=
(Ir a ([(73:UInt8),(68:UInt8),(51:UInt8)]:LB)).bind fun n=>
if(!n)then
some (0,6)
else
if(Bw (Ac a) 10)then
some (0,24)
else
(getI a 3).bind fun f=>
(getI a 5).bind fun b=>
(fun o:Option (Int×Int)=>
(fun p:Option (Int×Int)=>
both (
both (
bo (
j5 a f b)) [
o,
o]) [
bo2 (
bo (
j5 a f b)),
p,
p]) (
both (
o) [
bo (
j5 a f b),
both (
bo (
j5 a f b)) [
j5 a f b]])) (
both (
j5 a f b) [
bo (
j5 a f b)])
theorem Aus: @Acs= @Vq:=by
  unfold Acs Vq
  try simp only[Ba5,Ar3,Ast]
  all_goals
    repeat (refine funext fun _=>?_)
    repeat' first
      |with_reducible rfl
      |with_reducible refine Uw ?_ ?_
      |with_reducible refine Us ?_ ?_ ?_
      |with_reducible refine Uy ?_ ?_ ?_ ?_
      |((with_reducible refine Adj ?_ ?_);focus (intro h;first|(subst h;rfl)|(simp only[h];rfl)|(simp[Fj,Ac,h];done)))
      |with_reducible refine Ac9 fun x=>?_
      |with_reducible refine Alh (fun _=>?_) (fun _=>?_)
      |(refine Md (fun h=>by simp only[h,Ada,Ij,Hx,ite_self]) (fun x h=>?_);(try simp only[h,Ij]))
      |(refine Px (fun h=>?_) (fun h=>?_)<;>simp only[h,if_true,if_false,Bool.false_eq_true])
abbrev R_:=(Int×Int)
noncomputable def H:Hd:=⟨[Sb],[Si,Si],(.seq .d (.seq .d (.seq .d (.cut [0,4,5] [] (.mode false) (.seq .d (.seq .d (.cut [0,5,6] [] (.cut [0,5,6,43] [] (.keep [0,5,6,7,8,31,32,33,34,35,36,37,38,39,40,41,42,43] true) .d) (.seq .d (.cut [0,5,6] [] .d .d))))))))),⟨[(100,F100.c),(145,F145.c),(195,F195.c)],gl,false⟩,[(196, .d)],f169⟩
def x8(a:LB)(b:UInt8)(h:Int):Option R_:=H.e P_ [r,r,r,r,r,r,r,r,r] ⟨[(0,vb a),(5, .ptr 0 []),(6,vi h)],[.box 5 (vc b)],[]⟩
def x7(a:LB)(g:Int)(b:UInt8):Option R_:=H.e P_ [r,r,r,r,r,r,r] ⟨[(0,vb a),(5, .ptr 0 []),(6,vi g)],[.box 5 (vc b)],[]⟩
def x6(a:LB)(g:Int)(b:UInt8)(m:Bool):Option R_:=H.e P_ [r,r,r,r,r,r,l,r] ⟨[(0,vb a),(5, .ptr 0 []),(6,vi g),(43,vt m)],[.box 5 (vc b)],[]⟩
def x5(a:LB)(f b:UInt8):Option R_:=H.e P_ [r,r,r,r] ⟨[(0,vb a),(4, .ptr 0 []),(5, .ptr 1 [])],[.box 5 (vc f), .box 5 (vc b)],[]⟩
theorem e8:x8=Vt:=by kernel_rfl
theorem e7:x7=Vl:=Eq.trans (b:=Afc x8) (by kernel_rfl) (by simp only[e8]<;>rfl)
theorem e6:x6=Afl:=Eq.trans (b:=Afk x7) (by kernel_rfl) (by simp only[e7]<;>rfl)
theorem e5:x5=Ae3:=Eq.trans (b:=Af0 x6) (by kernel_rfl) (by simp only[e6]<;>rfl)
noncomputable def F:=Agv
theorem rn x:H.u P_ x=F x:=Eq.trans (b:=Acs x5 x) (by kernel_rfl) (by unfold F;rw[Aus];simp only[e5]<;>rfl)
noncomputable def c:Con:=⟨H.p,H.r,F⟩
theorem ok:ConOk P_ gl 169 c:=cr H func169 (.cons F100.ok (.cons F145.ok (.cons F195.ok .nil))) (AnsOk.cons ent196 AnsOk.nil) rn
end F169
namespace F135
abbrev R_:=(UInt64×Int)
noncomputable def H:Hd:=⟨[Sb],[Sq,Si],(.seq .d (.seq .d (.seq .d (.cut [4] [] (.seq .d (.blk (.loop [4,15,16,17] [] .d))) .d)))),⟨[],gl,false⟩,[],f135⟩
def t4(a:LB)(b:UInt64)(f:Int):S:=⟨[(4,vq b),(15,vb a),(16,vi (Ac a)),(17,vi f)],[],[]⟩
def z4:Nat→S→Option R_:=H.i P_ [r,r,r,l,r,d]
def x6(b:UInt64):Option R_:=H.e P_ [r,r,r,r] ⟨[(4,vq b)],[],[]⟩
def x4(a:LB)(b:UInt64)(f:Int):Option R_:=H.e P_ [r,r,r,l,r,d] (t4 a b f)
theorem e6:x6=Baw:=by kernel_rfl
theorem i4(a:LB):∀(q:Nat) (b:UInt64) (f:Int),z4 q (t4 a b f)=Wy a q b f:=
 ind (fun _ _=>by kernel_rfl) fun q ih b f=>Eq.trans (b:=Aj2 x6 (fun b f=>(z4 q) (t4 a b f)) a b f) (by kernel_rfl) (by simp only[e6,ih]<;>rfl)
theorem e4:x4=Aro:=by funext a b f;exact Eq.trans (by kernel_rfl) ((i4 a Cu b f).trans (by rw[As];rfl))
noncomputable def F:=Asi
theorem rn x:H.u P_ x=F x:=Eq.trans (b:=Arw x4 x) (by kernel_rfl) (by simp only[e4]<;>rfl)
noncomputable def c:Con:=⟨H.p,H.r,F⟩
theorem ok:ConOk P_ gl 135 c:=co H func135 .nil rn
end F135
namespace F97
noncomputable def H:Hd:=⟨[Sb,Si,Si],[Sq,Si], .d,⟨[(135,F135.c)],gl,false⟩,[],f97⟩
noncomputable def F:=u3 Amw
theorem rn x:H.u P_ x=F x:=by kernel_rfl
noncomputable def c:Con:=⟨H.p,H.r,F⟩
theorem ok:ConOk P_ gl 97 c:=co H func97 (.cons F135.ok .nil) rn
end F97
namespace F147
abbrev R_:=LB
noncomputable def H:Hd:=⟨[Si,Si,Sq],[Ob 5],(.seq .d (.seq .d (.cut [7] [] (.seq .d (.blk (.loop [7,20,21,22] [] .d))) .d))),⟨[(90,F90.c)],gl,false⟩,[],f147⟩
def t4(a b:Int)(f:UInt64)(h:Int)(g:LB):S:=⟨[(7, .own 0),(20, .own 1),(21,vi (Ac ([(2000:UInt64),(Ae (Ad a (32:Int)):UInt64),(Ae b:UInt64),f,(0:UInt64),(0:UInt64)]:LQ))),(22,vi h)],[Ab 5 g, .arr 146 (.int .u64) ([(2000:UInt64),(Ae (Ad a (32:Int)):UInt64),(Ae b:UInt64),f,(0:UInt64),(0:UInt64)]:LQ)],[]⟩
def z4:Nat→S→Option R_:=H.i P_ [r,r,l,r,d]
def x6(g:LB):Option R_:=H.e P_ [r,r,r] ⟨[(7, .own 0)],[Ab 5 g],[]⟩
def x4(a b:Int)(f:UInt64)(h:Int)(g:LB):Option R_:=H.e P_ [r,r,l,r,d] (t4 a b f h g)
theorem e6:x6=Awo:=by kernel_rfl
theorem i4(a b:Int)(f:UInt64):∀(q:Nat) (h:Int) (g:LB),z4 q (t4 a b f h g)=Wg a b f q h g:=
 ind (fun _ _=>by kernel_rfl) fun q ih h g=>Eq.trans (b:=An8 x6 (fun h g=>(z4 q) (t4 a b f h g)) a b f h g) (by kernel_rfl) (by simp only[e6,ih]<;>rfl)
theorem e4:x4=Avq:=by funext a b f h g;exact Eq.trans (by kernel_rfl) ((i4 a b f Cu h g).trans (by rw[As];rfl))
noncomputable def F:=u3 At7
theorem rn x:H.u P_ x=F x:=Eq.trans (b:=u3 (Av2 x4) x) (by kernel_rfl) (by simp only[e4]<;>rfl)
noncomputable def c:Con:=⟨H.p,H.r,F⟩
theorem ok:ConOk P_ gl 147 c:=co H func147 (.cons F90.ok .nil) rn
end F147
namespace F146
noncomputable def H:Hd:=⟨[Sb,Sq],[.agg [Si,Si],Sz], .d,⟨[(97,F97.c),(100,F100.c),(147,F147.c)],gl,false⟩,[],f146⟩
noncomputable def F:=u2 Ag7
theorem rn x:H.u P_ x=F x:=by kernel_rfl
noncomputable def c:Con:=⟨H.p,H.r,F⟩
theorem ok:ConOk P_ gl 146 c:=co H func146 (.cons F97.ok (.cons F100.ok (.cons F147.ok .nil))) rn
end F146
namespace F170
noncomputable def H:Hd:=⟨[Sb],[Si,Si], .d,⟨[(100,F100.c),(145,F145.c),(146,F146.c),(147,F147.c)],gl,false⟩,[],f170⟩
noncomputable def F:=Aul
theorem rn x:H.u P_ x=F x:=by kernel_rfl
noncomputable def c:Con:=⟨H.p,H.r,F⟩
theorem ok:ConOk P_ gl 170 c:=co H func170 (.cons F100.ok (.cons F145.ok (.cons F146.ok (.cons F147.ok .nil)))) rn
end F170
namespace F133
noncomputable def H:Hd:=⟨[Sb],[Si,Si], .d,⟨[(169,F169.c),(170,F170.c)],gl,false⟩,[],f133⟩
noncomputable def F:=Se
theorem rn x:H.u P_ x=F x:=by kernel_rfl
noncomputable def c:Con:=⟨H.p,H.r,F⟩
theorem ok:ConOk P_ gl 133 c:=co H func133 (.cons F169.ok (.cons F170.ok .nil)) rn
end F133
theorem Bdw:ConOk Tryz.prog gl 46 Amd:=Bb7 ent46 F133.ok
namespace F134
noncomputable def H:Hd:=⟨[Ss,Ss],[Sz], .d,⟨[],gl,false⟩,[],f134⟩
noncomputable def F:=u2 Hn
theorem rn x:H.u P_ x=F x:=by kernel_rfl
noncomputable def c:Con:=⟨H.p,H.r,F⟩
theorem ok:ConOk P_ gl 134 c:=co H func134 .nil rn
end F134
namespace F96
noncomputable def H:Hd:=⟨[Ss,Ss],[Sz], .d,⟨[(134,F134.c)],gl,false⟩,[],f96⟩
noncomputable def F:=u2 Ra
theorem rn x:H.u P_ x=F x:=by kernel_rfl
noncomputable def c:Con:=⟨H.p,H.r,F⟩
theorem ok:ConOk P_ gl 96 c:=co H func96 (.cons F134.ok .nil) rn
end F96
namespace F47
abbrev R_:=(Int×Int×Int×Int×Int×Int)
noncomputable def H:Hd:=⟨[Sb],[.agg [Si,Si,Si,Si,Si],Si],(.seq .d (.seq .d (.seq .d (.seq .d (.seq .d (.seq .d (.seq .d (.cut [2,8] [] (.seq .d (.blk (.loop [0,2,8,9,44,45] [] .d))) .d)))))))),⟨[(91,F91.c),(96,F96.c),(97,F97.c),(98,F98.c),(99,F99.c)],gl,false⟩,[],f47⟩
def t4(b:LB)(g f:Int)(a:LI):S:=⟨[(0,vb b),(2, .ptr 0 []),(8, .ptr 1 []),(9,vi g),(44, .val (.vec 5 (.int .i64)) ([(2:Int),(2:Int),(2:Int),(4:Int),(4:Int)]:LI)),(45,vi f)],[.box 32 (.agg [vi 0,vi 0,vi 0,vi 0,vi 0]), .box 144 (.val (.vec 5 (.int .i64)) a)],[]⟩
def z4:Nat→S→Option R_:=H.i P_ [r,r,r,r,r,r,r,l,r,d]
def x6(a:LI):Option R_:=H.e P_ [r,r,r,r,r,r,r,r] ⟨[(2, .ptr 0 []),(8, .ptr 1 [])],[.box 32 (.agg [vi 0,vi 0,vi 0,vi 0,vi 0]), .box 144 (.val (.vec 5 (.int .i64)) a)],[]⟩
def x4(b:LB)(g f:Int)(a:LI):Option R_:=H.e P_ [r,r,r,r,r,r,r,l,r,d] (t4 b g f a)
theorem e6:x6=Zh:=by kernel_rfl
theorem i4(b:LB):∀(q:Nat) (g f:Int) (a:LI),z4 q (t4 b g f a)=Kk b q g f a:=
 ind (fun _ _ _=>by kernel_rfl) fun q ih g f a=>Eq.trans (b:=Aag x6 (fun g f a=>(z4 q) (t4 b g f a)) b g f a) (by kernel_rfl) (by simp only[e6,ih]<;>rfl)
theorem e4:x4=Zi:=by funext b g f a;exact Eq.trans (by kernel_rfl) ((i4 b Cu g f a).trans (by rw[As];rfl))
noncomputable def F:=Ak4
theorem rn x:H.u P_ x=F x:=Eq.trans (b:=Ahl x4 x) (by kernel_rfl) (by simp only[e4]<;>rfl)
noncomputable def c:Con:=⟨H.p,H.r,F⟩
theorem ok:ConOk P_ gl 47 c:=co H func47 (.cons F91.ok (.cons F96.ok (.cons F97.ok (.cons F98.ok (.cons F99.ok .nil))))) rn
end F47
namespace F48
noncomputable def H:Hd:=⟨[Sb,Ss],[Sz,Si], .d,⟨[(41,F41.c),(100,F100.c)],gl,false⟩,[],f48⟩
noncomputable def F:=u2 Aas
theorem rn x:H.u P_ x=F x:=by kernel_rfl
noncomputable def c:Con:=⟨H.p,H.r,F⟩
theorem ok:ConOk P_ gl 48 c:=co H func48 (.cons F41.ok (.cons F100.ok .nil)) rn
end F48
namespace F49
noncomputable def H:Hd:=⟨[.agg [Si,Si,Si,Si,Si]],[Ol 3,Si], .d,⟨[(89,F89.c),(101,F101.c)],gl,false⟩,[],f49⟩
noncomputable def F:=u5 Qb
theorem rn x:H.u P_ x=F x:=by kernel_rfl
noncomputable def c:Con:=⟨H.p,H.r,F⟩
theorem ok:ConOk P_ gl 49 c:=co H func49 (.cons F89.ok (.cons F101.ok .nil)) rn
end F49
namespace F50
abbrev R_:=(LI×Int)
noncomputable def H:Hd:=⟨[Sb,Si],[Ol 3,Si],(.seq .d (.seq .d (.seq .d (.seq .d (.seq .d (.seq .d (.cut [10] [] (.seq .d (.blk (.loop [0,10,48,49] [] .d))) .d))))))),⟨[(91,F91.c),(93,F93.c),(97,F97.c)],gl,false⟩,[],f50⟩
def t4(b:LB)(f:LI)(g:Int)(a:LI):S:=⟨[(0,vb b),(10, .own 0),(48,vi (Ac f)),(49,vi g)],[Ai 3 a],[]⟩
def z4:Nat→S→Option R_:=H.i P_ [r,r,r,r,r,r,l,r,d]
def x6(a:LI):Option R_:=H.e P_ [r,r,r,r,r,r,r] ⟨[(10, .own 0)],[Ai 3 a],[]⟩
def x4(b:LB)(f:LI)(g:Int)(a:LI):Option R_:=H.e P_ [r,r,r,r,r,r,l,r,d] (t4 b f g a)
theorem e6:x6=Adb:=by kernel_rfl
theorem i4(b:LB)(f:LI):∀(q:Nat) (g:Int) (a:LI),z4 q (t4 b f g a)=Pw b f q g a:=
 ind (fun _ _=>by kernel_rfl) fun q ih g a=>Eq.trans (b:=Adf x6 (fun g a=>(z4 q) (t4 b f g a)) b f g a) (by kernel_rfl) (by simp only[e6,ih]<;>rfl)
theorem e4:x4=Alf:=by funext b f g a;exact Eq.trans (by kernel_rfl) ((i4 b f Cu g a).trans (by rw[As];rfl))
noncomputable def F:=u2 Ao9
theorem rn x:H.u P_ x=F x:=Eq.trans (b:=u2 (Ald x4) x) (by kernel_rfl) (by simp only[e4]<;>rfl)
noncomputable def c:Con:=⟨H.p,H.r,F⟩
theorem ok:ConOk P_ gl 50 c:=co H func50 (.cons F91.ok (.cons F93.ok (.cons F97.ok .nil))) rn
end F50
namespace F11
abbrev R_:=(Int×Int×Int×Int×Int×Int×LI×Int)
noncomputable def H:Hd:=⟨[Sb,Ss],[.agg [.agg [Si,Si,Si,Si,Si],Si,Ol 3],Si],(.seq .d (.seq .d (.seq .d (.seq .d (.seq .d (.seq .d (.seq .d (.seq .d (.seq .d (.cut [0,4,6,8] [] .d .d)))))))))),⟨[(46,Amd),(47,F47.c),(48,F48.c),(49,F49.c),(50,F50.c)],gl,false⟩,[],f11⟩
def x2(a:LB)(b f g h k n:Int):Option R_:=H.e P_ [r,r,r,r,r,r,r,r,r,r] ⟨[(0,vb a),(4, .ptr 0 []),(6,vi n),(8, .ptr 1 [])],[.box 35 (.agg [.agg [vi 0,vi 0,vi 0,vi 0,vi 0],vi 0, .nils]), .box 32 (.agg [vi b,vi f,vi g,vi h,vi k])],[]⟩
theorem e2:x2=Nc:=by kernel_rfl
noncomputable def F:=u2 seekto_Open
theorem rn x:H.u P_ x=F x:=Eq.trans (b:=u2 (Rp x2) x) (by kernel_rfl) (by simp only[e2]<;>rfl)
noncomputable def c:Con:=⟨H.p,H.r,F⟩
theorem ok:ConOk P_ gl 11 c:=co H func11 (.cons Bdw (.cons F47.ok (.cons F48.ok (.cons F49.ok (.cons F50.ok .nil))))) rn
end F11
namespace F102
abbrev R_:=(LI×Int)
abbrev K_:=S→Option R_
noncomputable def H:Hd:=⟨[Sl],[Ol 3,Si],(.seq .d (.seq .d (.seq .d (.seq .d (.seq .d (.cut [7] [] (.seq .d (.blk (.loop [6,7,17,18,19] [] (.seq .d (.seq .d (.cut [6,7,17,18,19] [] (.blk (.seq .d (.keep [6,7,9,17,18,19,23,24,25,26,27,28] true))) .d)))))) .d)))))),⟨[(93,F93.c)],gl,false⟩,[(138, .d)],f102⟩
def t6(a:LI)(b g:Int)(f:LI):S:=⟨[(6, .fn 138 [.ptr 0 []]),(7, .own 1),(17,vl a),(18,vi (Ac a)),(19,vi b)],[.box 3 (vi g),Ai 3 f],[]⟩
def z6:Nat→S→Option R_:=H.i P_ [r,r,r,r,r,l,r,d]
def x10(f:LI):Option R_:=H.e P_ [r,r,r,r,r,r] ⟨[(7, .own 0)],[Ai 3 f],[]⟩
def x8(kn6:K_)(a:LI)(b g h:Int)(k:LI):Option R_:=H.e P_ [r,r,r,r,r,l,r,d,(lp kn6),r,r,r] ⟨[(6, .fn 138 [.ptr 0 []]),(7, .own 1),(17,vl a),(18,vi (Ac a)),(19,vi b)],[.box 3 (vi (Ad g h)),Ai 3 k],[]⟩
def x6(a:LI)(b g:Int)(f:LI):Option R_:=H.e P_ [r,r,r,r,r,l,r,d] (t6 a b g f)
theorem e10:x10=Aj7:=by kernel_rfl
theorem e8(kn6:K_)(a:LI):x8 kn6 a=Ack (fun b g f=>kn6 (t6 a b g f)) a:=by kernel_rfl
theorem i6(a:LI):∀(q:Nat) (b g:Int) (f:LI),z6 q (t6 a b g f)=Jv a q b g f:=
 ind (fun _ _ _=>by kernel_rfl) fun q ih b g f=>Eq.trans (b:=So (x8 (z6 q) a) x10 a b g f) (by kernel_rfl) (by simp only[e8,e10,ih]<;>rfl)
theorem e6:x6=Ang:=by funext a b g f;exact Eq.trans (by kernel_rfl) ((i6 a Cu b g f).trans (by rw[As];rfl))
noncomputable def F:=Vh
theorem rn x:H.u P_ x=F x:=Eq.trans (b:=Acg x6 x) (by kernel_rfl) (by simp only[e6]<;>rfl)
noncomputable def c:Con:=⟨H.p,H.r,F⟩
theorem ok:ConOk P_ gl 102 c:=cr H func102 (.cons F93.ok .nil) (AnsOk.cons ent138 AnsOk.nil) rn
end F102
namespace F140
noncomputable def H:Hd:=⟨[Sb],[Sb,Si], .d,⟨[(91,F91.c),(135,F135.c)],gl,false⟩,[],f140⟩
noncomputable def F:=Yu
theorem rn x:H.u P_ x=F x:=by kernel_rfl
noncomputable def c:Con:=⟨H.p,H.r,F⟩
theorem ok:ConOk P_ gl 140 c:=co H func140 (.cons F91.ok (.cons F135.ok .nil)) rn
end F140
namespace F141
noncomputable def H:Hd:=⟨[Sb],[.agg [Ob 5,Si],Si], .d,⟨[(173,F173.c)],gl,false⟩,[],f141⟩
noncomputable def F:=Bil
theorem rn x:H.u P_ x=F x:=by kernel_rfl
noncomputable def c:Con:=⟨H.p,H.r,F⟩
theorem ok:ConOk P_ gl 141 c:=co H func141 (.cons F173.ok .nil) rn
end F141
namespace F176
abbrev R_:=UInt64
noncomputable def H:Hd:=⟨[.agg [Sb,Si],Si,Si],[Sq],(.seq .d (.seq .d (.cut [7] [] (.blk (.loop [1,2,3,7,8] [] .d)) .d))),⟨[],gl,false⟩,[],f176⟩
def t4(b f:Int)(h:LB)(k:Int)(g:UInt64)(a:Int):S:=⟨[(1,vi b),(2,vi f),(3, .ptr 0 []),(7,vq g),(8,vi a)],[.box 188 (.agg [vb h,vi k])],[]⟩
def z4:Nat→S→Option R_:=H.i P_ [r,r,l,d]
def x6(g:UInt64):Option R_:=H.e P_ [r,r,r] ⟨[(7,vq g)],[],[]⟩
def x4(b f:Int)(h:LB)(k:Int)(g:UInt64)(a:Int):Option R_:=H.e P_ [r,r,l,d] (t4 b f h k g a)
theorem e6:x6=Bax:=by kernel_rfl
theorem i4(b f:Int)(h:LB)(k:Int):∀(q:Nat) (g:UInt64) (a:Int),z4 q (t4 b f h k g a)=Aen b f h k q g a:=
 ind (fun _ _=>by kernel_rfl) fun q ih g a=>Eq.trans (b:=Atn x6 (fun g a=>(z4 q) (t4 b f h k g a)) b f h k g a) (by kernel_rfl) (by simp only[e6,ih]<;>rfl)
theorem e4:x4=Baq:=by funext b f h k g a;exact Eq.trans (by kernel_rfl) ((i4 b f h k Cu g a).trans (by rw[As];rfl))
noncomputable def F:=u4 Axt
theorem rn x:H.u P_ x=F x:=Eq.trans (b:=u4 (Ba0 x4) x) (by kernel_rfl) (by simp only[e4]<;>rfl)
noncomputable def c:Con:=⟨H.p,H.r,F⟩
theorem ok:ConOk P_ gl 176 c:=co H func176 .nil rn
end F176
namespace F174
abbrev R_:=(LB×Int×Int)
abbrev K_:=S→Option R_
noncomputable def H:Hd:=⟨[.agg [Sb,Si],Si,Si],[.agg [Ob 5,Si],Si],(.seq .d (.seq .d (.seq .d (.seq .d (.cut [6,8] [] (.seq .d (.blk (.loop [2,3,6,8,9] [⟨8,[0], .own 5 (.int .u8)⟩] (.seq .d (.cut [2,3,6,8,9] [] (.blk (.seq .d (.keep [2,3,6,8,9,10,39,40,41,42,43] true))) .d))))) .d))))),⟨[(161,F161.c),(176,F176.c)],gl,false⟩,[(191,(.blk (.loop [0,1,2] [] (.seq .d (.blk (.cut [0,1,2] [] .d (.seq .d (.cut [0,1,2,7] [] .d .d))))))))],f174⟩
def t44(a:Int)(g:LB)(f b:Int)(k n:UInt64)(m h:Int)(u:LB):S:=⟨[(0, .ptr 0 []),(1,vq n),(2,vi m)],[.box 188 (.agg [.own 3,vi h]), .box 188 (.agg [vb g,vi f]), .box 188 (.agg [.nils,vi 0]),Ab 5 u],[[(2,vi a),(3, .ptr 1 []),(6, .ptr 2 []),(8, .ptr 0 []),(9,vi b),(10,vi (Da (64:Int) (Ah a b))),(39, .agg [vb g,vi f]),(40,vi b),(41,vi (Da (64:Int) (Ah a b))),(42,vq k),(43,vi (Da (64:Int) (Ah a b)))]]⟩
def z44(kn27:K_):Nat→S→Option R_:=H.i P_ [r,r,r,r,l,r,d,(lp kn27),r,l,d,r,(call 5 191),d]
def t27(a:Int)(g:LB)(f b o:Int)(p:LB):S:=⟨[(2,vi a),(3, .ptr 0 []),(6, .ptr 1 []),(8, .ptr 2 []),(9,vi b)],[.box 188 (.agg [vb g,vi f]), .box 188 (.agg [.nils,vi 0]), .box 188 (.agg [.own 3,vi o]),Ab 5 p],[]⟩
def z27:Nat→S→Option R_:=H.i P_ [r,r,r,r,l,r,d]
def x52(o:Int)(p:LB):Option R_:=H.e P_ [r,r,r,r,r] ⟨[(6, .ptr 0 []),(8, .ptr 1 [])],[.box 188 (.agg [.nils,vi 0]), .box 188 (.agg [.own 2,vi o]),Ab 5 p],[]⟩
def x50(kn27:K_)(a:Int)(g:LB)(f b h:Int)(u:LB):Option R_:=H.e P_ [r,r,r,r,l,r,d,(lp kn27),r,r] ⟨[(2,vi a),(3, .ptr 0 []),(6, .ptr 1 []),(8, .ptr 2 []),(9,vi b)],[.box 188 (.agg [vb g,vi f]), .box 188 (.agg [.nils,vi 0]), .box 188 (.agg [.own 3,vi h]),Ab 5 u],[]⟩
def x48(kn27 kn44:K_)(a b:Int)(g:LB)(f:Int)(k n:UInt64)(m h:Int)(w:LB):Option R_:=H.e P_ [r,r,r,r,l,r,d,(lp kn27),r,l,d,r,(call 5 191),d,(lp kn44),r,d,r,r,r] ⟨[(0, .ptr 0 []),(1,vq n),(2,vi m),(7,vi (Da m (Ah (8:Int) (Cx h (7:Int)))))],[.box 188 (.agg [.own 3,vi h]), .box 188 (.agg [vb g,vi f]), .box 188 (.agg [.nils,vi 0]),Ab 5 w],[[(2,vi a),(3, .ptr 1 []),(6, .ptr 2 []),(8, .ptr 0 []),(9,vi b),(10,vi (Da (64:Int) (Ah a b))),(39, .agg [vb g,vi f]),(40,vi b),(41,vi (Da (64:Int) (Ah a b))),(42,vq k),(43,vi (Da (64:Int) (Ah a b)))]]⟩
def x47(kn27 kn44:K_)(a b:Int)(g:LB)(f:Int)(k n:UInt64)(m h:Int)(v:LB):Option R_:=H.e P_ [r,r,r,r,l,r,d,(lp kn27),r,l,d,r,(call 5 191),d,(lp kn44),r,d,r] ⟨[(0, .ptr 0 []),(1,vq n),(2,vi m)],[.box 188 (.agg [.own 3,vi h]), .box 188 (.agg [vb g,vi f]), .box 188 (.agg [.nils,vi 0]),Ab 5 v],[[(2,vi a),(3, .ptr 1 []),(6, .ptr 2 []),(8, .ptr 0 []),(9,vi b),(10,vi (Da (64:Int) (Ah a b))),(39, .agg [vb g,vi f]),(40,vi b),(41,vi (Da (64:Int) (Ah a b))),(42,vq k),(43,vi (Da (64:Int) (Ah a b)))]]⟩
def x44(kn27:K_)(a:Int)(g:LB)(f b:Int)(k n:UInt64)(m h:Int)(u:LB):Option R_:=H.e P_ [r,r,r,r,l,r,d,(lp kn27),r,l,d,r,(call 5 191),d] (t44 a g f b k n m h u)
def x27(a:Int)(g:LB)(f b o:Int)(p:LB):Option R_:=H.e P_ [r,r,r,r,l,r,d] (t27 a g f b o p)
theorem e52:x52=Aoj:=by kernel_rfl
theorem e50(kn27:K_)(a:Int)(g:LB)(f:Int):x50 kn27 a g f=Agq (fun b o p=>kn27 (t27 a g f b o p)) a g f:=by kernel_rfl
theorem e48(kn27 kn44:K_)(a:Int)(g:LB)(f b:Int)(k:UInt64):x48 kn27 kn44 a b g f k=Aos (fun n m h u=>kn44 (t44 a g f b k n m h u)) a b g f k:=by kernel_rfl
theorem e47(kn27 kn44:K_)(a:Int)(g:LB)(f b:Int)(k:UInt64):x47 kn27 kn44 a b g f k=Ago (fun n m h u=>kn44 (t44 a g f b k n m h u)) a b g f k:=Eq.trans (b:=Apn (x48 kn27 kn44 a b g f k) a b g f k) (by kernel_rfl) (by simp only[e48]<;>rfl)
theorem i44(kn27:K_)(a:Int)(g:LB)(f b:Int)(k:UInt64):∀(q:Nat) (n:UInt64) (m h:Int) (u:LB),z44 kn27 q (t44 a g f b k n m h u)=Ls (fun b o p=>kn27 (t27 a g f b o p)) a g f b k q n m h u:=
 ind (fun _ _ _ _=>by kernel_rfl) fun q ih n m h u=>Eq.trans (b:=Agn (x47 kn27 (z44 kn27 q) a b g f k) (x50 kn27 a g f) a g f b k n m h u) (by kernel_rfl) (by simp only[e47,e50,ih]<;>rfl)
theorem e44(kn27:K_)(a:Int)(g:LB)(f:Int):x44 kn27 a g f=Ao4 (fun b o p=>kn27 (t27 a g f b o p)) a g f:=by funext b k n m h u;exact Eq.trans (by kernel_rfl) ((i44 kn27 a g f b k Cu n m h u).trans (by rw[As];rfl))
theorem i27(a:Int)(g:LB)(f:Int):∀(q:Nat) (b o:Int) (p:LB),z27 q (t27 a g f b o p)=Te a g f q b o p:=
 ind (fun _ _ _=>by kernel_rfl) fun q ih b o p=>Eq.trans (b:=Ao7 (x44 (z27 q) a g f) x52 a g f b o p) (by kernel_rfl) (by simp only[e44,e52,ih]<;>rfl)
theorem e27:x27=Apu:=by funext a g f b o p;exact Eq.trans (by kernel_rfl) ((i27 a g f Cu b o p).trans (by rw[As];rfl))
noncomputable def F:=u4 Ato
theorem rn x:H.u P_ x=F x:=Eq.trans (b:=u4 (Atk x27) x) (by kernel_rfl) (by simp only[e27]<;>rfl)
noncomputable def c:Con:=⟨H.p,H.r,F⟩
theorem ok:ConOk P_ gl 174 c:=cr H func174 (.cons F161.ok (.cons F176.ok .nil)) (AnsOk.cons ent191 AnsOk.nil) rn
end F174
namespace F143
noncomputable def H:Hd:=⟨[.agg [Sb,Si],Si,Si],[Sq,Si], .d,⟨[(161,F161.c),(176,F176.c)],gl,false⟩,[],f143⟩
noncomputable def F:=u4 Aau
theorem rn x:H.u P_ x=F x:=by kernel_rfl
noncomputable def c:Con:=⟨H.p,H.r,F⟩
theorem ok:ConOk P_ gl 143 c:=co H func143 (.cons F161.ok (.cons F176.ok .nil)) rn
end F143
namespace F214
noncomputable def H:Hd:=⟨[Sq],[Si], .d,⟨[],gl,false⟩,[],f214⟩
noncomputable def F:=Ex
theorem rn x:H.u P_ x=F x:=by kernel_rfl
noncomputable def c:Con:=⟨H.p,H.r,F⟩
theorem ok:ConOk P_ gl 214 c:=co H func214 .nil rn
end F214
namespace F209
def Ah0(j6:Int→UInt64→Int→LB→Int→Option (Int×Int×Int))(g:LB)(b a:Int):Option (Int×Int×Int):=
(Ge g b).bind fun m=>
if(Bf m 0)then
some (0,0,m)
else
if(Bw a 0)then
some (0,0,2)
else
if(Jt a b)then
some (0,0,24)
else
(fun n:Option (Int×Int×Int)=>
(fun o:Option (Int×Int×Int)=>
bo2 (
o)) (
bo (
n))) (
(Aau g b a (Da 48 (Ah b a))).bind fun(k,h)=>
j6 h k a g b)
theorem Ayd: @Ah0= @Vg:=by
  unfold Ah0 Vg
  simp only[Ba5,Ar3,Ast]
abbrev R_:=(Int×Int×Int)
noncomputable def H:Hd:=⟨[.agg [Sb,Si],Si],[Si,Si,Si],(.seq .d (.seq .d (.seq .d (.seq .d (.seq .d (.cut [3,5,6,8,9] [] (.keep [2,3,5,6,8,9,22,23,24,25,26,27,28,29] false) (.seq .d (.seq .d (.cut [] [] (.blk (.seq (.blk (.seq (.blk (.cut [] [] (.cut [3,4,5] [] (.cut [3,4,5,36] [] (.keep [3,4,5,8,36,37,38,39,40] true) .d) .d) .d)) .d)) .d)) .d))))))))),⟨[(143,F143.c),(161,F161.c),(214,F214.c)],gl,false⟩,[(213, .d)],f209⟩
def x10:Option R_:=H.e P_ [r,r,r,r,r,r,r,r,r] ⟨[],[],[]⟩
def x9:Option R_:=H.e P_ [r,r,r,r,r,r,r,r,l,d,l,d,l,d,r] ⟨[],[],[]⟩
def x8(f a:Int):Option R_:=H.e P_ [r,r,r,r,r,r,r,r,l,d,l,d,l,d,l,r] ⟨[(3, .ptr 0 []),(4,vi f),(5,vi 0)],[.box 3 (vi a)],[]⟩
def x7(f b a:Int):Option R_:=H.e P_ [r,r,r,r,r,r,r,r,l,d,l,d,l,d,l,l,r] ⟨[(3, .ptr 0 []),(4,vi f),(5,vi 0),(36,vt (Bw f (Da (48:Int) (Ah b a))))],[.box 3 (vi a)],[]⟩
def x6(h:Int)(k:UInt64)(a:Int)(g:LB)(b:Int):Option R_:=H.e P_ [r,r,r,r,r,r] ⟨[(3, .ptr 0 []),(5,vi 0),(6,vi h),(8, .fn 213 [.ptr 1 [], .ptr 0 []]),(9,vq k)],[.box 3 (vi a), .box 188 (.agg [vb g,vi b])],[]⟩
theorem e10:x10=Ar8:=by kernel_rfl
theorem e9:x9=Avp:=Eq.trans (b:=Au1 x10) (by kernel_rfl) (by simp only[e10]<;>rfl)
theorem e8:x8=Al9:=Eq.trans (b:=Al6 x9) (by kernel_rfl) (by simp only[e9]<;>rfl)
theorem e7:x7=Alg:=Eq.trans (b:=Alj x8) (by kernel_rfl) (by simp only[e8]<;>rfl)
theorem e6:x6=Amc:=Eq.trans (b:=Ama x7) (by kernel_rfl) (by simp only[e7]<;>rfl)
noncomputable def F:=u3 Acv
theorem rn x:H.u P_ x=F x:=Eq.trans (b:=u3 (Ah0 x6) x) (by kernel_rfl) (by unfold F;rw[Ayd];simp only[e6]<;>rfl)
noncomputable def c:Con:=⟨H.p,H.r,F⟩
theorem ok:ConOk P_ gl 209 c:=cr H func209 (.cons F143.ok (.cons F161.ok (.cons F214.ok .nil))) (AnsOk.cons ent213 AnsOk.nil) rn
end F209
namespace F200
abbrev R_:=(UInt32×Int×Int)
noncomputable def H:Hd:=⟨[.agg [Sb,Si],Si,Si],[Su,Si,Si],(.seq .d (.seq .d (.seq .d (.seq .d (.seq .d (.seq .d (.cut [2,3,7,10,11] [] .d .d))))))),⟨[(143,F143.c),(161,F161.c),(192,F192.c),(209,F209.c)],gl,false⟩,[],f200⟩
def x2(a b f:Int)(g:LB)(h k:Int):Option R_:=H.e P_ [r,r,r,r,r,r,r] ⟨[(2,vi a),(3, .ptr 0 []),(7,vi b),(10,vi f),(11,vi k)],[.box 188 (.agg [vb g,vi h])],[]⟩
theorem e2:x2=Agw:=by kernel_rfl
noncomputable def F:=u4 Aty
theorem rn x:H.u P_ x=F x:=Eq.trans (b:=u4 (Apq x2) x) (by kernel_rfl) (by simp only[e2]<;>rfl)
noncomputable def c:Con:=⟨H.p,H.r,F⟩
theorem ok:ConOk P_ gl 200 c:=co H func200 (.cons F143.ok (.cons F161.ok (.cons F192.ok (.cons F209.ok .nil)))) rn
end F200
namespace F175
abbrev R_:=(UInt32×Int×Int×Int×UInt64×UInt64×Int)
noncomputable def H:Hd:=⟨[.agg [Sb,Si],Si, .agg [Si,Si,Sq,Sq]],[Su,Si, .agg [Si,Si,Sq,Sq],Si],(.seq .d (.cut [1,3,5,8] [] .d (.seq .d (.seq .d (.cut [5,6,7,8] [] .d (.cut [5,6,7,8] [] (.keep [5,6,7,8,81] true) .d)))))),⟨[(143,F143.c),(161,F161.c),(162,F162.c),(163,F163.c),(200,F200.c)],gl,false⟩,[(166,(.seq .d (.seq .d (.seq .d (.blk (.cut [0,1,4] [] (.blk (.seq .d (.keep [0,1,4,6,18,19,20,21,22,23,24,25] true))) (.cut [] [] (.keep [0,1,4,27,28,29,30,31,32,33,34] true) .d))))))),(194, .d)],f175⟩
def x10(f:UInt32)(k w m:Int)(a n:UInt64):Option R_:=H.e P_ [r,r,r,r,r,r] ⟨[(5, .ptr 0 []),(6,vu f),(7,vi k),(8, .ptr 1 [])],[.box 184 (.agg [vi w,vi m,vq (Ad a (Ah (Ae f:UInt64) (Bl a (GI.toZ (4:UInt64)).toNat))),vq n]), .box 184 (.agg [vi 0,vi 0,vq 0,vq 0])],[]⟩
def x9(f:UInt32)(k m:Int)(a n:UInt64)(w:Int):Option R_:=H.e P_ [r,r,r,r,r,l,(call 1 166),r,r,r,d,r,r] ⟨[],[.box 184 (.agg [vi w,vi m,vq (Ad a (Ah (Ae f:UInt64) (Bl a (GI.toZ (4:UInt64)).toNat))),vq n]), .box 184 (.agg [vi 0,vi 0,vq 0,vq 0])],[[(5, .ptr 0 []),(6,vu f),(7,vi k),(8, .ptr 1 []),(81,vu f)]]⟩
def x8(f:UInt32)(k b:Int)(a:UInt64)(m:Int)(n:UInt64):Option R_:=H.e P_ [r,r,r,r,r,l,(call 1 166),r,r,r,d,r] ⟨[(0, .ptr 0 []),(1,vu f),(4, .fn 194 [])],[.box 184 (.agg [vi b,vi m,vq a,vq n]), .box 184 (.agg [vi 0,vi 0,vq 0,vq 0])],[[(5, .ptr 0 []),(6,vu f),(7,vi k),(8, .ptr 1 []),(81,vu f)]]⟩
def x7(b h:Int)(a g:UInt64)(f:UInt32)(k:Int):Option R_:=H.e P_ [r,r,r,r,r] ⟨[(5, .ptr 0 []),(6,vu f),(7,vi k),(8, .ptr 1 [])],[.box 184 (.agg [vi b,vi h,vq a,vq g]), .box 184 (.agg [vi 0,vi 0,vq 0,vq 0])],[]⟩
def x6(p:Int)(u:LB)(v b h:Int)(a g:UInt64):Option R_:=H.e P_ [r,r] ⟨[(1,vi p),(3, .ptr 0 []),(5, .ptr 1 []),(8, .ptr 2 [])],[.box 188 (.agg [vb u,vi v]), .box 184 (.agg [vi b,vi h,vq a,vq g]), .box 184 (.agg [vi 0,vi 0,vq 0,vq 0])],[]⟩
theorem e10:x10=Ala:=by kernel_rfl
theorem e9:x9=Api:=Eq.trans (b:=Aox x10) (by kernel_rfl) (by simp only[e10]<;>rfl)
theorem e8:x8=Aaa:=Eq.trans (b:=Aov x9) (by kernel_rfl) (by simp only[e9]<;>rfl)
theorem e7:x7=Ags:=Eq.trans (b:=Aps x8) (by kernel_rfl) (by simp only[e8]<;>rfl)
theorem e6:x6=Apw:=Eq.trans (b:=An4 x7) (by kernel_rfl) (by simp only[e7]<;>rfl)
noncomputable def F:=u7 Aca
theorem rn x:H.u P_ x=F x:=Eq.trans (b:=u7 (Apt x6) x) (by kernel_rfl) (by simp only[e6]<;>rfl)
noncomputable def c:Con:=⟨H.p,H.r,F⟩
theorem ok:ConOk P_ gl 175 c:=cr H func175 (.cons F143.ok (.cons F161.ok (.cons F162.ok (.cons F163.ok (.cons F200.ok .nil))))) (AnsOk.cons ent166 (AnsOk.cons ent194 AnsOk.nil)) rn
end F175
namespace F142
def Tr(j21:Int→Int→Int→UInt32→Int→(List (Int×Int×UInt64×UInt64×Unit))→LU→Int→Int→UInt64→UInt64→Option (LU×Int×Int))(j24:Int→LU→Option (LU×Int×Int))(a f:Int)(g:LB)(b k h:Int)(n:List (Int×Int×UInt64×UInt64×Unit))(m:LU):Option (LU×Int×Int):=
if(Bw h (Bg f a))then
(Ato g b k (Da (Ad k 81) b)).bind fun(ah,ae,af)=>
if(Bf af 0)then
some (([]:LU),0,af)
else
(Gw (Bf a 0)).bind fun _=>
(getI n (Ew h a)).bind fun _=>
(fun ai:Option (LU×Int×Int)=>
both (
both (
(getI n (Ew h a)).bind fun p=>
(fun ao:Option (LU×Int×Int)=>
bo (
ao)) (
(Aca ah ae 0 p.1 p.2.1 p.2.2.1 p.2.2.2.1).bind fun(w,v,aa,ab,ac,ad,y)=>
j21 k h y w v n m aa ab ac ad)) [
ai]) [
(getI n (Ew h a)).bind fun p=>
(fun aj:Option (LU×Int×Int)=>
both (
bo (
aj)) [
aj]) (
(Aca ah ae 0 p.1 p.2.1 p.2.2.1 p.2.2.2.1).bind fun(w,v,aa,ab,ac,ad,y)=>
j21 k h y w v n m aa ab ac ad),
bo (
ai)]) (
(getI n (Ew h a)).bind fun p=>
(Aca ah ae 0 p.1 p.2.1 p.2.2.1 p.2.2.2.1).bind fun(w,v,aa,ab,ac,ad,y)=>
j21 k h y w v n m aa ab ac ad)
else
j24 k m
theorem An7: @Tr= @Oi:=by
  unfold Tr Oi
  try simp only[Ba5,Ar3,Ast]
  all_goals
    repeat (refine funext fun _=>?_)
    repeat' first
      |with_reducible rfl
      |with_reducible refine Uw ?_ ?_
      |with_reducible refine Us ?_ ?_ ?_
      |with_reducible refine Uy ?_ ?_ ?_ ?_
      |((with_reducible refine Adj ?_ ?_);focus (intro h;first|(subst h;rfl)|(simp only[h];rfl)|(simp[Fj,Ac,h];done)))
      |with_reducible refine Ac9 fun x=>?_
      |with_reducible refine Alh (fun _=>?_) (fun _=>?_)
      |(refine Md (fun h=>by simp only[h,Ada,Ij,Hx,ite_self]) (fun x h=>?_);(try simp only[h,Ij]))
      |(refine Px (fun h=>?_) (fun h=>?_)<;>simp only[h,if_true,if_false,Bool.false_eq_true])
abbrev R_:=(LU×Int×Int)
abbrev K_:=S→Option R_
noncomputable def H:Hd:=⟨[Si,Si, .agg [Sb,Si]],[Ov 60,Si,Si],(.seq .d (.seq .d (.cut [0,1,5,9] [] (.seq .d (.blk (.loop [0,1,5,9,19] [] .d))) (.seq .d (.seq .d (.cut [11,12] [] (.seq .d (.blk (.loop [0,5,9,11,12,28,29] [⟨11,[], .own 60 (.int .u32)⟩] (.seq .d (.seq .d (.seq (.blk (.seq .d (.seq .d (.seq .d (.cut [0,5,9,11,12,13,15,16,17,18,28,29] [] (.mode false) (.seq .d (.cut [0,5,9,11,12,16,28,29] [] .d .d))))))) .d)))))) .d)))))),⟨[(160,F160.c),(174,F174.c),(175,F175.c)],gl,false⟩,[],f142⟩
def t16(a f:Int)(g:LB)(b k h:Int)(n:List (Int×Int×UInt64×UInt64×Unit))(m:LU):S:=⟨[(0,vi a),(5, .ptr 0 []),(9, .ptr 1 []),(11, .own 2),(12,vi k),(28,vi (Bg f a)),(29,vi h)],[.box 188 (.agg [vb g,vi b]), .box 185 (.val (.vec 6 (.cons (.int .i64) (.cons (.int .i64) (.cons (.int .u64) (.cons (.int .u64) .nil))))) n),Av 60 m],[]⟩
def z16:Nat→S→Option R_:=H.i P_ [r,r,r,r,r,l,r,d]
def t13(a f:Int)(g:LB)(b u:Int)(o:List (Int×Int×UInt64×UInt64×Unit)):S:=⟨[(0,vi a),(1,vi f),(5, .ptr 0 []),(9, .ptr 1 []),(19,vi u)],[.box 188 (.agg [vb g,vi b]), .box 185 (.val (.vec 6 (.cons (.int .i64) (.cons (.int .i64) (.cons (.int .u64) (.cons (.int .u64) .nil))))) o)],[]⟩
def z13:Nat→S→Option R_:=H.i P_ [r,r,l,r,d]
def x24(k:Int)(m:LU):Option R_:=H.e P_ [r,r,r,r,r,r] ⟨[(11, .own 0),(12,vi k)],[Av 60 m],[]⟩
def x22(kn16:K_)(a f:Int)(g:LB)(b k v:Int)(w:UInt32)(h:Int)(ag:List (Int×Int×UInt64×UInt64×Unit))(m:LU):Option R_:=H.e P_ [r,r,r,r,r,l,r,d,(lp kn16),r,r,l,d,r,r,r,r,r,r] ⟨[(0,vi a),(5, .ptr 0 []),(9, .ptr 1 []),(11, .own 2),(12,vi (Ad k v)),(16,vu w),(28,vi (Bg f a)),(29,vi h)],[.box 188 (.agg [vb g,vi b]), .box 185 (.val (.vec 6 (.cons (.int .i64) (.cons (.int .i64) (.cons (.int .u64) (.cons (.int .u64) .nil))))) ag),Av 60 m],[]⟩
def x21(kn16:K_)(a f:Int)(g:LB)(b k h y:Int)(w:UInt32)(v:Int)(n:List (Int×Int×UInt64×UInt64×Unit))(m:LU)(aa ab:Int)(ac ad:UInt64):Option R_:=H.e P_ [r,r,r,r,r,l,r,d,(lp kn16),r,r,l,d,r,r,r,r] ⟨[(0,vi a),(5, .ptr 0 []),(9, .ptr 1 []),(11, .own 2),(12,vi k),(13,vi h),(15,vi y),(16,vu w),(17,vi v),(18, .ptr 3 []),(28,vi (Bg f a)),(29,vi h)],[.box 188 (.agg [vb g,vi b]), .box 185 (.val (.vec 6 (.cons (.int .i64) (.cons (.int .i64) (.cons (.int .u64) (.cons (.int .u64) .nil))))) n),Av 60 m, .box 184 (.agg [vi aa,vi ab,vq ac,vq ad])],[]⟩
def x16(a f:Int)(g:LB)(b k h:Int)(n:List (Int×Int×UInt64×UInt64×Unit))(m:LU):Option R_:=H.e P_ [r,r,r,r,r,l,r,d] (t16 a f g b k h n m)
def x15(a f:Int)(g:LB)(b:Int)(o:List (Int×Int×UInt64×UInt64×Unit)):Option R_:=H.e P_ [r,r,r] ⟨[(0,vi a),(1,vi f),(5, .ptr 0 []),(9, .ptr 1 [])],[.box 188 (.agg [vb g,vi b]), .box 185 (.val (.vec 6 (.cons (.int .i64) (.cons (.int .i64) (.cons (.int .u64) (.cons (.int .u64) .nil))))) o)],[]⟩
def x13(a f:Int)(g:LB)(b u:Int)(o:List (Int×Int×UInt64×UInt64×Unit)):Option R_:=H.e P_ [r,r,l,r,d] (t13 a f g b u o)
theorem e24:x24=Aib:=by kernel_rfl
theorem e22(kn16:K_)(a f:Int)(g:LB)(b:Int):x22 kn16 a f g b=Wf (fun k h n m=>kn16 (t16 a f g b k h n m)) a f g b:=by kernel_rfl
theorem e21(kn16:K_)(a f:Int)(g:LB)(b:Int):x21 kn16 a f g b=Od (fun k h n m=>kn16 (t16 a f g b k h n m)) a f g b:=Eq.trans (b:=On (x22 kn16 a f g b) a f g b) (by kernel_rfl) (by simp only[e22]<;>rfl)
theorem i16(a f:Int)(g:LB)(b:Int):∀(q:Nat) (k h:Int) (n:List (Int×Int×UInt64×UInt64×Unit)) (m:LU),z16 q (t16 a f g b k h n m)=Kj a f g b q k h n m:=
 ind (fun _ _ _ _=>by kernel_rfl) fun q ih k h n m=>Eq.trans (b:=Tr (x21 (z16 q) a f g b) x24 a f g b k h n m) (by kernel_rfl) (by rw[An7];simp only[e21,e24,ih]<;>rfl)
theorem e16:x16=Ahq:=by funext a f g b k h n m;exact Eq.trans (by kernel_rfl) ((i16 a f g b Cu k h n m).trans (by rw[As];rfl))
theorem e15:x15=Vx:=Eq.trans (b:=Ah1 x16) (by kernel_rfl) (by simp only[e16]<;>rfl)
theorem i13(a f:Int)(g:LB)(b:Int):∀(q:Nat) (u:Int) (o:List (Int×Int×UInt64×UInt64×Unit)),z13 q (t13 a f g b u o)=Wu a f g b q u o:=
 ind (fun _ _=>by kernel_rfl) fun q ih u o=>Eq.trans (b:=Ahu x15 (fun u o=>(z13 q) (t13 a f g b u o)) a f g b u o) (by kernel_rfl) (by simp only[e15,ih]<;>rfl)
theorem e13:x13=Oo:=by funext a f g b u o;exact Eq.trans (by kernel_rfl) ((i13 a f g b Cu u o).trans (by rw[As];rfl))
noncomputable def F:=u4 Zs
theorem rn x:H.u P_ x=F x:=Eq.trans (b:=u4 (Aa6 x13) x) (by kernel_rfl) (by simp only[e13]<;>rfl)
noncomputable def c:Con:=⟨H.p,H.r,F⟩
theorem ok:ConOk P_ gl 142 c:=co H func142 (.cons F160.ok (.cons F174.ok (.cons F175.ok .nil))) rn
end F142
namespace F178
noncomputable def H:Hd:=⟨[Su],[Sx], .d,⟨[],gl,false⟩,[],f178⟩
noncomputable def F:=Th
theorem rn x:H.u P_ x=F x:=by kernel_rfl
noncomputable def c:Con:=⟨H.p,H.r,F⟩
theorem ok:ConOk P_ gl 178 c:=co H func178 .nil rn
end F178
namespace F201
noncomputable def H:Hd:=⟨[.agg [Si, .lf (.vec 16 (.int .i32)) none, .lf (.vec 16 (.int .i32)) none],Sx],[Sx, .agg [Si, .lf (.vec 16 (.int .i32)) none, .lf (.vec 16 (.int .i32)) none],Si], .d,⟨[(206,F206.c),(207,F207.c)],gl,false⟩,[],f201⟩
noncomputable def F:=u4 Ass
theorem rn x:H.u P_ x=F x:=by kernel_rfl
noncomputable def c:Con:=⟨H.p,H.r,F⟩
theorem ok:ConOk P_ gl 201 c:=co H func201 (.cons F206.ok (.cons F207.ok .nil)) rn
end F201
namespace F177
def Ajg(a:Int)(b:Int32)(f:Int)(g h:LX)(o:Int32):Option (Int32×Int×Int32×Int×LX×LX×Int):=
(Rt a b f g h).bind fun k=>
if(Bf k 0)then
some (0,0,0,0,(List.replicate 16 (0:Int32)),(List.replicate 16 (0:Int32)),k)
else
(Rj a b).bind fun(m,y)=>
(Ass f g h o).bind fun(n,p,u,v,w)=>
(fun aa:Option (Int32×Int×Int32×Int×LX×LX×Int)=>
bo (
aa)) (
some ((Ad n m),a,(Ad n m),p,u,v,w))
theorem Ayp: @Ajg= @Is:=by
  unfold Ajg Is
  simp only[Ba5,Ar3,Ast]
noncomputable def H:Hd:=⟨[.agg [Si,Sx, .agg [Si, .lf (.vec 16 (.int .i32)) none, .lf (.vec 16 (.int .i32)) none]],Sx],[Sx, .agg [Si,Sx, .agg [Si, .lf (.vec 16 (.int .i32)) none, .lf (.vec 16 (.int .i32)) none]],Si],(.seq .d (.seq .d (.seq .d (.seq .d (.seq (.mode false) .d))))),⟨[(187,F187.c),(188,F188.c),(201,F201.c)],gl,false⟩,[],f177⟩
noncomputable def F:=u6 Is
theorem rn x:H.u P_ x=F x:=Eq.trans (b:=u6 Ajg x) (by kernel_rfl) (by rw[Ayp];rfl)
noncomputable def c:Con:=⟨H.p,H.r,F⟩
theorem ok:ConOk P_ gl 177 c:=co H func177 (.cons F187.ok (.cons F188.ok (.cons F201.ok .nil))) rn
end F177
namespace F179
abbrev R_:=(LX×Int)
abbrev K_:=S→Option R_
noncomputable def H:Hd:=⟨[Si,Sw],[Ow 21,Si],(.seq .d (.seq .d (.seq .d (.cut [7] [] (.seq .d (.blk (.loop [0,7,8] [] (.seq .d (.cut [0,7,8] [] (.blk (.keep [0,7,8,24,25,26,27,28,29] true)) .d))))) .d)))),⟨[(183,F183.c),(184,F184.c)],gl,true⟩,[(202,(.seq .d (.cut [0,2] [] .d (.seq .d (.blk (.loop [0,3] [] .d))))))],f179⟩
def t18(b a g:Int)(h:LX):S:=⟨[(0, .view true 0 [] (.int .i32) a ((Ad a b)-a)),(3,vi g)],[Aw 21 h],[[(0,vi b),(7, .own 0),(8,vi a),(24, .own 0),(25,vi a),(26,vi a),(27,vi b),(28,vi (Ad a b)),(29, .view true 0 [] (.int .i32) a ((Ad a b)-a))]]⟩
def z18(kn12:K_):Nat→S→Option R_:=H.i P_ [r,r,r,l,r,d,(lp kn12),r,l,d,(call 6 202),r,r,r,d]
def t12(b a:Int)(f:LX):S:=⟨[(0,vi b),(7, .own 0),(8,vi a)],[Aw 21 f],[]⟩
def z12:Nat→S→Option R_:=H.i P_ [r,r,r,l,r,d]
def x22(f:LX):Option R_:=H.e P_ [r,r,r,r] ⟨[(7, .own 0)],[Aw 21 f],[]⟩
def x20(kn12:K_)(b a:Int)(h:LX):Option R_:=H.e P_ [r,r,r,l,r,d,(lp kn12),r,r] ⟨[(0,vi b),(7, .own 0),(8,vi a)],[Aw 21 h],[]⟩
def x18(kn12:K_)(b a g:Int)(h:LX):Option R_:=H.e P_ [r,r,r,l,r,d,(lp kn12),r,l,d,(call 6 202),r,r,r,d] (t18 b a g h)
def x17(kn12:K_)(b a:Int)(k:LX):Option R_:=H.e P_ [r,r,r,l,r,d,(lp kn12),r,l,d,(call 6 202),r,r] ⟨[(0, .view true 0 [] (.int .i32) a ((Ad a b)-a)),(2,vi (Ah ((Ad a b)-a) (1:Int)))],[Aw 21 k],[[(0,vi b),(7, .own 0),(8,vi a),(24, .own 0),(25,vi a),(26,vi a),(27,vi b),(28,vi (Ad a b)),(29, .view true 0 [] (.int .i32) a ((Ad a b)-a))]]⟩
def x12(b a:Int)(f:LX):Option R_:=H.e P_ [r,r,r,l,r,d] (t12 b a f)
theorem e22:x22=Axg:=by kernel_rfl
theorem e20(kn12:K_)(b:Int):x20 kn12 b=Apg (fun a f=>kn12 (t12 b a f)) b:=by kernel_rfl
theorem i18(kn12:K_)(b a:Int):∀(q:Nat) (g:Int) (h:LX),z18 kn12 q (t18 b a g h)=Tf (fun a f=>kn12 (t12 b a f)) b a q g h:=
 ind (fun _ _=>by kernel_rfl) fun q ih g h=>Eq.trans (b:=Agu (x20 kn12 b) (fun g h=>(z18 kn12 q) (t18 b a g h)) b a g h) (by kernel_rfl) (by simp only[e20,ih]<;>rfl)
theorem e18(kn12:K_)(b:Int):x18 kn12 b=Apl (fun a f=>kn12 (t12 b a f)) b:=by funext a g h;exact Eq.trans (by kernel_rfl) ((i18 kn12 b a Cu g h).trans (by rw[As];rfl))
theorem e17(kn12:K_)(b:Int):x17 kn12 b=Agt (fun a f=>kn12 (t12 b a f)) b:=Eq.trans (b:=Apd (x18 kn12 b) b) (by kernel_rfl) (by simp only[e18]<;>rfl)
theorem i12(b:Int):∀(q:Nat) (a:Int) (f:LX),z12 q (t12 b a f)=Pg b q a f:=
 ind (fun _ _=>by kernel_rfl) fun q ih a f=>Eq.trans (b:=Apy (x17 (z12 q) b) x22 b a f) (by kernel_rfl) (by simp only[e17,e22,ih]<;>rfl)
theorem e12:x12=Aob:=by funext b a f;exact Eq.trans (by kernel_rfl) ((i12 b Cu a f).trans (by rw[As];rfl))
noncomputable def F:=u2 Axq
theorem rn x:H.u P_ x=F x:=Eq.trans (b:=u2 (Atm x12) x) (by kernel_rfl) (by simp only[e12]<;>rfl)
noncomputable def c:Con:=⟨H.p,H.r,F⟩
theorem ok:ConOk P_ gl 179 c:=cr H func179 (.cons F183.ok (.cons F184.ok .nil)) (AnsOk.cons ent202 AnsOk.nil) rn
end F179
namespace F144
def Ro(j16:Int→Int32→Int→(List (Int×Int32×(Int×LX×LX×Unit)×Unit))→LX→Int→Int32→Int→LX→LX→Option (LX×Int))(j18:Int→Int→LX→Option (LX×Int))(f:LU)(a b g:Int)(h:List (Int×Int32×(Int×LX×LX×Unit)×Unit))(k:LX):Option (LX×Int):=
if(Bw g (Ac f))then
(getI f g).bind fun ag=>
(Gw (Bf a 0)).bind fun _=>
(getI h (Ew g a)).bind fun _=>
both (
(getI h (Ew g a)).bind fun m=>
both (
(Th ag).bind fun ae=>
(fun ao:Option (LX×Int)=>
bo (
ao)) (
(Is m.1 m.2.1 m.2.2.1.1 m.2.2.1.2.1 m.2.2.1.2.2.1 ae).bind fun(w,y,v,aa,ab,ac,u)=>
j16 g w u h k y v aa ab ac)) [
(Th ag).bind fun ae=>
(Is m.1 m.2.1 m.2.2.1.1 m.2.2.1.2.1 m.2.2.1.2.2.1 ae).bind fun(w,y,v,aa,ab,ac,u)=>
j16 g w u h k y v aa ab ac]) [
(Th ag).bind fun af=>
both (
(getI h (Ew g a)).bind fun ad=>
(fun ap:Option (LX×Int)=>
bo (
ap)) (
(Is ad.1 ad.2.1 ad.2.2.1.1 ad.2.2.1.2.1 ad.2.2.1.2.2.1 af).bind fun(w,y,v,aa,ab,ac,u)=>
j16 g w u h k y v aa ab ac)) [
(getI h (Ew g a)).bind fun ad=>
(Is ad.1 ad.2.1 ad.2.2.1.1 ad.2.2.1.2.1 ad.2.2.1.2.2.1 af).bind fun(w,y,v,aa,ab,ac,u)=>
j16 g w u h k y v aa ab ac],
both (
(getI h (Ew g a)).bind fun m=>
(Th ag).bind fun ae=>
(Is m.1 m.2.1 m.2.2.1.1 m.2.2.1.2.1 m.2.2.1.2.2.1 ae).bind fun(w,y,v,aa,ab,ac,u)=>
j16 g w u h k y v aa ab ac) [
(Th ag).bind fun af=>
(getI h (Ew g a)).bind fun ad=>
(Is ad.1 ad.2.1 ad.2.2.1.1 ad.2.2.1.2.1 ad.2.2.1.2.2.1 af).bind fun(w,y,v,aa,ab,ac,u)=>
j16 g w u h k y v aa ab ac]]
else
j18 a b k
theorem Anx: @Ro= @Jc:=by
  unfold Ro Jc
  try simp only[Ba5,Ar3,Ast]
  all_goals
    repeat (refine funext fun _=>?_)
    repeat' first
      |with_reducible rfl
      |with_reducible refine Uw ?_ ?_
      |with_reducible refine Us ?_ ?_ ?_
      |with_reducible refine Uy ?_ ?_ ?_ ?_
      |((with_reducible refine Adj ?_ ?_);focus (intro h;first|(subst h;rfl)|(simp only[h];rfl)|(simp[Fj,Ac,h];done)))
      |with_reducible refine Ac9 fun x=>?_
      |with_reducible refine Alh (fun _=>?_) (fun _=>?_)
      |(refine Md (fun h=>by simp only[h,Ada,Ij,Hx,ite_self]) (fun x h=>?_);(try simp only[h,Ij]))
      |(refine Px (fun h=>?_) (fun h=>?_)<;>simp only[h,if_true,if_false,Bool.false_eq_true])
abbrev R_:=(LX×Int)
abbrev K_:=S→Option R_
noncomputable def H:Hd:=⟨[.agg [Si,Si], .lf (.vec 16 (.int .i32)) none,Sv],[Ow 21,Si],(.seq .d (.seq .d (.cut [2,3,8] [] (.seq .d (.blk (.loop [2,3,4,8,20] [] .d))) (.seq .d (.cut [3,10] [] (.seq .d (.blk (.loop [3,8,10,33,34,35] [⟨10,[], .own 21 (.int .i32)⟩] (.seq .d (.seq .d (.seq (.blk (.seq .d (.seq .d (.cut [3,8,10,13,14,15,16,33,34,35] [] (.mode false) .d)))) .d)))))) .d))))),⟨[(63,F63.c),(157,F157.c),(177,F177.c),(178,F178.c),(179,F179.c)],gl,false⟩,[],f144⟩
def t13(f:LU)(a b g:Int)(h:List (Int×Int32×(Int×LX×LX×Unit)×Unit))(k:LX):S:=⟨[(3, .ptr 0 []),(8, .ptr 1 []),(10, .own 2),(33,vv f),(34,vi (Ac f)),(35,vi g)],[.box 74 (.agg [vi a,vi b]), .box 225 (.val (.vec 6 (.cons (.int .i64) (.cons (.int .i32) (.cons (.cons (.int .i64) (.cons (.vec 16 (.int .i32)) (.cons (.vec 16 (.int .i32)) .nil))) .nil)))) h),Aw 21 k],[]⟩
def z13:Nat→S→Option R_:=H.i P_ [r,r,r,r,l,r,d]
def t10(f:LU)(a b:Int)(o:LX)(p:Int)(n:List (Int×Int32×(Int×LX×LX×Unit)×Unit)):S:=⟨[(2,vv f),(3, .ptr 0 []),(4, .ptr 1 []),(8, .ptr 2 []),(20,vi p)],[.box 74 (.agg [vi a,vi b]), .box 136 (.val (.vec 16 (.int .i32)) o), .box 225 (.val (.vec 6 (.cons (.int .i64) (.cons (.int .i32) (.cons (.cons (.int .i64) (.cons (.vec 16 (.int .i32)) (.cons (.vec 16 (.int .i32)) .nil))) .nil)))) n)],[]⟩
def z10:Nat→S→Option R_:=H.i P_ [r,r,l,r,d]
def x18(a b:Int)(k:LX):Option R_:=H.e P_ [r,r,r,r,r] ⟨[(3, .ptr 0 []),(10, .own 1)],[.box 74 (.agg [vi a,vi b]),Aw 21 k],[]⟩
def x16(kn13:K_)(a:Int)(f:LU)(b g:Int)(w:Int32)(u:Int)(h:List (Int×Int32×(Int×LX×LX×Unit)×Unit))(k:LX)(y:Int)(v:Int32)(aa:Int)(ab ac:LX):Option R_:=H.e P_ [r,r,r,r,l,r,d,(lp kn13),r,r,l,d,r,r,r] ⟨[(3, .ptr 0 []),(8, .ptr 1 []),(10, .own 2),(13, .ptr 1 [.idx (Ew g a) 35]),(14,vx w),(15, .ptr 3 []),(16,vi u),(33,vv f),(34,vi (Ac f)),(35,vi g)],[.box 74 (.agg [vi a,vi b]), .box 225 (.val (.vec 6 (.cons (.int .i64) (.cons (.int .i32) (.cons (.cons (.int .i64) (.cons (.vec 16 (.int .i32)) (.cons (.vec 16 (.int .i32)) .nil))) .nil)))) h),Aw 21 k, .box 224 (.agg [vi y,vx v, .agg [vi aa, .val (.vec 16 (.int .i32)) ab, .val (.vec 16 (.int .i32)) ac]])],[]⟩
def x13(f:LU)(a b g:Int)(h:List (Int×Int32×(Int×LX×LX×Unit)×Unit))(k:LX):Option R_:=H.e P_ [r,r,r,r,l,r,d] (t13 f a b g h k)
def x12(f:LU)(a b:Int)(n:List (Int×Int32×(Int×LX×LX×Unit)×Unit)):Option R_:=H.e P_ [r,r,r] ⟨[(2,vv f),(3, .ptr 0 []),(8, .ptr 1 [])],[.box 74 (.agg [vi a,vi b]), .box 225 (.val (.vec 6 (.cons (.int .i64) (.cons (.int .i32) (.cons (.cons (.int .i64) (.cons (.vec 16 (.int .i32)) (.cons (.vec 16 (.int .i32)) .nil))) .nil)))) n)],[]⟩
def x10(f:LU)(a b:Int)(o:LX)(p:Int)(n:List (Int×Int32×(Int×LX×LX×Unit)×Unit)):Option R_:=H.e P_ [r,r,l,r,d] (t10 f a b o p n)
theorem e18:x18=Jd:=by kernel_rfl
theorem e16(kn13:K_)(f:LU)(a b:Int):x16 kn13 a f b=Ue (fun g h k=>kn13 (t13 f a b g h k)) a f b:=by kernel_rfl
theorem i13(f:LU)(a b:Int):∀(q:Nat) (g:Int) (h:List (Int×Int32×(Int×LX×LX×Unit)×Unit)) (k:LX),z13 q (t13 f a b g h k)=Gs f a b q g h k:=
 ind (fun _ _ _=>by kernel_rfl) fun q ih g h k=>Eq.trans (b:=Ro (x16 (z13 q) a f b) x18 f a b g h k) (by kernel_rfl) (by rw[Anx];simp only[e16,e18,ih]<;>rfl)
theorem e13:x13=Agb:=by funext f a b g h k;exact Eq.trans (by kernel_rfl) ((i13 f a b Cu g h k).trans (by rw[As];rfl))
theorem e12:x12=Tl:=Eq.trans (b:=Agc x13) (by kernel_rfl) (by simp only[e13]<;>rfl)
theorem i10(f:LU)(a b:Int)(o:LX):∀(q:Nat) (p:Int) (n:List (Int×Int32×(Int×LX×LX×Unit)×Unit)),z10 q (t10 f a b o p n)=Tv f a b o q p n:=
 ind (fun _ _=>by kernel_rfl) fun q ih p n=>Eq.trans (b:=Agg x12 (fun p n=>(z10 q) (t10 f a b o p n)) f a b o p n) (by kernel_rfl) (by simp only[e12,ih]<;>rfl)
theorem e10:x10=Mo:=by funext f a b o p n;exact Eq.trans (by kernel_rfl) ((i10 f a b o Cu p n).trans (by rw[As];rfl))
noncomputable def F:=u4 Pj
theorem rn x:H.u P_ x=F x:=Eq.trans (b:=u4 (Wi x10) x) (by kernel_rfl) (by simp only[e10]<;>rfl)
noncomputable def c:Con:=⟨H.p,H.r,F⟩
theorem ok:ConOk P_ gl 144 c:=co H func144 (.cons F63.ok (.cons F157.ok (.cons F177.ok (.cons F178.ok (.cons F179.ok .nil))))) rn
end F144
namespace F104
noncomputable def H:Hd:=⟨[.agg [Si,Si], .lf (.vec 16 (.int .i32)) none,Si,Sb],[Ow 21,Si], .d,⟨[(139,F139.c),(140,F140.c),(141,F141.c),(142,F142.c),(143,F143.c),(144,F144.c)],gl,false⟩,[],f104⟩
noncomputable def F:=u5 deframe_Decode
theorem rn x:H.u P_ x=F x:=by kernel_rfl
noncomputable def c:Con:=⟨H.p,H.r,F⟩
theorem ok:ConOk P_ gl 104 c:=co H func104 (.cons F139.ok (.cons F140.ok (.cons F141.ok (.cons F142.ok (.cons F143.ok (.cons F144.ok .nil)))))) rn
end F104
namespace F19
abbrev R_:=(LB×Int)
abbrev K_:=S→Option R_
noncomputable def H:Hd:=⟨[Si,Sw],[Ob 5,Si],(.seq .d (.seq .d (.seq .d (.cut [7] [] (.seq .d (.blk (.loop [0,7,17,18,19] [⟨7,[], .own 5 (.int .u8)⟩] (.seq .d (.seq .d (.cut [0,7,17,18,19] [] (.blk (.seq .d (.cut [0,7,9,17,18,19] [] .d (.seq .d (.blk (.loop [0,7,9,17,18,19,28,29] [] .d)))))) .d)))))) .d)))),⟨[(63,F63.c)],gl,false⟩,[],f19⟩
def t26(b:Int)(a:LX)(k:Int32)(f m:Int)(h:LB):S:=⟨[(0,vi b),(7, .own 0),(9,vx k),(17,vw a),(18,vi (Ac a)),(19,vi f),(28,vi (Bs b (8:Int))),(29,vi m)],[Ab 5 h],[]⟩
def z26(kn16:K_):Nat→S→Option R_:=H.i P_ [r,r,r,l,r,d,(lp kn16),r,r,l,d,r,r,r,d]
def t16(b:Int)(a:LX)(f:Int)(g:LB):S:=⟨[(0,vi b),(7, .own 0),(17,vw a),(18,vi (Ac a)),(19,vi f)],[Ab 5 g],[]⟩
def z16:Nat→S→Option R_:=H.i P_ [r,r,r,l,r,d]
def x30(g:LB):Option R_:=H.e P_ [r,r,r,r] ⟨[(7, .own 0)],[Ab 5 g],[]⟩
def x28(kn16:K_)(b:Int)(a:LX)(f:Int)(h:LB):Option R_:=H.e P_ [r,r,r,l,r,d,(lp kn16),r,r,r] ⟨[(0,vi b),(7, .own 0),(17,vw a),(18,vi (Ac a)),(19,vi f)],[Ab 5 h],[]⟩
def x26(kn16:K_)(b:Int)(a:LX)(k:Int32)(f m:Int)(h:LB):Option R_:=H.e P_ [r,r,r,l,r,d,(lp kn16),r,r,l,d,r,r,r,d] (t26 b a k f m h)
def x25(kn16:K_)(b:Int)(a:LX)(f:Int)(g:LB)(k:Int32):Option R_:=H.e P_ [r,r,r,l,r,d,(lp kn16),r,r,l,d,r,r] ⟨[(0,vi b),(7, .own 0),(9,vx k),(17,vw a),(18,vi (Ac a)),(19,vi f)],[Ab 5 g],[]⟩
def x16(b:Int)(a:LX)(f:Int)(g:LB):Option R_:=H.e P_ [r,r,r,l,r,d] (t16 b a f g)
theorem e30:x30=Ap3:=by kernel_rfl
theorem e28(kn16:K_)(b:Int)(a:LX):x28 kn16 b a=Afm (fun f g=>kn16 (t16 b a f g)) b a:=by kernel_rfl
theorem i26(kn16:K_)(b:Int)(a:LX)(k:Int32)(f:Int):∀(q:Nat) (m:Int) (h:LB),z26 kn16 q (t26 b a k f m h)=Gv (fun f g=>kn16 (t16 b a f g)) b a k f q m h:=
 ind (fun _ _=>by kernel_rfl) fun q ih m h=>Eq.trans (b:=Vj (x28 kn16 b a) (fun m h=>(z26 kn16 q) (t26 b a k f m h)) b a k f m h) (by kernel_rfl) (by simp only[e28,ih]<;>rfl)
theorem e26(kn16:K_)(b:Int)(a:LX):x26 kn16 b a=Afo (fun f g=>kn16 (t16 b a f g)) b a:=by funext k f m h;exact Eq.trans (by kernel_rfl) ((i26 kn16 b a k f Cu m h).trans (by rw[As];rfl))
theorem e25(kn16:K_)(b:Int)(a:LX):x25 kn16 b a=Iu (fun f g=>kn16 (t16 b a f g)) b a:=Eq.trans (b:=Afx (x26 kn16 b a) b a) (by kernel_rfl) (by simp only[e26]<;>rfl)
theorem i16(b:Int)(a:LX):∀(q:Nat) (f:Int) (g:LB),z16 q (t16 b a f g)=Er b a q f g:=
 ind (fun _ _=>by kernel_rfl) fun q ih f g=>Eq.trans (b:=Vr (x25 (z16 q) b a) x30 b a f g) (by kernel_rfl) (by simp only[e25,e30,ih]<;>rfl)
theorem e16:x16=Ap4:=by funext b a f g;exact Eq.trans (by kernel_rfl) ((i16 b a Cu f g).trans (by rw[As];rfl))
noncomputable def F:=u2 width_Bytes
theorem rn x:H.u P_ x=F x:=Eq.trans (b:=u2 (Ajk x16) x) (by kernel_rfl) (by simp only[e16]<;>rfl)
noncomputable def c:Con:=⟨H.p,H.r,F⟩
theorem ok:ConOk P_ gl 19 c:=co H func19 (.cons F63.ok .nil) rn
end F19
namespace F12
abbrev R_:=(LB×Int)
noncomputable def H:Hd:=⟨[Sb,Ss,Si],[Ob 5,Si],(.seq .d (.cut [2,8,9,11] [] (.keep [0,1,2,8,9,11,12,13,14,15,16,17,18,19] true) (.seq .d (.seq .d (.cut [6,7] [⟨6,[], .own 5 (.int .u8)⟩] (.keep [2,6,7,8,30,31,32,33,34] true) .d))))),⟨[(11,F11.c),(19,F19.c),(49,F49.c),(85,F85.c),(102,F102.c),(104,F104.c)],gl,false⟩,[(51, .d),(103,(.seq .d (.cut [0,3,4,5,6,10,11] [] .d (.seq .d (.cut [4,12,13] [] .d .d)))))],f12⟩
def x6(a ac:Int):Option R_:=H.e P_ [r,r] ⟨[(2,vi a),(8, .cst .nilFunc),(9,vi 0),(11,vi ac)],[],[]⟩
def x10(ad:Int)(ae:LB):Option R_:=H.e P_ [r,r,r,r,r] ⟨[(6, .own 0),(7,vi ad)],[Ab 5 ae],[]⟩
def x9(w a h b:Int)(aa:LX)(n o p k:Int)(m:LB)(u:LX)(v f g:LI):Option R_:=H.e P_ [r,r,r,r,l,(call 2 103),r,r,r,r] ⟨[(4, .ptr 0 []),(12, .own 1),(13,vi w)],[.box 74 (.agg [vi h,vi b]),Aw 21 aa, .box 35 (.agg [.agg [vi n,vi h,vi b,vi o,vi p],vi k, .own 7]), .box 33 (.own 8), .box 27 (vb m), .box 136 (.val (.vec 16 (.int .i32)) u), .box 33 (.own 9),Ai 3 v,Ai 3 f,Ai 3 g],[[(2,vi a),(8, .fn 103 [.ptr 2 [], .ptr 3 [], .ptr 4 [], .ptr 0 [], .ptr 5 [], .ptr 6 []]),(30, .fn 103 [.ptr 2 [], .ptr 3 [], .ptr 4 [], .ptr 0 [], .ptr 5 [], .ptr 6 []]),(31,vi a)]]⟩
def x8(a k ab y:Int)(m:LB)(h b:Int)(u:LX)(n o p:Int)(g v f:LI):Option R_:=H.e P_ [r,r,r,r,l,(call 2 103),r,r] ⟨[(0,vi a),(3, .ptr 0 []),(4, .ptr 1 []),(5, .ptr 2 []),(6, .ptr 3 []),(10,vi (Ad k ab)),(11,vi (Ad k y))],[.box 27 (vb m), .box 74 (.agg [vi h,vi b]), .box 136 (.val (.vec 16 (.int .i32)) u), .box 33 (.own 6), .box 35 (.agg [.agg [vi n,vi h,vi b,vi o,vi p],vi k, .own 7]), .box 33 (.own 8),Ai 3 g,Ai 3 v,Ai 3 f],[[(2,vi a),(8, .fn 103 [.ptr 4 [], .ptr 5 [], .ptr 0 [], .ptr 1 [], .ptr 2 [], .ptr 3 []]),(30, .fn 103 [.ptr 4 [], .ptr 5 [], .ptr 0 [], .ptr 1 [], .ptr 2 [], .ptr 3 []]),(31,vi a)]]⟩
def x7(a:Int)(g:LI)(n h b o p k:Int)(m:LB)(u:LX)(v f:LI):Option R_:=H.e P_ [r,r] ⟨[(2,vi a),(8, .fn 103 [.ptr 0 [], .ptr 1 [], .ptr 2 [], .ptr 3 [], .ptr 4 [], .ptr 5 []]),(9,vi (Ac g)),(11,vi 0)],[.box 35 (.agg [.agg [vi n,vi h,vi b,vi o,vi p],vi k, .own 6]), .box 33 (.own 7), .box 27 (vb m), .box 74 (.agg [vi h,vi b]), .box 136 (.val (.vec 16 (.int .i32)) u), .box 33 (.own 8),Ai 3 v,Ai 3 f,Ai 3 g],[]⟩
theorem e6:x6=Aqd:=by kernel_rfl
theorem e10:x10=Aci:=by kernel_rfl
theorem e9:x9=Ae2:=Eq.trans (b:=Afb x10) (by kernel_rfl) (by simp only[e10]<;>rfl)
theorem e8:x8=Ae4:=Eq.trans (b:=Afd x10 x9) (by kernel_rfl) (by simp only[e10,e9]<;>rfl)
theorem e7:x7=Pp:=Eq.trans (b:=Aft x8) (by kernel_rfl) (by simp only[e8]<;>rfl)
noncomputable def F:=u3 Jk
theorem rn x:H.u P_ x=F x:=Eq.trans (b:=u3 (Afg x6 x7) x) (by kernel_rfl) (by simp only[e6,e7]<;>rfl)
noncomputable def c:Con:=⟨H.p,H.r,F⟩
theorem ok:ConOk P_ gl 12 c:=cr H func12 (.cons F11.ok (.cons F19.ok (.cons F49.ok (.cons F85.ok (.cons F102.ok (.cons F104.ok .nil)))))) (AnsOk.cons ent51 (AnsOk.cons ent103 AnsOk.nil)) rn
end F12
namespace F106
abbrev R_:=(Int×Int)
noncomputable def H:Hd:=⟨[Sb],[Si,Si],(.seq .d (.seq .d (.cut [0,4] [] .d .d))),⟨[(100,F100.c),(145,F145.c),(146,F146.c),(147,F147.c)],gl,false⟩,[],f106⟩
def x2(a:LB):Option R_:=H.e P_ [r,r,r] ⟨[(0,vb a),(4,vi (Ah (Ac a) (32:Int)))],[],[]⟩
theorem e2:x2=Atq:=by kernel_rfl
noncomputable def F:=Aya
theorem rn x:H.u P_ x=F x:=Eq.trans (b:=Ase x2 x) (by kernel_rfl) (by simp only[e2]<;>rfl)
noncomputable def c:Con:=⟨H.p,H.r,F⟩
theorem ok:ConOk P_ gl 106 c:=co H func106 (.cons F100.ok (.cons F145.ok (.cons F146.ok (.cons F147.ok .nil)))) rn
end F106
namespace F52
abbrev R_:=(Int×Int)
abbrev K_:=S→Option R_
noncomputable def H:Hd:=⟨[Sb],[Si,Si],(.seq .d (.seq .d (.seq .d (.seq .d (.cut [5] [] (.blk (.loop [1,4,5] [] (.seq .d (.cut [1,4,5] [] (.blk (.cut [1,4,5,6] [] (.keep [1,4,5,6,16,17] true) .d)) .d)))) .d))))),⟨[(106,F106.c)],gl,false⟩,[(105, .d)],f52⟩
def t8(a:Int)(b:LB):S:=⟨[(1, .ptr 0 []),(4, .fn 105 [.ptr 0 []]),(5,vi a)],[.box 27 (vb b)],[]⟩
def z8:Nat→S→Option R_:=H.i P_ [r,r,r,r,l,d]
def x14(a:Int):Option R_:=H.e P_ [r,r,r,r,r] ⟨[(5,vi a)],[],[]⟩
def x12(kn8:K_)(a:Int)(g:LB):Option R_:=H.e P_ [r,r,r,r,l,d,(lp kn8),r,r] ⟨[(1, .ptr 0 []),(4, .fn 105 [.ptr 0 []]),(5,vi a)],[.box 27 (vb g)],[]⟩
def x11(kn8:K_)(a f:Int)(b:LB):Option R_:=H.e P_ [r,r,r,r,l,d,(lp kn8),r,l,d,r] ⟨[(1, .ptr 0 []),(4, .fn 105 [.ptr 0 []]),(5,vi a),(6,vi f)],[.box 27 (vb b)],[]⟩
def x8(a:Int)(b:LB):Option R_:=H.e P_ [r,r,r,r,l,d] (t8 a b)
theorem e14:x14=Amy:=by kernel_rfl
theorem e12(kn8:K_):x12 kn8=Acr (fun a b=>kn8 (t8 a b)):=by kernel_rfl
theorem e11(kn8:K_):x11 kn8=Ab5 (fun a b=>kn8 (t8 a b)):=Eq.trans (b:=Acx (x12 kn8)) (by kernel_rfl) (by simp only[e12]<;>rfl)
theorem i8:∀(q:Nat) (a:Int) (b:LB),z8 q (t8 a b)=Po q a b:=
 ind (fun _ _=>by kernel_rfl) fun q ih a b=>Eq.trans (b:=Af5 (x11 (z8 q)) x14 a b) (by kernel_rfl) (by simp only[e11,e14,ih]<;>rfl)
theorem e8:x8=Aqk:=by funext a b;exact Eq.trans (by kernel_rfl) ((i8 Cu a b).trans (by rw[As];rfl))
noncomputable def F:=Ti
theorem rn x:H.u P_ x=F x:=Eq.trans (b:=Afu x8 x) (by kernel_rfl) (by simp only[e8]<;>rfl)
noncomputable def c:Con:=⟨H.p,H.r,F⟩
theorem ok:ConOk P_ gl 52 c:=cr H func52 (.cons F106.ok .nil) (AnsOk.cons ent105 AnsOk.nil) rn
end F52
namespace F13
abbrev R_:=(LB×Int)
abbrev K_:=S→Option R_
noncomputable def H:Hd:=⟨[Sb,Ss,Si],[Ob 5,Si],(.seq .d (.cut [0,2,8,9,10,11] [] (.keep [0,1,2,8,9,10,11,18,19,20,21,22,23,24,25] true) (.seq .d (.seq .d (.seq .d (.cut [0,10,12] [] (.seq .d (.blk (.loop [0,8,9,10,12,13] [⟨12,[], .own 5 (.int .u8)⟩] (.seq .d (.cut [0,8,9,10,12,13] [] (.blk (.cut [0,8,9,10,12,13,14,15] [⟨14,[], .own 5 (.int .u8)⟩] (.keep [0,8,9,10,12,13,14,15,42,43,44,45,46,47] true) .d)) .d))))) .d)))))),⟨[(11,F11.c),(19,F19.c),(49,F49.c),(52,F52.c),(85,F85.c),(102,F102.c),(104,F104.c)],gl,false⟩,[(51, .d),(103,(.seq .d (.cut [0,3,4,5,6,10,11] [] .d (.seq .d (.cut [4,12,13] [] .d .d)))))],f13⟩
def t19(a:LB)(aa:Int):S:=⟨[(0,vb a),(8, .cst .nilFunc),(9,vi 0),(10,vi 0),(12, .own 0),(13,vi aa)],[Ab 5 ([]:LB)],[]⟩
def z19:Nat→S→Option R_:=H.i P_ [r,r,r,r,r,l,r,d]
def t22(a:LB)(f:LI)(b m n h g o p:Int)(u:LX)(v k:LI)(w:Int)(y:LB):S:=⟨[(0,vb a),(8, .fn 103 [.ptr 0 [], .ptr 1 [], .ptr 2 [], .ptr 3 [], .ptr 4 [], .ptr 5 []]),(9,vi (Ac f)),(10,vi (Ad b m)),(12, .own 6),(13,vi w)],[.box 35 (.agg [.agg [vi n,vi h,vi g,vi o,vi p],vi b, .own 7]), .box 33 (.own 8), .box 27 (vb a), .box 74 (.agg [vi h,vi g]), .box 136 (.val (.vec 16 (.int .i32)) u), .box 33 (.own 9),Ab 5 y,Ai 3 v,Ai 3 k,Ai 3 f],[]⟩
def z22:Nat→S→Option R_:=H.i P_ [r,r,r,r,r,l,r,d]
def x21(a:LB):Option R_:=H.e P_ [r,r,r,r,r,r] ⟨[(0,vb a),(10,vi 0),(12, .own 0)],[Ab 5 ([]:LB)],[]⟩
def x19(a:LB)(aa:Int):Option R_:=H.e P_ [r,r,r,r,r,l,r,d] (t19 a aa)
def x17(a:LB)(aa ag:Int):Option R_:=H.e P_ [r,r] ⟨[(0,vb a),(2,vi aa),(8, .cst .nilFunc),(9,vi 0),(10,vi 0),(11,vi ag)],[],[]⟩
def x32(a:LB)(b m:Int)(y:LB):Option R_:=H.e P_ [r,r,r,r,r,r] ⟨[(0,vb a),(10,vi (Ad b m)),(12, .own 0)],[Ab 5 y],[]⟩
def x30(kn22:K_)(a:LB)(f:LI)(b m n h g o p:Int)(u:LX)(v k:LI)(w:Int)(ad:LB):Option R_:=H.e P_ [r,r,r,r,r,l,r,d,(lp kn22),r,r] ⟨[(0,vb a),(8, .fn 103 [.ptr 0 [], .ptr 1 [], .ptr 2 [], .ptr 3 [], .ptr 4 [], .ptr 5 []]),(9,vi (Ac f)),(10,vi (Ad b m)),(12, .own 6),(13,vi w)],[.box 35 (.agg [.agg [vi n,vi h,vi g,vi o,vi p],vi b, .own 7]), .box 33 (.own 8), .box 27 (vb a), .box 74 (.agg [vi h,vi g]), .box 136 (.val (.vec 16 (.int .i32)) u), .box 33 (.own 9),Ab 5 ad,Ai 3 v,Ai 3 k,Ai 3 f],[]⟩
def x29(kn22:K_)(a:LB)(f:LI)(b m n h g o p:Int)(u:LX)(v k:LI)(w:Int)(y:LB)(ah:Int)(ai:LB):Option R_:=H.e P_ [r,r,r,r,r,l,r,d,(lp kn22),r,l,d,r] ⟨[(0,vb a),(8, .fn 103 [.ptr 0 [], .ptr 1 [], .ptr 2 [], .ptr 3 [], .ptr 4 [], .ptr 5 []]),(9,vi (Ac f)),(10,vi (Ad b m)),(12, .own 6),(13,vi w),(14, .own 7),(15,vi ah)],[.box 35 (.agg [.agg [vi n,vi h,vi g,vi o,vi p],vi b, .own 8]), .box 33 (.own 9), .box 27 (vb a), .box 74 (.agg [vi h,vi g]), .box 136 (.val (.vec 16 (.int .i32)) u), .box 33 (.own 10),Ab 5 y,Ab 5 ai,Ai 3 v,Ai 3 k,Ai 3 f],[]⟩
def x28(kn22:K_)(a:LB)(f:LI)(b m h g n o p:Int)(u:LX)(v k:LI)(ab w:Int)(ae:LX)(y:LB):Option R_:=H.e P_ [r,r,r,r,r,l,r,d,(lp kn22),r,l,d,l,(call 2 103),r,r,r,r] ⟨[(4, .ptr 0 []),(12, .own 1),(13,vi ab)],[.box 74 (.agg [vi h,vi g]),Aw 21 ae, .box 35 (.agg [.agg [vi n,vi h,vi g,vi o,vi p],vi b, .own 8]), .box 33 (.own 9), .box 27 (vb a), .box 136 (.val (.vec 16 (.int .i32)) u), .box 33 (.own 10),Ab 5 y,Ai 3 v,Ai 3 k,Ai 3 f],[[(0,vb a),(8, .fn 103 [.ptr 2 [], .ptr 3 [], .ptr 4 [], .ptr 0 [], .ptr 5 [], .ptr 6 []]),(9,vi (Ac f)),(10,vi (Ad b m)),(12, .own 7),(13,vi w),(43, .fn 103 [.ptr 2 [], .ptr 3 [], .ptr 4 [], .ptr 0 [], .ptr 5 [], .ptr 6 []]),(44,vi w)]]⟩
def x27(kn22:K_)(b:Int)(a:LB)(f:LI)(m h g:Int)(u:LX)(n o p:Int)(v k:LI)(w af ac:Int)(y:LB):Option R_:=H.e P_ [r,r,r,r,r,l,r,d,(lp kn22),r,l,d,l,(call 2 103),r,r] ⟨[(0,vi w),(3, .ptr 0 []),(4, .ptr 1 []),(5, .ptr 2 []),(6, .ptr 3 []),(10,vi (Ad b af)),(11,vi (Ad b ac))],[.box 27 (vb a), .box 74 (.agg [vi h,vi g]), .box 136 (.val (.vec 16 (.int .i32)) u), .box 33 (.own 7), .box 35 (.agg [.agg [vi n,vi h,vi g,vi o,vi p],vi b, .own 8]), .box 33 (.own 9),Ab 5 y,Ai 3 f,Ai 3 v,Ai 3 k],[[(0,vb a),(8, .fn 103 [.ptr 4 [], .ptr 5 [], .ptr 0 [], .ptr 1 [], .ptr 2 [], .ptr 3 []]),(9,vi (Ac f)),(10,vi (Ad b m)),(12, .own 6),(13,vi w),(43, .fn 103 [.ptr 4 [], .ptr 5 [], .ptr 0 [], .ptr 1 [], .ptr 2 [], .ptr 3 []]),(44,vi w)]]⟩
def x22(a:LB)(f:LI)(b m n h g o p:Int)(u:LX)(v k:LI)(w:Int)(y:LB):Option R_:=H.e P_ [r,r,r,r,r,l,r,d] (t22 a f b m n h g o p u v k w y)
def x18(a:LB)(aa:Int)(f:LI)(b m n h g o p:Int)(u:LX)(v k:LI):Option R_:=H.e P_ [r,r] ⟨[(0,vb a),(2,vi aa),(8, .fn 103 [.ptr 0 [], .ptr 1 [], .ptr 2 [], .ptr 3 [], .ptr 4 [], .ptr 5 []]),(9,vi (Ac f)),(10,vi (Ad b m)),(11,vi 0)],[.box 35 (.agg [.agg [vi n,vi h,vi g,vi o,vi p],vi b, .own 6]), .box 33 (.own 7), .box 27 (vb a), .box 74 (.agg [vi h,vi g]), .box 136 (.val (.vec 16 (.int .i32)) u), .box 33 (.own 8),Ai 3 v,Ai 3 k,Ai 3 f],[]⟩
theorem e21:x21=Aqb:=by kernel_rfl
theorem i19(a:LB)(aa:Int):∀(q:Nat),z19 q (t19 a aa)=Ap6 a aa q:=
 ind (by kernel_rfl) fun q ih=>Eq.trans (b:=Aqc x21 a aa) (by kernel_rfl) (by simp only[e21,ih]<;>rfl)
theorem e19:x19=Aqh:=by funext a aa;exact Eq.trans (by kernel_rfl) ((i19 a aa Cu).trans (by rw[As];rfl))
theorem e17:x17=Ap8:=Eq.trans (b:=Aqq x19) (by kernel_rfl) (by simp only[e19]<;>rfl)
theorem e32:x32=Ae5:=by kernel_rfl
theorem e30(kn22:K_)(a:LB)(f:LI)(b m n h g o p:Int)(u:LX)(v k:LI):x30 kn22 a f b m n h g o p u v k=Afe (fun w y=>kn22 (t22 a f b m n h g o p u v k w y)) a f b m n h g o p u v k:=by kernel_rfl
theorem e29(kn22:K_)(a:LB)(f:LI)(b m n h g o p:Int)(u:LX)(v k:LI):x29 kn22 a f b m n h g o p u v k=Ps (fun w y=>kn22 (t22 a f b m n h g o p u v k w y)) a f b m n h g o p u v k:=Eq.trans (b:=Aff (x30 kn22 a f b m n h g o p u v k) a f b m n h g o p u v k) (by kernel_rfl) (by simp only[e30]<;>rfl)
theorem e28(kn22:K_)(a:LB)(f:LI)(b m n h g o p:Int)(u:LX)(v k:LI):x28 kn22 a f b m h g n o p u v k=Afv (fun w y=>kn22 (t22 a f b m n h g o p u v k w y)) a f b m h g n o p u v k:=Eq.trans (b:=Afz (x29 kn22 a f b m n h g o p u v k) a f b m h g n o p u v k) (by kernel_rfl) (by simp only[e29]<;>rfl)
theorem e27(kn22:K_)(a:LB)(f:LI)(b m n h g o p:Int)(u:LX)(v k:LI):x27 kn22 b a f m h g u n o p v k=Vp (fun w y=>kn22 (t22 a f b m n h g o p u v k w y)) b a f m h g u n o p v k:=Eq.trans (b:=Af1 (x29 kn22 a f b m n h g o p u v k) (x28 kn22 a f b m h g n o p u v k) b a f m h g u n o p v k) (by kernel_rfl) (by simp only[e29,e28]<;>rfl)
theorem i22(a:LB)(f:LI)(b m n h g o p:Int)(u:LX)(v k:LI):∀(q:Nat) (w:Int) (y:LB),z22 q (t22 a f b m n h g o p u v k w y)=Lk a f b m n h g o p u v k q w y:=
 ind (fun _ _=>by kernel_rfl) fun q ih w y=>Eq.trans (b:=Vv (x27 (z22 q) b a f m h g u n o p v k) x32 a f b m n h g o p u v k w y) (by kernel_rfl) (by simp only[e27,e32,ih]<;>rfl)
theorem e22:x22=Aqj:=by funext a f b m n h g o p u v k w y;exact Eq.trans (by kernel_rfl) ((i22 a f b m n h g o p u v k Cu w y).trans (by rw[As];rfl))
theorem e18:x18=Afn:=Eq.trans (b:=Af2 x22) (by kernel_rfl) (by simp only[e22]<;>rfl)
noncomputable def F:=u3 Lp
theorem rn x:H.u P_ x=F x:=Eq.trans (b:=u3 (Ah8 x17 x18) x) (by kernel_rfl) (by simp only[e17,e18]<;>rfl)
noncomputable def c:Con:=⟨H.p,H.r,F⟩
theorem ok:ConOk P_ gl 13 c:=cr H func13 (.cons F11.ok (.cons F19.ok (.cons F49.ok (.cons F52.ok (.cons F85.ok (.cons F102.ok (.cons F104.ok .nil))))))) (AnsOk.cons ent51 (AnsOk.cons ent103 AnsOk.nil)) rn
end F13
namespace F79
noncomputable def H:Hd:=⟨[Si,Si,Si],[Si,Si,Si], .d,⟨[(117,F117.c),(118,F118.c)],gl,false⟩,[],f79⟩
noncomputable def F:=u3 Avo
theorem rn x:H.u P_ x=F x:=by kernel_rfl
noncomputable def c:Con:=⟨H.p,H.r,F⟩
theorem ok:ConOk P_ gl 79 c:=co H func79 (.cons F117.ok (.cons F118.ok .nil)) rn
end F79
namespace F24
abbrev R_:=Bool
noncomputable def H:Hd:=⟨[Sl,Sl],[Sz],(.seq .d (.seq .d (.cut [] [] (.seq .d (.blk (.loop [0,1,5] [] .d))) .d))),⟨[],gl,false⟩,[],f24⟩
def t4(a b:LI)(f:Int):S:=⟨[(0,vl a),(1,vl b),(5,vi f)],[],[]⟩
def z4:Nat→S→Option R_:=H.i P_ [r,r,l,r,d]
def x6:Option R_:=H.e P_ [r,r,r] ⟨[],[],[]⟩
def x4(a b:LI)(f:Int):Option R_:=H.e P_ [r,r,l,r,d] (t4 a b f)
theorem e6:x6=Uv:=by kernel_rfl
theorem i4(a b:LI):∀(q:Nat) (f:Int),z4 q (t4 a b f)=Ma a b q f:=
 ind (fun _=>by kernel_rfl) fun q ih f=>Eq.trans (b:=Ux x6 (fun f=>(z4 q) (t4 a b f)) a b f) (by kernel_rfl) (by simp only[e6,ih]<;>rfl)
theorem e4:x4=Ur:=by funext a b f;exact Eq.trans (by kernel_rfl) ((i4 a b Cu f).trans (by rw[As];rfl))
noncomputable def F:=u2 Abq
theorem rn x:H.u P_ x=F x:=Eq.trans (b:=u2 (Ut x4) x) (by kernel_rfl) (by simp only[e4]<;>rfl)
noncomputable def c:Con:=⟨H.p,H.r,F⟩
theorem ok:ConOk P_ gl 24 c:=co H func24 .nil rn
end F24
namespace F8
abbrev R_:=Bool
noncomputable def H:Hd:=⟨[],[Sz],(.seq .d (.seq .d (.seq .d (.seq .d (.seq .d (.seq .d (.cut [1,3,4,5,6,7,8,9,10] [⟨9,[], .ro (.int .u8)⟩] (.keep [1,3,4,5,6,7,8,9,10,36,37,38,39,40] true) .d))))))),⟨[(11,F11.c),(12,F12.c),(13,F13.c),(24,F24.c),(33,F33.c),(79,F79.c)],gl,false⟩,[(34, .d)],f8⟩
def x2(m b f:Int)(a:LB)(p u v w g n:Int)(h k:LB)(o:LI)(aa:LB)(ab:Int):Option R_:=H.e P_ [r,r,r,r,r,r,r] ⟨[(1, .own 0),(3, .ptr 1 []),(4,vi m),(5, .own 2),(6,vi b),(7, .own 3),(8,vi f),(9,vb aa),(10,vi ab)],[Ab 5 a, .box 35 (.agg [.agg [vi p,vi u,vi v,vi w,vi g],vi n, .own 4]),Ab 5 h,Ab 5 k,Ai 3 o],[]⟩
theorem e2:x2=Abz:=by kernel_rfl
noncomputable def F(x:Unit):=Oz
theorem rn x:H.u P_ x=F x:=Eq.trans (b:=Abh x2) (by kernel_rfl) (by simp only[e2]<;>rfl)
noncomputable def c:Con:=⟨H.p,H.r,F⟩
theorem ok:ConOk P_ gl 8 c:=cr H func8 (.cons F11.ok (.cons F12.ok (.cons F13.ok (.cons F24.ok (.cons F33.ok (.cons F79.ok .nil)))))) (AnsOk.cons ent34 AnsOk.nil) rn
end F8
namespace F36
noncomputable def H:Hd:=⟨[.agg [Si,Si,Si,Sw]],[.agg [Si,Si]], .d,⟨[],gl,false⟩,[],f36⟩
noncomputable def F:=u4 Ft
theorem rn x:H.u P_ x=F x:=by kernel_rfl
noncomputable def c:Con:=⟨H.p,H.r,F⟩
theorem ok:ConOk P_ gl 36 c:=co H func36 .nil rn
end F36
namespace F119
noncomputable def H:Hd:=⟨[Si],[Si], .d,⟨[],gl,false⟩,[],f119⟩
noncomputable def F:=Gm
theorem rn x:H.u P_ x=F x:=by kernel_rfl
noncomputable def c:Con:=⟨H.p,H.r,F⟩
theorem ok:ConOk P_ gl 119 c:=co H func119 .nil rn
end F119
namespace F80
noncomputable def H:Hd:=⟨[.agg [Si,Si]],[Si], .d,⟨[(119,F119.c)],gl,false⟩,[],f80⟩
noncomputable def F:=u2 By
theorem rn x:H.u P_ x=F x:=by kernel_rfl
noncomputable def c:Con:=⟨H.p,H.r,F⟩
theorem ok:ConOk P_ gl 80 c:=co H func80 (.cons F119.ok .nil) rn
end F80
namespace F81
abbrev R_:=Int
noncomputable def H:Hd:=⟨[Si,Sw],[Si],(.seq .d (.seq .d (.seq .d (.seq .d (.cut [] [] (.seq .d (.blk (.loop [1,5,6] [] .d))) .d))))),⟨[(119,F119.c)],gl,false⟩,[],f81⟩
def t4(a:LX)(b f:Int):S:=⟨[(1,vw a),(5,vi b),(6,vi f)],[],[]⟩
def z4:Nat→S→Option R_:=H.i P_ [r,r,r,r,l,r,d]
def x6:Option R_:=H.e P_ [r,r,r,r,r] ⟨[],[],[]⟩
def x4(a:LX)(b f:Int):Option R_:=H.e P_ [r,r,r,r,l,r,d] (t4 a b f)
theorem e6:x6=Ab1:=by kernel_rfl
theorem i4(a:LX)(b:Int):∀(q:Nat) (f:Int),z4 q (t4 a b f)=Ap a b q f:=
 ind (fun _=>by kernel_rfl) fun q ih f=>Eq.trans (b:=Br x6 (fun f=>(z4 q) (t4 a b f)) a b f) (by kernel_rfl) (by simp only[e6,ih]<;>rfl)
theorem e4:x4=Abd:=by funext a b f;exact Eq.trans (by kernel_rfl) ((i4 a b Cu f).trans (by rw[As];rfl))
noncomputable def F:=u2 cadenzaref18_Check
theorem rn x:H.u P_ x=F x:=Eq.trans (b:=u2 (Ci x4) x) (by kernel_rfl) (by simp only[e4]<;>rfl)
noncomputable def c:Con:=⟨H.p,H.r,F⟩
theorem ok:ConOk P_ gl 81 c:=co H func81 (.cons F119.ok .nil) rn
end F81
namespace F35
noncomputable def H:Hd:=⟨[.agg [Si,Si],Sw],[Si], .d,⟨[(80,F80.c),(81,F81.c)],gl,false⟩,[],f35⟩
noncomputable def F:=u3 Bm
theorem rn x:H.u P_ x=F x:=by kernel_rfl
noncomputable def c:Con:=⟨H.p,H.r,F⟩
theorem ok:ConOk P_ gl 35 c:=co H func35 (.cons F80.ok (.cons F81.ok .nil)) rn
end F35
namespace F82
noncomputable def H:Hd:=⟨[.agg [Si,Si],Si],[Si], .d,⟨[(80,F80.c)],gl,false⟩,[],f82⟩
noncomputable def F:=u3 Ch
theorem rn x:H.u P_ x=F x:=by kernel_rfl
noncomputable def c:Con:=⟨H.p,H.r,F⟩
theorem ok:ConOk P_ gl 82 c:=co H func82 (.cons F80.ok .nil) rn
end F82
namespace F153
noncomputable def H:Hd:=⟨[Si],[Si,Si], .d,⟨[],gl,false⟩,[],f153⟩
noncomputable def F:=Lo
theorem rn x:H.u P_ x=F x:=by kernel_rfl
noncomputable def c:Con:=⟨H.p,H.r,F⟩
theorem ok:ConOk P_ gl 153 c:=co H func153 .nil rn
end F153
namespace F120
abbrev R_:=(LI×Int)
noncomputable def H:Hd:=⟨[Si,Si],[Ol 3,Si],(.seq .d (.seq .d (.seq .d (.seq .d (.cut [8] [] (.blk (.loop [1,6,8] [⟨8,[], .own 3 (.int .i64)⟩] .d)) .d))))),⟨[(153,F153.c)],gl,false⟩,[],f120⟩
def t4(b f:Int)(a:LI):S:=⟨[(1,vi f),(6,vi b),(8, .own 0)],[Ai 3 a],[]⟩
def z4:Nat→S→Option R_:=H.i P_ [r,r,r,r,l,d]
def x6(a:LI):Option R_:=H.e P_ [r,r,r,r,r] ⟨[(8, .own 0)],[Ai 3 a],[]⟩
def x4(b f:Int)(a:LI):Option R_:=H.e P_ [r,r,r,r,l,d] (t4 b f a)
theorem e6:x6=Tn:=by kernel_rfl
theorem i4(b:Int):∀(q:Nat) (f:Int) (a:LI),z4 q (t4 b f a)=Gq b q f a:=
 ind (fun _ _=>by kernel_rfl) fun q ih f a=>Eq.trans (b:=Ms x6 (fun f a=>(z4 q) (t4 b f a)) b f a) (by kernel_rfl) (by simp only[e6,ih]<;>rfl)
theorem e4:x4=Tt:=by funext b f a;exact Eq.trans (by kernel_rfl) ((i4 b Cu f a).trans (by rw[As];rfl))
noncomputable def F:=u2 Sp
theorem rn x:H.u P_ x=F x:=Eq.trans (b:=u2 (Mt x4) x) (by kernel_rfl) (by simp only[e4]<;>rfl)
noncomputable def c:Con:=⟨H.p,H.r,F⟩
theorem ok:ConOk P_ gl 120 c:=co H func120 (.cons F153.ok .nil) rn
end F120
namespace F83
noncomputable def H:Hd:=⟨[Si,Si],[Si,Si], .d,⟨[(120,F120.c)],gl,false⟩,[],f83⟩
noncomputable def F:=u2 Ht
theorem rn x:H.u P_ x=F x:=by kernel_rfl
noncomputable def c:Con:=⟨H.p,H.r,F⟩
theorem ok:ConOk P_ gl 83 c:=co H func83 (.cons F120.ok .nil) rn
end F83
namespace F37
noncomputable def H:Hd:=⟨[.agg [Si,Si,Si,Sw],Si],[Sz], .d,⟨[(36,F36.c),(82,F82.c),(83,F83.c)],gl,false⟩,[],f37⟩
noncomputable def F:=u5 Yw
theorem rn x:H.u P_ x=F x:=by kernel_rfl
noncomputable def c:Con:=⟨H.p,H.r,F⟩
theorem ok:ConOk P_ gl 37 c:=co H func37 (.cons F36.ok (.cons F82.ok (.cons F83.ok .nil))) rn
end F37
namespace F9
noncomputable def H:Hd:=⟨[.agg [Si,Si,Si,Sw]],[Si], .d,⟨[(35,F35.c),(36,F36.c),(37,F37.c)],gl,false⟩,[],f9⟩
noncomputable def F:=u4 Bz
theorem rn x:H.u P_ x=F x:=by kernel_rfl
noncomputable def c:Con:=⟨H.p,H.r,F⟩
theorem ok:ConOk P_ gl 9 c:=co H func9 (.cons F35.ok (.cons F36.ok (.cons F37.ok .nil))) rn
end F9
namespace F3
abbrev R_:=Bool
noncomputable def H:Hd:=⟨[.agg [Si,Si,Si,Sw],Ss,Si,Sc],[Sz],(.seq .d (.seq .d (.seq .d (.seq .d (.seq .d (.seq .d (.seq .d (.seq .d (.seq .d (.seq .d (.cut [9] [] (.seq .d (.blk (.loop [1,2,9,10,12,14,15,16] [] .d))) .d))))))))))),⟨[(8,F8.c),(9,F9.c),(10,F10.c),(11,F11.c),(12,F12.c),(13,F13.c)],gl,false⟩,[],f3⟩
def t4(h:LB)(b:Int)(f:Bool)(k:LB)(p u v w y a:Int)(o:LB)(n:LI)(g m:Int):S:=⟨[(1,vs h),(2,vi b),(9,vt f),(10, .own 0),(12, .ptr 1 []),(14, .own 2),(15,vi g),(16,vi m)],[Ab 5 k, .box 35 (.agg [.agg [vi p,vi u,vi v,vi w,vi y],vi a, .own 3]),Ab 5 o,Ai 3 n],[]⟩
def z4:Nat→S→Option R_:=H.i P_ [r,r,r,r,r,r,r,r,r,r,l,r,d]
def x6(f:Bool):Option R_:=H.e P_ [r,r,r,r,r,r,r,r,r,r,r] ⟨[(9,vt f)],[],[]⟩
def x4(h:LB)(b:Int)(f:Bool)(k:LB)(p u v w y a:Int)(o:LB)(n:LI)(g m:Int):Option R_:=H.e P_ [r,r,r,r,r,r,r,r,r,r,l,r,d] (t4 h b f k p u v w y a o n g m)
theorem e6:x6=Pq:=by kernel_rfl
theorem i4(h:LB)(b:Int)(f:Bool)(k:LB)(p u v w y a:Int)(o:LB)(n:LI):∀(q:Nat) (g m:Int),z4 q (t4 h b f k p u v w y a o n g m)=Cm h b f k p u v w y a o n q g m:=
 ind (fun _ _=>by kernel_rfl) fun q ih g m=>Eq.trans (b:=Fm x6 (fun g m=>(z4 q) (t4 h b f k p u v w y a o n g m)) h b f k p u v w y a o n g m) (by kernel_rfl) (by simp only[e6,ih]<;>rfl)
theorem e4:x4=Pm:=by funext h b f k p u v w y a o n g m;exact Eq.trans (by kernel_rfl) ((i4 h b f k p u v w y a o n Cu g m).trans (by rw[As];rfl))
noncomputable def F:=u7 Gz
theorem rn x:H.u P_ x=F x:=Eq.trans (b:=u7 (Iq x4) x) (by kernel_rfl) (by simp only[e4]<;>rfl)
noncomputable def c:Con:=⟨H.p,H.r,F⟩
theorem ok:ConOk P_ gl 3 c:=co H func3 (.cons F8.ok (.cons F9.ok (.cons F10.ok (.cons F11.ok (.cons F12.ok (.cons F13.ok .nil)))))) rn
end F3
end
end Go.Proofs.YtidigmkmfmopgaaGreatDoor
