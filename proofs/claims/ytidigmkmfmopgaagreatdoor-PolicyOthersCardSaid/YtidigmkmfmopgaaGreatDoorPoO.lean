/- A part of the proof of a statement of this seat (see the text that ends in Proof): PoOk. No conditions of its own. -/
import Derived.Test.YtidigmkmfmopgaaGreatDoorPoBB
import Derived.Test.YtidigmkmfmopgaaGreatDoorPoPA
import Derived.Test.YtidigmkmfmopgaaGreatDoorPoHA
import Derived.Test.YtidigmkmfmopgaaGreatDoorProg
import Derived.KernelRfl
set_option linter.unusedVariables false
set_option linter.unusedSimpArgs false
set_option maxRecDepth 10000
namespace Go.Proofs.YtidigmkmfmopgaaGreatDoor
open Go Go.Lv Go.Pl Go.Rx Go.Rx.PS
noncomputable section
def g0:List Value:=[.int .i64 2, .int .i64 2, .int .i64 2, .int .i64 4, .int .i64 4]
def g3:List Value:=[.int .u8 0, .int .u8 1, .int .u8 56, .int .u8 2, .int .u8 57, .int .u8 49, .int .u8 28, .int .u8 3, .int .u8 61, .int .u8 58, .int .u8 42, .int .u8 50, .int .u8 38, .int .u8 29, .int .u8 17, .int .u8 4, .int .u8 62, .int .u8 47, .int .u8 59, .int .u8 36, .int .u8 45, .int .u8 43, .int .u8 51, .int .u8 22, .int .u8 53, .int .u8 39, .int .u8 33, .int .u8 30, .int .u8 24, .int .u8 18, .int .u8 12, .int .u8 5, .int .u8 63, .int .u8 55, .int .u8 48, .int .u8 27, .int .u8 60, .int .u8 41, .int .u8 37, .int .u8 16, .int .u8 46, .int .u8 35, .int .u8 44, .int .u8 21, .int .u8 52, .int .u8 32, .int .u8 23, .int .u8 11, .int .u8 54, .int .u8 26, .int .u8 40, .int .u8 15, .int .u8 34, .int .u8 20, .int .u8 31, .int .u8 10, .int .u8 25, .int .u8 14, .int .u8 19, .int .u8 9, .int .u8 13, .int .u8 8, .int .u8 7, .int .u8 6]
def gl:List (Nat×List Value):=[(0,g0),(3,g3)]
theorem mixed:Tryz.prog.follows .mixedOrders=true:=by kernel_rfl
noncomputable abbrev P_:=Tryz.prog
theorem cr(H:Hd){f:Nat}{F:LTy (shL H.p)→Option (LTy (shL H.r))}(hf:P_.funcs[f]? =some H.f)(hT:Aet P_ H.T)(hA:∀p∈H.s,Ent P_ p.1)(h:∀x,H.u P_ x=F x)(hb:okH H=true:=by kernel_rfl):ConOk P_ H.T.gl f ⟨H.p,H.r,F⟩:=Hd.con mixed H hf hT hA hb h
theorem co(H:Hd){f:Nat}{F:LTy (shL H.p)→Option (LTy (shL H.r))}(hf:P_.funcs[f]? =some H.f)(hT:Aet P_ H.T)(h:∀x,H.u P_ x=F x)(hb:(H.s.isEmpty&&okH H)=true:=by kernel_rfl):ConOk P_ H.T.gl f ⟨H.p,H.r,F⟩:=Hd.Ckc mixed H hf hT hb h
theorem ent43:Ent Tryz.prog 43:=Ent.mk Tryz.func43 (by kernel_rfl) rfl
theorem ent46:Ent Tryz.prog 46:=Ent.mk Tryz.func46 (by kernel_rfl) rfl
theorem ent51:Ent Tryz.prog 51:=Ent.mk Tryz.func51 (by kernel_rfl) rfl
theorem ent57:Ent Tryz.prog 57:=Ent.mk Tryz.func57 (by kernel_rfl) rfl
theorem ent67:Ent Tryz.prog 67:=Ent.mk Tryz.func67 (by kernel_rfl) rfl
theorem ent68:Ent Tryz.prog 68:=Ent.mk Tryz.func68 (by kernel_rfl) rfl
theorem ent70:Ent Tryz.prog 70:=Ent.mk Tryz.func70 (by kernel_rfl) rfl
theorem ent94:Ent Tryz.prog 94:=Ent.mk Tryz.func94 (by kernel_rfl) rfl
theorem ent103:Ent Tryz.prog 103:=Ent.mk Tryz.func103 (by kernel_rfl) rfl
theorem ent105:Ent Tryz.prog 105:=Ent.mk Tryz.func105 (by kernel_rfl) rfl
theorem ent115:Ent Tryz.prog 115:=Ent.mk Tryz.func115 (by kernel_rfl) rfl
theorem ent128:Ent Tryz.prog 128:=Ent.mk Tryz.func128 (by kernel_rfl) rfl
theorem ent138:Ent Tryz.prog 138:=Ent.mk Tryz.func138 (by kernel_rfl) rfl
theorem ent166:Ent Tryz.prog 166:=Ent.mk Tryz.func166 (by kernel_rfl) rfl
theorem ent167:Ent Tryz.prog 167:=Ent.mk Tryz.func167 (by kernel_rfl) rfl
theorem ent168:Ent Tryz.prog 168:=Ent.mk Tryz.func168 (by kernel_rfl) rfl
theorem ent181:Ent Tryz.prog 181:=Ent.mk Tryz.func181 (by kernel_rfl) rfl
theorem ent182:Ent Tryz.prog 182:=Ent.mk Tryz.func182 (by kernel_rfl) rfl
theorem ent185:Ent Tryz.prog 185:=Ent.mk Tryz.func185 (by kernel_rfl) rfl
theorem ent191:Ent Tryz.prog 191:=Ent.mk Tryz.func191 (by kernel_rfl) rfl
theorem ent194:Ent Tryz.prog 194:=Ent.mk Tryz.func194 (by kernel_rfl) rfl
theorem ent196:Ent Tryz.prog 196:=Ent.mk Tryz.func196 (by kernel_rfl) rfl
theorem ent199:Ent Tryz.prog 199:=Ent.mk Tryz.func199 (by kernel_rfl) rfl
theorem ent202:Ent Tryz.prog 202:=Ent.mk Tryz.func202 (by kernel_rfl) rfl
theorem ent213:Ent Tryz.prog 213:=Ent.mk Tryz.func213 (by kernel_rfl) rfl
abbrev u2{A B R:Type}(f:A→B→R)(x:A×B):=f x.1 x.2
abbrev u3{A B C R:Type}(f:A→B→C→R):=u2 fun a=>u2 (f a)
abbrev u4{A B C D R:Type}(f:A→B→C→D→R):=u2 fun a=>u3 (f a)
abbrev u5{A B C D E R:Type}(f:A→B→C→D→E→R):=u2 fun a=>u4 (f a)
abbrev u6{A B C D E F R:Type}(f:A→B→C→D→E→F→R):=u2 fun a=>u5 (f a)
abbrev u7{A B C D E F G R:Type}(f:A→B→C→D→E→F→G→R):=u2 fun a=>u6 (f a)
abbrev u8{A B C D E F G H R:Type}(f:A→B→C→D→E→F→G→H→R):=u2 fun a=>u7 (f a)
open Go.Proofs.Tryz
namespace F88
noncomputable def H:Hd:=⟨[.agg [Si,Si,Si,Sw]],[.agg [Si,Si]], .d,⟨[],gl,false⟩,[],f88⟩
noncomputable def F:=u4 Afm
theorem rn x:H.u P_ x=F x:=by kernel_rfl
noncomputable def c:Con:=⟨H.p,H.r,F⟩
theorem ok:ConOk P_ gl 88 c:=co H func88 .nil rn
end F88
namespace F113
abbrev R_:=(Int32×Int32×Int)
noncomputable def H:Hd:=⟨[Si],[Sx,Sx,Si],(.seq .d (.seq (.seq .d (.blk (.cut [0,7] [] .d .d))) .d)),⟨[],gl,false⟩,[],f113⟩
def x2(a:Int)(b:Bool):Option R_:=H.e P_ [r,l,r,d,r] ⟨[(0,vi a),(7,vt b)],[],[]⟩
theorem e2:x2=Aj0:=by kernel_rfl
noncomputable def F:=Oc
theorem rn x:H.u P_ x=F x:=Eq.trans (b:=Ajz x2 x) (by kernel_rfl) (by simp only[e2]<;>rfl)
noncomputable def c:Con:=⟨H.p,H.r,F⟩
theorem ok:ConOk P_ gl 113 c:=co H func113 .nil rn
end F113
namespace F139
noncomputable def H:Hd:=⟨[.agg [Si,Si]],[Si], .d,⟨[(113,F113.c)],gl,false⟩,[],f139⟩
noncomputable def F:=u2 Eg
theorem rn x:H.u P_ x=F x:=by kernel_rfl
noncomputable def c:Con:=⟨H.p,H.r,F⟩
theorem ok:ConOk P_ gl 139 c:=co H func139 (.cons F113.ok .nil) rn
end F139
namespace F118
noncomputable def H:Hd:=⟨[Si],[Si,Si], .d,⟨[],gl,false⟩,[],f118⟩
noncomputable def F:=Rv
theorem rn x:H.u P_ x=F x:=by kernel_rfl
noncomputable def c:Con:=⟨H.p,H.r,F⟩
theorem ok:ConOk P_ gl 118 c:=co H func118 .nil rn
end F118
namespace F117
noncomputable def H:Hd:=⟨[Si,Si],[Si,Si], .d,⟨[(118,F118.c)],gl,false⟩,[],f117⟩
noncomputable def F:=u2 Ho
theorem rn x:H.u P_ x=F x:=by kernel_rfl
noncomputable def c:Con:=⟨H.p,H.r,F⟩
theorem ok:ConOk P_ gl 117 c:=co H func117 (.cons F118.ok .nil) rn
end F117
namespace F121
noncomputable def H:Hd:=⟨[.agg [Si,Si,Si,Sw],Si],[Si], .d,⟨[(88,F88.c),(117,F117.c),(139,F139.c)],gl,false⟩,[],f121⟩
noncomputable def F:=u5 Ae0
theorem rn x:H.u P_ x=F x:=by kernel_rfl
noncomputable def c:Con:=⟨H.p,H.r,F⟩
theorem ok:ConOk P_ gl 121 c:=co H func121 (.cons F88.ok (.cons F117.ok (.cons F139.ok .nil))) rn
end F121
namespace F63
abbrev R_:=Int
noncomputable def H:Hd:=⟨[Si,Sw],[Si],(.seq .d (.seq .d (.seq .d (.seq .d (.cut [] [] (.seq .d (.blk (.loop [5,6,22,23,24] [] .d))) .d))))),⟨[(113,F113.c)],gl,false⟩,[],f63⟩
def t4(b f:Int32)(a:LX)(g:Int):S:=⟨[(5,vx b),(6,vx f),(22,vw a),(23,vi (Ac a)),(24,vi g)],[],[]⟩
def z4:Nat→S→Option R_:=H.i P_ [r,r,r,r,l,r,d]
def x6:Option R_:=H.e P_ [r,r,r,r,r] ⟨[],[],[]⟩
def x4(b f:Int32)(a:LX)(g:Int):Option R_:=H.e P_ [r,r,r,r,l,r,d] (t4 b f a g)
theorem e6:x6=Auu:=by kernel_rfl
theorem i4(b f:Int32)(a:LX):∀(q:Nat) (g:Int),z4 q (t4 b f a g)=Qo b f a q g:=
 ind (fun _=>by kernel_rfl) fun q ih g=>Eq.trans (b:=Ac4 x6 (fun g=>(z4 q) (t4 b f a g)) b f a g) (by kernel_rfl) (by simp only[e6,ih]<;>rfl)
theorem e4:x4=Auo:=by funext b f a g;exact Eq.trans (by kernel_rfl) ((i4 b f a Ct g).trans (by rw[Aq];rfl))
noncomputable def F:=u2 Vt
theorem rn x:H.u P_ x=F x:=Eq.trans (b:=u2 (Amj x4) x) (by kernel_rfl) (by simp only[e4]<;>rfl)
noncomputable def c:Con:=⟨H.p,H.r,F⟩
theorem ok:ConOk P_ gl 63 c:=co H func63 (.cons F113.ok .nil) rn
end F63
namespace F84
noncomputable def H:Hd:=⟨[.agg [Si,Si,Si,Sw]],[Si], .d,⟨[(63,F63.c),(121,F121.c)],gl,false⟩,[],f84⟩
noncomputable def F:=u4 Ds
theorem rn x:H.u P_ x=F x:=by kernel_rfl
noncomputable def c:Con:=⟨H.p,H.r,F⟩
theorem ok:ConOk P_ gl 84 c:=co H func84 (.cons F63.ok (.cons F121.ok .nil)) rn
end F84
namespace F38
def Aii(j2:LB→Int→Int→Int→LX→Option (Int×Int×Int×Int×Int×Int))(a b f:Int)(g:LX)(h:LB):Option (Int×Int×Int×Int×Int×Int):=
(Ds a b f g).bind fun k=>
if(Be k 0)then
some (0,0,0,0,0,k)
else
if(Ga (Ac h) 64)then
some (0,0,0,0,0,2)
else
(Hm (Be a 0)).bind fun _=>
bo (
j2 h a b f g)
theorem Azk: @Aii= @Ac0:=by
  unfold Aii Ac0
  simp only[Ane,Aca,Adr]
abbrev R_:=(Int×Int×Int×Int×Int×Int)
noncomputable def H:Hd:=⟨[.agg [Si,Si,Si,Sw],Ss],[.agg [Si,Si,Si,Si,Si],Si],(.seq .d (.seq .d (.seq .d (.cut [1,4,7] [] .d .d)))),⟨[(84,F84.c)],gl,false⟩,[],f38⟩
def x2(h:LB)(a b f:Int)(g:LX):Option R_:=H.e P_ [r,r,r,r] ⟨[(1,vs h),(4, .ptr 0 []),(7, .ptr 1 [])],[.box 32 (.agg [vi 0,vi 0,vi 0,vi 0,vi 0]), .box 32 (.agg [vi 1,vi a,vi b,vi f,vi (Bg (Ac g) a)])],[]⟩
theorem e2:x2=Aky:=by kernel_rfl
noncomputable def F:=u5 Ant
theorem rn x:H.u P_ x=F x:=Eq.trans (b:=u5 (Aii x2) x) (by kernel_rfl) (by unfold F;rw[Azk];simp only[e2]<;>rfl)
noncomputable def c:Con:=⟨H.p,H.r,F⟩
theorem ok:ConOk P_ gl 38 c:=co H func38 (.cons F84.ok .nil) rn
end F38
namespace F154
abbrev R_:=(UInt64×Int)
abbrev K_:=S→Option R_
noncomputable def H:Hd:=⟨[Sq,Sb],[Sq,Si],(.seq .d (.seq .d (.cut [4,5] [] (.keep [0,1,4,5,9,10,11,12] true) .d))),⟨[],gl,false⟩,[(181,(.seq .d (.cut [1] [] (.seq .d (.blk (.loop [0,1,9,10,11] [] .d))) .d))),(182,(.seq .d (.seq .d (.cut [1] [] (.seq .d (.blk (.loop [1,5] [] (.seq .d (.seq .d (.cut [1,5] [] (.blk (.seq .d (.seq .d (.cut [1,2,3,5] [] (.seq .d (.blk (.loop [1,2,3,5,11] [] .d))) .d)))) .d)))))) .d))))],f154⟩
def t27(a:LB)(b:UInt64)(f:LQ)(h:UInt64)(m:Int):S:=⟨[(0, .ptr 0 []),(1,vq h),(9,vb a),(10,vi (Ac a)),(11,vi m)],[.box 285 (.val (.vec 256 (.int .u64)) f)],[[(0,vq b),(1,vb a),(4,vq 0),(5,vi 0),(9, .ptr 0 []),(10,vq b),(11,vb a)]]⟩
def z27:Nat→S→Option R_:=H.i P_ [r,r,l,(call 3 181),r,l,r,d]
def t21(b:UInt64)(a:LB)(g:Int)(f:LQ)(k:UInt64)(n:Int):S:=⟨[(1, .ptr 0 []),(2,vi g),(3,vq k),(5,vi g),(11,vi n)],[.box 285 (.val (.vec 256 (.int .u64)) f)],[[(0,vq b),(1,vb a),(4,vq 0),(5,vi 0)]]⟩
def z21(kn16:K_):Nat→S→Option R_:=H.i P_ [r,r,l,(call 0 182),r,r,l,r,d,(lp kn16),r,r,l,d,r,r,l,r,d]
def t16(b:UInt64)(a:LB)(g:Int)(f:LQ):S:=⟨[(1, .ptr 0 []),(5,vi g)],[.box 285 (.val (.vec 256 (.int .u64)) f)],[[(0,vq b),(1,vb a),(4,vq 0),(5,vi 0)]]⟩
def z16:Nat→S→Option R_:=H.i P_ [r,r,l,(call 0 182),r,r,l,r,d]
def x30(h:UInt64):Option R_:=H.e P_ [r,r,r] ⟨[(4,vq h),(5,vi 0)],[],[]⟩
def x29(h b:UInt64)(a:LB)(f:LQ):Option R_:=H.e P_ [r,r,l,(call 3 181),r,r] ⟨[(1,vq h)],[.box 285 (.val (.vec 256 (.int .u64)) f)],[[(0,vq b),(1,vb a),(4,vq 0),(5,vi 0),(9, .ptr 0 []),(10,vq b),(11,vb a)]]⟩
def x27(a:LB)(b:UInt64)(f:LQ)(h:UInt64)(m:Int):Option R_:=H.e P_ [r,r,l,(call 3 181),r,l,r,d] (t27 a b f h m)
def x26(b:UInt64)(a:LB)(f:LQ):Option R_:=H.e P_ [r,r,l,(call 0 182),r,r,r] ⟨[(1, .ptr 0 [])],[.box 285 (.val (.vec 256 (.int .u64)) f)],[[(0,vq b),(1,vb a),(4,vq 0),(5,vi 0)]]⟩
def x24(kn16:K_)(b:UInt64)(a:LB)(g:Int)(o:LQ):Option R_:=H.e P_ [r,r,l,(call 0 182),r,r,l,r,d,(lp kn16),r,r,r] ⟨[(1, .ptr 0 []),(5,vi g)],[.box 285 (.val (.vec 256 (.int .u64)) o)],[[(0,vq b),(1,vb a),(4,vq 0),(5,vi 0)]]⟩
def x23(kn16:K_)(b:UInt64)(a:LB)(g:Int)(k:UInt64)(f:LQ):Option R_:=H.e P_ [r,r,l,(call 0 182),r,r,l,r,d,(lp kn16),r,r,l,d,r,r,r] ⟨[(1, .ptr 0 []),(2,vi g),(3,vq k),(5,vi g)],[.box 285 (.val (.vec 256 (.int .u64)) f)],[[(0,vq b),(1,vb a),(4,vq 0),(5,vi 0)]]⟩
def x21(kn16:K_)(b:UInt64)(a:LB)(g:Int)(f:LQ)(k:UInt64)(n:Int):Option R_:=H.e P_ [r,r,l,(call 0 182),r,r,l,r,d,(lp kn16),r,r,l,d,r,r,l,r,d] (t21 b a g f k n)
def x16(b:UInt64)(a:LB)(g:Int)(f:LQ):Option R_:=H.e P_ [r,r,l,(call 0 182),r,r,l,r,d] (t16 b a g f)
theorem e30:x30=Amb:=by kernel_rfl
theorem e29:x29=Amm:=Eq.trans (b:=Aln x30) (by kernel_rfl) (by simp only[e30]<;>rfl)
theorem i27(a:LB)(b:UInt64)(f:LQ):∀(q:Nat) (h:UInt64) (m:Int),z27 q (t27 a b f h m)=Qf a b f q h m:=
 ind (fun _ _=>by kernel_rfl) fun q ih h m=>Eq.trans (b:=Adz x29 (fun h m=>(z27 q) (t27 a b f h m)) a b f h m) (by kernel_rfl) (by simp only[e29,ih]<;>rfl)
theorem e27:x27=Al5:=by funext a b f h m;exact Eq.trans (by kernel_rfl) ((i27 a b f Ct h m).trans (by rw[Aq];rfl))
theorem e26:x26=Abc:=Eq.trans (b:=Akn x27) (by kernel_rfl) (by simp only[e27]<;>rfl)
theorem e24(kn16:K_)(b:UInt64)(a:LB):x24 kn16 b a=Aku (fun g f=>kn16 (t16 b a g f)) b a:=by kernel_rfl
theorem e23(kn16:K_)(b:UInt64)(a:LB):x23 kn16 b a=Ac5 (fun g f=>kn16 (t16 b a g f)) b a:=Eq.trans (b:=Al7 (x24 kn16 b a) b a) (by kernel_rfl) (by simp only[e24]<;>rfl)
theorem i21(kn16:K_)(b:UInt64)(a:LB)(g:Int)(f:LQ):∀(q:Nat) (k:UInt64) (n:Int),z21 kn16 q (t21 b a g f k n)=Pw (fun g f=>kn16 (t16 b a g f)) b a g f q k n:=
 ind (fun _ _=>by kernel_rfl) fun q ih k n=>Eq.trans (b:=Ad2 (x23 kn16 b a) (fun k n=>(z21 kn16 q) (t21 b a g f k n)) b a g f k n) (by kernel_rfl) (by simp only[e23,ih]<;>rfl)
theorem e21(kn16:K_)(b:UInt64)(a:LB):x21 kn16 b a=Akr (fun g f=>kn16 (t16 b a g f)) b a:=by funext g f k n;exact Eq.trans (by kernel_rfl) ((i21 kn16 b a g f Ct k n).trans (by rw[Aq];rfl))
theorem i16(b:UInt64)(a:LB):∀(q:Nat) (g:Int) (f:LQ),z16 q (t16 b a g f)=Mn b a q g f:=
 ind (fun _ _=>by kernel_rfl) fun q ih g f=>Eq.trans (b:=Aba (x21 (z16 q) b a) x26 b a g f) (by kernel_rfl) (by simp only[e21,e26,ih]<;>rfl)
theorem e16:x16=Amh:=by funext b a g f;exact Eq.trans (by kernel_rfl) ((i16 b a Ct g f).trans (by rw[Aq];rfl))
noncomputable def F:=u2 Aru
theorem rn x:H.u P_ x=F x:=Eq.trans (b:=u2 (Aos x16) x) (by kernel_rfl) (by simp only[e16]<;>rfl)
noncomputable def c:Con:=⟨H.p,H.r,F⟩
theorem ok:ConOk P_ gl 154 c:=cr H func154 .nil (AnsOk.cons ent181 (AnsOk.cons ent182 AnsOk.nil)) rn
end F154
namespace F122
noncomputable def H:Hd:=⟨[Sb],[Sq,Si], .d,⟨[(154,F154.c)],gl,false⟩,[],f122⟩
noncomputable def F:=Ap6
theorem rn x:H.u P_ x=F x:=by kernel_rfl
noncomputable def c:Con:=⟨H.p,H.r,F⟩
theorem ok:ConOk P_ gl 122 c:=co H func122 (.cons F154.ok .nil) rn
end F122
namespace F123
abbrev R_:=LX
noncomputable def H:Hd:=⟨[Sq],[.lf (.vec 16 (.int .i32)) none],(.seq .d (.seq .d (.cut [2,3] [] (.seq .d (.blk (.loop [0,2,3,5] [] .d))) .d))),⟨[],gl,false⟩,[],f123⟩
def t4(f:UInt64)(b:Int)(a:LX):S:=⟨[(0,vq f),(2, .ptr 0 []),(3, .ptr 1 []),(5,vi b)],[.box 136 (.val (.vec 16 (.int .i32)) (List.replicate 16 (0:Int32))), .box 136 (.val (.vec 16 (.int .i32)) a)],[]⟩
def z4:Nat→S→Option R_:=H.i P_ [r,r,l,r,d]
def x6(a:LX):Option R_:=H.e P_ [r,r,r] ⟨[(2, .ptr 0 []),(3, .ptr 1 [])],[.box 136 (.val (.vec 16 (.int .i32)) (List.replicate 16 (0:Int32))), .box 136 (.val (.vec 16 (.int .i32)) a)],[]⟩
def x4(f:UInt64)(b:Int)(a:LX):Option R_:=H.e P_ [r,r,l,r,d] (t4 f b a)
theorem e6:x6=Bh6:=by kernel_rfl
theorem i4(f:UInt64):∀(q:Nat) (b:Int) (a:LX),z4 q (t4 f b a)=Ae3 f q b a:=
 ind (fun _ _=>by kernel_rfl) fun q ih b a=>Eq.trans (b:=Ar8 x6 (fun b a=>(z4 q) (t4 f b a)) f b a) (by kernel_rfl) (by simp only[e6,ih]<;>rfl)
theorem e4:x4=Bjg:=by funext f b a;exact Eq.trans (by kernel_rfl) ((i4 f Ct b a).trans (by rw[Aq];rfl))
noncomputable def F:=Bmv
theorem rn x:H.u P_ x=F x:=Eq.trans (b:=Bhv x4 x) (by kernel_rfl) (by simp only[e4]<;>rfl)
noncomputable def c:Con:=⟨H.p,H.r,F⟩
theorem ok:ConOk P_ gl 123 c:=co H func123 .nil rn
end F123
namespace F85
noncomputable def H:Hd:=⟨[Ss],[.lf (.vec 16 (.int .i32)) none,Si], .d,⟨[(122,F122.c),(123,F123.c)],gl,false⟩,[],f85⟩
noncomputable def F:=Aau
theorem rn x:H.u P_ x=F x:=by kernel_rfl
noncomputable def c:Con:=⟨H.p,H.r,F⟩
theorem ok:ConOk P_ gl 85 c:=co H func85 (.cons F122.ok (.cons F123.ok .nil)) rn
end F85
namespace F198
noncomputable def H:Hd:=⟨[Sq,Sq],[Sq,Sq], .d,⟨[],gl,false⟩,[],f198⟩
noncomputable def F:=u2 Ahz
theorem rn x:H.u P_ x=F x:=by kernel_rfl
noncomputable def c:Con:=⟨H.p,H.r,F⟩
theorem ok:ConOk P_ gl 198 c:=co H func198 .nil rn
end F198
namespace F171
noncomputable def H:Hd:=⟨[Sq,Sq],[Sq,Sq], .d,⟨[(198,F198.c)],gl,false⟩,[],f171⟩
noncomputable def F:=u2 Af1
theorem rn x:H.u P_ x=F x:=by kernel_rfl
noncomputable def c:Con:=⟨H.p,H.r,F⟩
theorem ok:ConOk P_ gl 171 c:=co H func171 (.cons F198.ok .nil) rn
end F171
namespace F136
def Ns(j10:LI→Option (LI))(bk8:Int→LI→Option (LI))(b:Int)(a:LI):Option (LI):=
if(Ch b (Ac a))then
both (
(vwI (Ac a) b (Ac a)).bind fun _=>
(vwI (Ac a) 0 b).bind fun _=>
bk8 (Ad b (Aks ((Ac a)-b) (Amq a 0 (b-(0:Int))).length)) (Tw a b ((Ac a)-b) (Amq a 0 (b-(0:Int))))) [
(vwI (Ac a) 0 b).bind fun _=>
(vwI (Ac a) b (Ac a)).bind fun _=>
bk8 (Ad b (Aks ((Ac a)-b) (Amq a 0 (b-(0:Int))).length)) (Tw a b ((Ac a)-b) (Amq a 0 (b-(0:Int))))]
else
j10 a
theorem Ah3: @Ns= @Gp:=by
  unfold Ns Gp
  repeat (refine funext fun _=>?_)
  repeat' first
    |with_reducible rfl
    |with_reducible refine Jw ?_ ?_
    |with_reducible refine Ke ?_ ?_ ?_
    |with_reducible refine Ju ?_ ?_ ?_ ?_
    |((with_reducible refine Ok ?_ ?_);focus (intro h;first|(subst h;rfl)|(simp only[h];rfl)|(simp[Cg,Ac,h];done)))
    |with_reducible refine Oa fun x=>?_
    |with_reducible refine Vp (fun _=>?_) (fun _=>?_)
    |(refine Fm (fun h=>by simp only[h,Oe,Dk,De,ite_self]) (fun x h=>?_);(try simp only[h,Dk]))
    |(refine Hj (fun h=>?_) (fun h=>?_)<;>simp only[h,if_true,if_false,Bool.false_eq_true])
abbrev R_:=LI
noncomputable def H:Hd:=⟨[Sl,Si],[Ol 3],(.seq .d (.cut [0,1] [] .d (.seq .d (.cut [0,6] [] .d (.seq .d (.seq .d (.cut [7] [] (.blk (.loop [7,8] [] (.seq .d (.blk (.mode false))))) .d))))))),⟨[(171,F171.c)],gl,true⟩,[],f136⟩
def t8(b:Int)(a:LI):S:=⟨[(7, .own 0),(8,vi b)],[Ai 3 a],[]⟩
def z8:Nat→S→Option R_:=H.i P_ [r,r,r,r,r,r,l,d]
def x10(a:LI):Option R_:=H.e P_ [r,r,r,r,r,r,r] ⟨[(7, .own 0)],[Ai 3 a],[]⟩
def x8(b:Int)(a:LI):Option R_:=H.e P_ [r,r,r,r,r,r,l,d] (t8 b a)
def x7(f:LI)(g:UInt64):Option R_:=H.e P_ [r,r,r,r] ⟨[(0,vl f),(6,vq g)],[],[]⟩
def x6(f:LI)(h:Int):Option R_:=H.e P_ [r,r] ⟨[(0,vl f),(1,vi h)],[],[]⟩
theorem e10:x10=Ij:=by kernel_rfl
theorem i8:∀(q:Nat) (b:Int) (a:LI),z8 q (t8 b a)=Ej q b a:=
 ind (fun _ _=>by kernel_rfl) fun q ih b a=>Eq.trans (b:=Ns x10 (fun b a=>(z8 q) (t8 b a)) b a) (by kernel_rfl) (by rw[Ah3];simp only[e10,ih]<;>rfl)
theorem e8:x8=Ox:=by funext b a;exact Eq.trans (by kernel_rfl) ((i8 Ct b a).trans (by rw[Aq];rfl))
theorem e7:x7=Pc:=Eq.trans (b:=Pg x8) (by kernel_rfl) (by simp only[e8]<;>rfl)
theorem e6:x6=Oo:=Eq.trans (b:=Om x7) (by kernel_rfl) (by simp only[e7]<;>rfl)
noncomputable def F:=u2 Nb
theorem rn x:H.u P_ x=F x:=Eq.trans (b:=u2 (Ph x6) x) (by kernel_rfl) (by simp only[e6]<;>rfl)
noncomputable def c:Con:=⟨H.p,H.r,F⟩
theorem ok:ConOk P_ gl 136 c:=co H func136 (.cons F171.ok .nil) rn
end F136
namespace F172
abbrev R_:=LI
noncomputable def H:Hd:=⟨[.lf (.list (.list (.int .i64))) none],[Ol 3],(.seq .d (.seq .d (.cut [0,3] [] (.seq .d (.blk (.loop [0,3,9,10,11] [] .d))) (.cut [0,6] [⟨6,[], .own 3 (.int .i64)⟩] (.keep [0,3,6,23,24] true) (.cut [6] [] (.seq .d (.blk (.loop [6,25,26,27] [] .d))) .d))))),⟨[],gl,true⟩,[(199,(.seq .d (.cut [0,1] [] .d .d)))],f172⟩
def t14(a:List LI)(g:Int)(f:LI):S:=⟨[(6, .own 0),(25, .val (.list (.list (.int .i64))) a),(26,vi (Ac a)),(27,vi g)],[Ai 3 f],[]⟩
def z14:Nat→S→Option R_:=H.i P_ [r,r,r,r,l,r,d]
def t9(a:List LI)(b h:Int):S:=⟨[(0, .val (.list (.list (.int .i64))) a),(3,vi b),(9, .val (.list (.list (.int .i64))) a),(10,vi (Ac a)),(11,vi h)],[],[]⟩
def z9:Nat→S→Option R_:=H.i P_ [r,r,l,r,d]
def x16(f:LI):Option R_:=H.e P_ [r,r,r,r,r] ⟨[(6, .own 0)],[Ai 3 f],[]⟩
def x14(a:List LI)(g:Int)(f:LI):Option R_:=H.e P_ [r,r,r,r,l,r,d] (t14 a g f)
def x13(a:List LI)(k:LI):Option R_:=H.e P_ [r,r,r,r] ⟨[(0, .val (.list (.list (.int .i64))) a),(6, .own 0)],[Ai 3 k],[]⟩
def x12(b:Int)(a:List LI):Option R_:=H.e P_ [r,r,r,l,(call 1 199),r,r] ⟨[(0, .nils),(1,vi b)],[],[[(0, .val (.list (.list (.int .i64))) a),(3,vi b),(23,vi b)]]⟩
def x11(a:List LI)(b:Int):Option R_:=H.e P_ [r,r,r] ⟨[(0, .val (.list (.list (.int .i64))) a),(3,vi b)],[],[]⟩
def x9(a:List LI)(b h:Int):Option R_:=H.e P_ [r,r,l,r,d] (t9 a b h)
theorem e16:x16=Ws:=by kernel_rfl
theorem i14(a:List LI):∀(q:Nat) (g:Int) (f:LI),z14 q (t14 a g f)=Dy a q g f:=
 ind (fun _ _=>by kernel_rfl) fun q ih g f=>Eq.trans (b:=Fz x16 (fun g f=>(z14 q) (t14 a g f)) a g f) (by kernel_rfl) (by simp only[e16,ih]<;>rfl)
theorem e14:x14=Np:=by funext a g f;exact Eq.trans (by kernel_rfl) ((i14 a Ct g f).trans (by rw[Aq];rfl))
theorem e13:x13=Ik:=Eq.trans (b:=Nm x14) (by kernel_rfl) (by simp only[e14]<;>rfl)
theorem e12:x12=Nr:=Eq.trans (b:=Nn x13) (by kernel_rfl) (by simp only[e13]<;>rfl)
theorem e11:x11=Nu:=Eq.trans (b:=Nq x12) (by kernel_rfl) (by simp only[e12]<;>rfl)
theorem i9(a:List LI):∀(q:Nat) (b h:Int),z9 q (t9 a b h)=Ek a q b h:=
 ind (fun _ _=>by kernel_rfl) fun q ih b h=>Eq.trans (b:=Gn x11 (fun b h=>(z9 q) (t9 a b h)) a b h) (by kernel_rfl) (by simp only[e11,ih]<;>rfl)
theorem e9:x9=Pb:=by funext a b h;exact Eq.trans (by kernel_rfl) ((i9 a Ct b h).trans (by rw[Aq];rfl))
noncomputable def F:=Ng
theorem rn x:H.u P_ x=F x:=Eq.trans (b:=Ot x9 x) (by kernel_rfl) (by simp only[e9]<;>rfl)
noncomputable def c:Con:=⟨H.p,H.r,F⟩
theorem ok:ConOk P_ gl 172 c:=cr H func172 .nil (AnsOk.cons ent199 AnsOk.nil) rn
end F172
namespace F137
noncomputable def H:Hd:=⟨[Sl,Sl],[Ol 3], .d,⟨[(172,F172.c)],gl,false⟩,[],f137⟩
noncomputable def F:=u2 Alv
theorem rn x:H.u P_ x=F x:=by kernel_rfl
noncomputable def c:Con:=⟨H.p,H.r,F⟩
theorem ok:ConOk P_ gl 137 c:=co H func137 (.cons F172.ok .nil) rn
end F137
namespace F101
noncomputable def H:Hd:=⟨[Si,Si],[Ol 3,Si], .d,⟨[(117,F117.c),(118,F118.c),(136,F136.c),(137,F137.c)],gl,false⟩,[],f101⟩
noncomputable def F:=u2 Vf
theorem rn x:H.u P_ x=F x:=by kernel_rfl
noncomputable def c:Con:=⟨H.p,H.r,F⟩
theorem ok:ConOk P_ gl 101 c:=co H func101 (.cons F117.ok (.cons F118.ok (.cons F136.ok (.cons F137.ok .nil)))) rn
end F101
namespace F155
noncomputable def H:Hd:=⟨[.agg [Si,Si],Sw],[Si], .d,⟨[(63,F63.c),(139,F139.c)],gl,false⟩,[],f155⟩
noncomputable def F:=u3 Af5
theorem rn x:H.u P_ x=F x:=by kernel_rfl
noncomputable def c:Con:=⟨H.p,H.r,F⟩
theorem ok:ConOk P_ gl 155 c:=co H func155 (.cons F63.ok (.cons F139.ok .nil)) rn
end F155
namespace F183
noncomputable def H:Hd:=⟨[Si,Sw],[Si], .d,⟨[],gl,false⟩,[],f183⟩
noncomputable def F:=u2 Apk
theorem rn x:H.u P_ x=F x:=by kernel_rfl
noncomputable def c:Con:=⟨H.p,H.r,F⟩
theorem ok:ConOk P_ gl 183 c:=co H func183 .nil rn
end F183
namespace F184
def Lc(a:LX):Option (LX):=
Bne a (
some ([]:LX)) (
(Cg ([]:LX) a).bind fun b=>
some b)
theorem Ad3: @Lc= @Dj:=by
  unfold Lc Dj
  repeat (refine funext fun _=>?_)
  repeat' first
    |with_reducible rfl
    |with_reducible refine Jw ?_ ?_
    |with_reducible refine Ke ?_ ?_ ?_
    |with_reducible refine Ju ?_ ?_ ?_ ?_
    |((with_reducible refine Ok ?_ ?_);focus (intro h;first|(subst h;rfl)|(simp only[h];rfl)|(simp[Cg,Ac,h];done)))
    |with_reducible refine Oa fun x=>?_
    |with_reducible refine Vp (fun _=>?_) (fun _=>?_)
    |(refine Fm (fun h=>by simp only[h,Oe,Dk,De,ite_self]) (fun x h=>?_);(try simp only[h,Dk]))
    |(refine Hj (fun h=>?_) (fun h=>?_)<;>simp only[h,if_true,if_false,Bool.false_eq_true])
noncomputable def H:Hd:=⟨[Sw],[Ow 21], .d,⟨[],gl,false⟩,[],f184⟩
noncomputable def F:=Dj
theorem rn x:H.u P_ x=F x:=Eq.trans (b:=Lc x) (by kernel_rfl) (by rw[Ad3];rfl)
noncomputable def c:Con:=⟨H.p,H.r,F⟩
theorem ok:ConOk P_ gl 184 c:=co H func184 .nil rn
end F184
namespace F156
abbrev R_:=(LX×Int)
abbrev K_:=S→Option R_
noncomputable def H:Hd:=⟨[Si,Sw],[Ow 21,Si],(.seq .d (.seq .d (.seq .d (.cut [7] [] (.seq .d (.blk (.loop [0,7,8] [] (.seq .d (.cut [0,7,8] [] (.blk (.keep [0,7,8,24,25,26,27,28,29] true)) .d))))) .d)))),⟨[(183,F183.c),(184,F184.c)],gl,true⟩,[(185,(.seq .d (.cut [0,2] [] (.seq .d (.blk (.loop [0,2,7,8] [] .d))) .d)))],f156⟩
def t17(b a h:Int)(g:LX):S:=⟨[(0, .view true 0 [] (.int .i32) a ((Ad a b)-a)),(2,vi (Ah ((Ad a b)-a) (1:Int))),(7,vi (Ah ((Ad a b)-a) (1:Int))),(8,vi h)],[Aw 21 g],[[(0,vi b),(7, .own 0),(8,vi a),(24, .own 0),(25,vi a),(26,vi a),(27,vi b),(28,vi (Ad a b)),(29, .view true 0 [] (.int .i32) a ((Ad a b)-a))]]⟩
def z17(kn12:K_):Nat→S→Option R_:=H.i P_ [r,r,r,l,r,d,(lp kn12),r,l,d,(call 6 185),r,l,r,d]
def t12(b a:Int)(f:LX):S:=⟨[(0,vi b),(7, .own 0),(8,vi a)],[Aw 21 f],[]⟩
def z12:Nat→S→Option R_:=H.i P_ [r,r,r,l,r,d]
def x22(f:LX):Option R_:=H.e P_ [r,r,r,r] ⟨[(7, .own 0)],[Aw 21 f],[]⟩
def x20(kn12:K_)(b a:Int)(k:LX):Option R_:=H.e P_ [r,r,r,l,r,d,(lp kn12),r,r] ⟨[(0,vi b),(7, .own 0),(8,vi a)],[Aw 21 k],[]⟩
def x19(kn12:K_)(b a:Int)(g:LX):Option R_:=H.e P_ [r,r,r,l,r,d,(lp kn12),r,l,d,(call 6 185),r,r] ⟨[(0, .view true 0 [] (.int .i32) a ((Ad a b)-a)),(2,vi (Ah ((Ad a b)-a) (1:Int)))],[Aw 21 g],[[(0,vi b),(7, .own 0),(8,vi a),(24, .own 0),(25,vi a),(26,vi a),(27,vi b),(28,vi (Ad a b)),(29, .view true 0 [] (.int .i32) a ((Ad a b)-a))]]⟩
def x17(kn12:K_)(b a h:Int)(g:LX):Option R_:=H.e P_ [r,r,r,l,r,d,(lp kn12),r,l,d,(call 6 185),r,l,r,d] (t17 b a h g)
def x12(b a:Int)(f:LX):Option R_:=H.e P_ [r,r,r,l,r,d] (t12 b a f)
theorem e22:x22=Bdx:=by kernel_rfl
theorem e20(kn12:K_)(b:Int):x20 kn12 b=Amx (fun a f=>kn12 (t12 b a f)) b:=by kernel_rfl
theorem e19(kn12:K_)(b:Int):x19 kn12 b=At9 (fun a f=>kn12 (t12 b a f)) b:=Eq.trans (b:=At7 (x20 kn12 b) b) (by kernel_rfl) (by simp only[e20]<;>rfl)
theorem i17(kn12:K_)(b a:Int):∀(q:Nat) (h:Int) (g:LX),z17 kn12 q (t17 b a h g)=Aaj (fun a f=>kn12 (t12 b a f)) b a q h g:=
 ind (fun _ _=>by kernel_rfl) fun q ih h g=>Eq.trans (b:=Amt (x19 kn12 b) (fun h g=>(z17 kn12 q) (t17 b a h g)) b a h g) (by kernel_rfl) (by simp only[e19,ih]<;>rfl)
theorem e17(kn12:K_)(b:Int):x17 kn12 b=Bdp (fun a f=>kn12 (t12 b a f)) b:=by funext a h g;exact Eq.trans (by kernel_rfl) ((i17 kn12 b a Ct h g).trans (by rw[Aq];rfl))
theorem i12(b:Int):∀(q:Nat) (a:Int) (f:LX),z12 q (t12 b a f)=Aam b q a f:=
 ind (fun _ _=>by kernel_rfl) fun q ih a f=>Eq.trans (b:=Avc (x17 (z12 q) b) x22 b a f) (by kernel_rfl) (by simp only[e17,e22,ih]<;>rfl)
theorem e12:x12=Aud:=by funext b a f;exact Eq.trans (by kernel_rfl) ((i12 b Ct a f).trans (by rw[Aq];rfl))
noncomputable def F:=u2 Bey
theorem rn x:H.u P_ x=F x:=Eq.trans (b:=u2 (Ay0 x12) x) (by kernel_rfl) (by simp only[e12]<;>rfl)
noncomputable def c:Con:=⟨H.p,H.r,F⟩
theorem ok:ConOk P_ gl 156 c:=cr H func156 (.cons F183.ok (.cons F184.ok .nil)) (AnsOk.cons ent185 AnsOk.nil) rn
end F156
namespace F186
abbrev R_:=(Int×LX×LX×Int)
noncomputable def H:Hd:=⟨[Si, .lf (.vec 16 (.int .i32)) none],[.agg [Si, .lf (.vec 16 (.int .i32)) none, .lf (.vec 16 (.int .i32)) none],Si],(.seq .d (.seq .d (.seq (.seq .d (.blk (.cut [4,6,9,11] [] .d .d))) .d))),⟨[],gl,false⟩,[],f186⟩
def x2(a:Int)(b:LX)(f:Bool):Option R_:=H.e P_ [r,r,l,r,d,r] ⟨[(4, .ptr 0 []),(6, .ptr 1 []),(9,vi a),(11,vt f)],[.box 222 (.agg [vi 0, .val (.vec 16 (.int .i32)) (List.replicate 16 (0:Int32)), .val (.vec 16 (.int .i32)) (List.replicate 16 (0:Int32))]), .box 222 (.agg [vi 10, .val (.vec 16 (.int .i32)) b, .val (.vec 16 (.int .i32)) (List.replicate 16 (0:Int32))])],[]⟩
theorem e2:x2=Bd0:=by kernel_rfl
noncomputable def F:=u2 Az1
theorem rn x:H.u P_ x=F x:=Eq.trans (b:=u2 (Bei x2) x) (by kernel_rfl) (by simp only[e2]<;>rfl)
noncomputable def c:Con:=⟨H.p,H.r,F⟩
theorem ok:ConOk P_ gl 186 c:=co H func186 .nil rn
end F186
namespace F157
noncomputable def H:Hd:=⟨[Si, .lf (.vec 16 (.int .i32)) none],[.agg [Si,Sx, .agg [Si, .lf (.vec 16 (.int .i32)) none, .lf (.vec 16 (.int .i32)) none]],Si], .d,⟨[(186,F186.c)],gl,false⟩,[],f157⟩
noncomputable def F:=u2 Bcf
theorem rn x:H.u P_ x=F x:=by kernel_rfl
noncomputable def c:Con:=⟨H.p,H.r,F⟩
theorem ok:ConOk P_ gl 157 c:=co H func157 (.cons F186.ok .nil) rn
end F157
namespace F187
noncomputable def H:Hd:=⟨[.agg [Si,Sx, .agg [Si, .lf (.vec 16 (.int .i32)) none, .lf (.vec 16 (.int .i32)) none]]],[Si], .d,⟨[(186,F186.c)],gl,false⟩,[],f187⟩
noncomputable def F:=u5 Vu
theorem rn x:H.u P_ x=F x:=by kernel_rfl
noncomputable def c:Con:=⟨H.p,H.r,F⟩
theorem ok:ConOk P_ gl 187 c:=co H func187 (.cons F186.ok .nil) rn
end F187
namespace F204
noncomputable def H:Hd:=⟨[Si],[Si,Si], .d,⟨[],gl,false⟩,[],f204⟩
noncomputable def F:=Au1
theorem rn x:H.u P_ x=F x:=by kernel_rfl
noncomputable def c:Con:=⟨H.p,H.r,F⟩
theorem ok:ConOk P_ gl 204 c:=co H func204 .nil rn
end F204
namespace F205
noncomputable def H:Hd:=⟨[Si,Sx],[Sx], .d,⟨[],gl,false⟩,[],f205⟩
noncomputable def F:=u2 Anv
theorem rn x:H.u P_ x=F x:=by kernel_rfl
noncomputable def c:Con:=⟨H.p,H.r,F⟩
theorem ok:ConOk P_ gl 205 c:=co H func205 .nil rn
end F205
namespace F188
noncomputable def H:Hd:=⟨[Si,Sx],[Sx,Si], .d,⟨[(204,F204.c),(205,F205.c)],gl,false⟩,[],f188⟩
noncomputable def F:=u2 Vk
theorem rn x:H.u P_ x=F x:=by kernel_rfl
noncomputable def c:Con:=⟨H.p,H.r,F⟩
theorem ok:ConOk P_ gl 188 c:=co H func188 (.cons F204.ok (.cons F205.ok .nil)) rn
end F188
namespace F210
noncomputable def H:Hd:=⟨[.agg [Si, .lf (.vec 16 (.int .i32)) none, .lf (.vec 16 (.int .i32)) none]],[Si], .d,⟨[],gl,false⟩,[],f210⟩
noncomputable def F:=u3 Afr
theorem rn x:H.u P_ x=F x:=by kernel_rfl
noncomputable def c:Con:=⟨H.p,H.r,F⟩
theorem ok:ConOk P_ gl 210 c:=co H func210 .nil rn
end F210
namespace F206
abbrev R_:=(Int32×Int)
noncomputable def H:Hd:=⟨[.agg [Si, .lf (.vec 16 (.int .i32)) none, .lf (.vec 16 (.int .i32)) none]],[Sx,Si],(.seq .d (.seq .d (.seq .d (.cut [1,5] [] (.seq .d (.blk (.loop [1,5,18,19] [] .d))) .d)))),⟨[(210,F210.c)],gl,false⟩,[],f206⟩
def t4(b:LX)(a:Int)(f:LX)(g:Int32)(h:Int):S:=⟨[(1, .ptr 0 []),(5,vx g),(18, .val (.vec 16 (.int .i32)) b),(19,vi h)],[.box 222 (.agg [vi a, .val (.vec 16 (.int .i32)) b, .val (.vec 16 (.int .i32)) f])],[]⟩
def z4:Nat→S→Option R_:=H.i P_ [r,r,r,l,r,d]
def x6(g:Int32)(a:Int)(b f:LX):Option R_:=H.e P_ [r,r,r,r] ⟨[(1, .ptr 0 []),(5,vx g)],[.box 222 (.agg [vi a, .val (.vec 16 (.int .i32)) b, .val (.vec 16 (.int .i32)) f])],[]⟩
def x4(b:LX)(a:Int)(f:LX)(g:Int32)(h:Int):Option R_:=H.e P_ [r,r,r,l,r,d] (t4 b a f g h)
theorem e6:x6=Aot:=by kernel_rfl
theorem i4(b:LX)(a:Int)(f:LX):∀(q:Nat) (g:Int32) (h:Int),z4 q (t4 b a f g h)=Sy b a f q g h:=
 ind (fun _ _=>by kernel_rfl) fun q ih g h=>Eq.trans (b:=Afy x6 (fun g h=>(z4 q) (t4 b a f g h)) b a f g h) (by kernel_rfl) (by simp only[e6,ih]<;>rfl)
theorem e4:x4=Ao3:=by funext b a f g h;exact Eq.trans (by kernel_rfl) ((i4 b a f Ct g h).trans (by rw[Aq];rfl))
noncomputable def F:=u3 Al1
theorem rn x:H.u P_ x=F x:=Eq.trans (b:=u3 (Aof x4) x) (by kernel_rfl) (by simp only[e4]<;>rfl)
noncomputable def c:Con:=⟨H.p,H.r,F⟩
theorem ok:ConOk P_ gl 206 c:=co H func206 (.cons F210.ok .nil) rn
end F206
namespace F215
noncomputable def H:Hd:=⟨[Si],[Sx], .d,⟨[],gl,false⟩,[],f215⟩
noncomputable def F:=Apz
theorem rn x:H.u P_ x=F x:=by kernel_rfl
noncomputable def c:Con:=⟨H.p,H.r,F⟩
theorem ok:ConOk P_ gl 215 c:=co H func215 .nil rn
end F215
namespace F211
abbrev R_:=(Int×LX×LX×Int)
noncomputable def H:Hd:=⟨[.agg [Si, .lf (.vec 16 (.int .i32)) none, .lf (.vec 16 (.int .i32)) none],Sx],[.agg [Si, .lf (.vec 16 (.int .i32)) none, .lf (.vec 16 (.int .i32)) none],Si],(.seq .d (.seq .d (.seq .d (.cut [2,4] [] (.seq .d (.blk (.loop [1,2,4,19,20] [] .d))) .d)))),⟨[(210,F210.c),(215,F215.c)],gl,false⟩,[],f211⟩
def t4(h:Int32)(f:LX)(g a:Int)(b:LX):S:=⟨[(1,vx h),(2, .ptr 0 []),(4, .ptr 1 []),(19, .val (.vec 16 (.int .i32)) f),(20,vi a)],[.box 222 (.agg [vi g, .val (.vec 16 (.int .i32)) b, .val (.vec 16 (.int .i32)) f]), .box 222 (.agg [vi 0, .val (.vec 16 (.int .i32)) (List.replicate 16 (0:Int32)), .val (.vec 16 (.int .i32)) (List.replicate 16 (0:Int32))])],[]⟩
def z4:Nat→S→Option R_:=H.i P_ [r,r,r,l,r,d]
def x6(g:Int)(b f:LX):Option R_:=H.e P_ [r,r,r,r] ⟨[(2, .ptr 0 []),(4, .ptr 1 [])],[.box 222 (.agg [vi g, .val (.vec 16 (.int .i32)) b, .val (.vec 16 (.int .i32)) f]), .box 222 (.agg [vi 0, .val (.vec 16 (.int .i32)) (List.replicate 16 (0:Int32)), .val (.vec 16 (.int .i32)) (List.replicate 16 (0:Int32))])],[]⟩
def x4(h:Int32)(f:LX)(g a:Int)(b:LX):Option R_:=H.e P_ [r,r,r,l,r,d] (t4 h f g a b)
theorem e6:x6=Ax4:=by kernel_rfl
theorem i4(h:Int32)(f:LX)(g:Int):∀(q:Nat) (a:Int) (b:LX),z4 q (t4 h f g a b)=Tf h f g q a b:=
 ind (fun _ _=>by kernel_rfl) fun q ih a b=>Eq.trans (b:=Afw x6 (fun a b=>(z4 q) (t4 h f g a b)) h f g a b) (by kernel_rfl) (by simp only[e6,ih]<;>rfl)
theorem e4:x4=Ayk:=by funext h f g a b;exact Eq.trans (by kernel_rfl) ((i4 h f g Ct a b).trans (by rw[Aq];rfl))
noncomputable def F:=u4 Aq9
theorem rn x:H.u P_ x=F x:=Eq.trans (b:=u4 (Apb x4) x) (by kernel_rfl) (by simp only[e4]<;>rfl)
noncomputable def c:Con:=⟨H.p,H.r,F⟩
theorem ok:ConOk P_ gl 211 c:=co H func211 (.cons F210.ok (.cons F215.ok .nil)) rn
end F211
namespace F212
def Ao2(j2:Int32→Int→LX→LX→Option (Int×LX×LX×Int))(b:Int)(f a:LX)(g:Int32):Option (Int×LX×LX×Int):=
(Afr b f a).bind fun h=>
if(Be h 0)then
some (0,(List.replicate 16 (0:Int32)),(List.replicate 16 (0:Int32)),h)
else
both (
(vwI 16 1 16).bind fun _=>
(vwI 16 0 16).bind fun _=>
j2 g b f a) [
(vwI 16 0 16).bind fun _=>
(vwI 16 1 16).bind fun _=>
j2 g b f a]
theorem Bcp: @Ao2= @Aji:=by
  unfold Ao2 Aji
  repeat (refine funext fun _=>?_)
  repeat' first
    |with_reducible rfl
    |with_reducible refine Jw ?_ ?_
    |with_reducible refine Ke ?_ ?_ ?_
    |with_reducible refine Ju ?_ ?_ ?_ ?_
    |((with_reducible refine Ok ?_ ?_);focus (intro h;first|(subst h;rfl)|(simp only[h];rfl)|(simp[Cg,Ac,h];done)))
    |with_reducible refine Oa fun x=>?_
    |with_reducible refine Vp (fun _=>?_) (fun _=>?_)
    |(refine Fm (fun h=>by simp only[h,Oe,Dk,De,ite_self]) (fun x h=>?_);(try simp only[h,Dk]))
    |(refine Hj (fun h=>?_) (fun h=>?_)<;>simp only[h,if_true,if_false,Bool.false_eq_true])
abbrev R_:=(Int×LX×LX×Int)
noncomputable def H:Hd:=⟨[.agg [Si, .lf (.vec 16 (.int .i32)) none, .lf (.vec 16 (.int .i32)) none],Sx],[.agg [Si, .lf (.vec 16 (.int .i32)) none, .lf (.vec 16 (.int .i32)) none],Si],(.seq .d (.seq .d (.cut [1,2,4] [] .d .d))),⟨[(210,F210.c)],gl,false⟩,[],f212⟩
def x2(g:Int32)(b:Int)(f a:LX):Option R_:=H.e P_ [r,r,r] ⟨[(1,vx g),(2, .ptr 0 []),(4, .ptr 1 [])],[.box 222 (.agg [vi b, .val (.vec 16 (.int .i32)) f, .val (.vec 16 (.int .i32)) (Tw a (1:Int) ((16:Int)-(1:Int)) (Amq a (0:Int) ((16:Int)-(0:Int))))]), .box 222 (.agg [vi 0, .val (.vec 16 (.int .i32)) (List.replicate 16 (0:Int32)), .val (.vec 16 (.int .i32)) (List.replicate 16 (0:Int32))])],[]⟩
theorem e2:x2=Aq4:=by kernel_rfl
noncomputable def F:=u4 Aw3
theorem rn x:H.u P_ x=F x:=Eq.trans (b:=u4 (Ao2 x2) x) (by kernel_rfl) (by unfold F;rw[Bcp];simp only[e2]<;>rfl)
noncomputable def c:Con:=⟨H.p,H.r,F⟩
theorem ok:ConOk P_ gl 212 c:=co H func212 (.cons F210.ok .nil) rn
end F212
namespace F207
noncomputable def H:Hd:=⟨[.agg [Si, .lf (.vec 16 (.int .i32)) none, .lf (.vec 16 (.int .i32)) none],Sx,Sx],[.agg [Si, .lf (.vec 16 (.int .i32)) none, .lf (.vec 16 (.int .i32)) none]], .d,⟨[(211,F211.c),(212,F212.c)],gl,false⟩,[],f207⟩
noncomputable def F:=u5 Al4
theorem rn x:H.u P_ x=F x:=by kernel_rfl
noncomputable def c:Con:=⟨H.p,H.r,F⟩
theorem ok:ConOk P_ gl 207 c:=co H func207 (.cons F211.ok (.cons F212.ok .nil)) rn
end F207
namespace F189
noncomputable def H:Hd:=⟨[.agg [Si, .lf (.vec 16 (.int .i32)) none, .lf (.vec 16 (.int .i32)) none],Sx],[Sx, .agg [Si, .lf (.vec 16 (.int .i32)) none, .lf (.vec 16 (.int .i32)) none],Si], .d,⟨[(206,F206.c),(207,F207.c)],gl,false⟩,[],f189⟩
noncomputable def F:=u4 Anb
theorem rn x:H.u P_ x=F x:=by kernel_rfl
noncomputable def c:Con:=⟨H.p,H.r,F⟩
theorem ok:ConOk P_ gl 189 c:=co H func189 (.cons F206.ok (.cons F207.ok .nil)) rn
end F189
namespace F158
def Acf(a:Int)(b:Int32)(f:Int)(g h:LX)(k:Int32):Option (Int32×Int×Int32×Int×LX×LX×Int):=
(Vu a b f g h).bind fun m=>
if(Be m 0)then
some (0,0,0,0,(List.replicate 16 (0:Int32)),(List.replicate 16 (0:Int32)),m)
else
(Vk a b).bind fun(n,y)=>
(Anb f g h (Ah k n)).bind fun(o,p,u,v,w)=>
bo (
some (o,a,k,p,u,v,w))
theorem Awd: @Acf= @Tg:=by
  unfold Acf Tg
  simp only[Ane,Aca,Adr]
noncomputable def H:Hd:=⟨[.agg [Si,Sx, .agg [Si, .lf (.vec 16 (.int .i32)) none, .lf (.vec 16 (.int .i32)) none]],Sx],[Sx, .agg [Si,Sx, .agg [Si, .lf (.vec 16 (.int .i32)) none, .lf (.vec 16 (.int .i32)) none]],Si],(.seq .d (.seq .d (.seq .d (.seq .d (.seq (.mode false) .d))))),⟨[(187,F187.c),(188,F188.c),(189,F189.c)],gl,false⟩,[],f158⟩
noncomputable def F:=u6 Tg
theorem rn x:H.u P_ x=F x:=Eq.trans (b:=u6 Acf x) (by kernel_rfl) (by rw[Awd];rfl)
noncomputable def c:Con:=⟨H.p,H.r,F⟩
theorem ok:ConOk P_ gl 158 c:=co H func158 (.cons F187.ok (.cons F188.ok (.cons F189.ok .nil))) rn
end F158
namespace F159
noncomputable def H:Hd:=⟨[Sx],[Su], .d,⟨[],gl,false⟩,[],f159⟩
noncomputable def F:=Axi
theorem rn x:H.u P_ x=F x:=by kernel_rfl
noncomputable def c:Con:=⟨H.p,H.r,F⟩
theorem ok:ConOk P_ gl 159 c:=co H func159 .nil rn
end F159
namespace F125
abbrev R_:=(LU×Int)
noncomputable def H:Hd:=⟨[.agg [Si,Si], .lf (.vec 16 (.int .i32)) none,Sw],[Ov 60,Si],(.seq .d (.seq .d (.seq .d (.seq .d (.seq .d (.cut [3,9,11] [] (.seq .d (.blk (.loop [3,4,9,11,36] [] .d))) (.seq .d (.cut [13] [] (.seq .d (.blk (.loop [3,11,13,49,50,51] [⟨13,[], .own 60 (.int .u32)⟩] .d))) .d)))))))),⟨[(155,F155.c),(156,F156.c),(157,F157.c),(158,F158.c),(159,F159.c)],gl,false⟩,[],f125⟩
def t10(b:LX)(a f g:Int)(o:List (Int×Int32×(Int×LX×LX×Unit)×Unit))(k:LU):S:=⟨[(3, .ptr 0 []),(11, .ptr 1 []),(13, .own 2),(49, .own 3),(50,vi (Ac b)),(51,vi g)],[.box 74 (.agg [vi a,vi f]), .box 225 (.val (.vec 6 (.cons (.int .i64) (.cons (.int .i32) (.cons (.cons (.int .i64) (.cons (.vec 16 (.int .i32)) (.cons (.vec 16 (.int .i32)) .nil))) .nil)))) o),Av 60 k,Aw 21 b],[]⟩
def z10:Nat→S→Option R_:=H.i P_ [r,r,r,r,r,r,r,l,r,d]
def t7(a f:Int)(m b:LX)(n:Int)(h:List (Int×Int32×(Int×LX×LX×Unit)×Unit)):S:=⟨[(3, .ptr 0 []),(4, .ptr 1 []),(9, .own 2),(11, .ptr 3 []),(36,vi n)],[.box 74 (.agg [vi a,vi f]), .box 136 (.val (.vec 16 (.int .i32)) m),Aw 21 b, .box 225 (.val (.vec 6 (.cons (.int .i64) (.cons (.int .i32) (.cons (.cons (.int .i64) (.cons (.vec 16 (.int .i32)) (.cons (.vec 16 (.int .i32)) .nil))) .nil)))) h)],[]⟩
def z7:Nat→S→Option R_:=H.i P_ [r,r,r,r,r,l,r,d]
def x12(k:LU):Option R_:=H.e P_ [r,r,r,r,r,r,r,r] ⟨[(13, .own 0)],[Av 60 k],[]⟩
def x10(b:LX)(a f g:Int)(o:List (Int×Int32×(Int×LX×LX×Unit)×Unit))(k:LU):Option R_:=H.e P_ [r,r,r,r,r,r,r,l,r,d] (t10 b a f g o k)
def x9(a f:Int)(b:LX)(h:List (Int×Int32×(Int×LX×LX×Unit)×Unit)):Option R_:=H.e P_ [r,r,r,r,r,r] ⟨[(3, .ptr 0 []),(9, .own 1),(11, .ptr 2 [])],[.box 74 (.agg [vi a,vi f]),Aw 21 b, .box 225 (.val (.vec 6 (.cons (.int .i64) (.cons (.int .i32) (.cons (.cons (.int .i64) (.cons (.vec 16 (.int .i32)) (.cons (.vec 16 (.int .i32)) .nil))) .nil)))) h)],[]⟩
def x7(a f:Int)(m b:LX)(n:Int)(h:List (Int×Int32×(Int×LX×LX×Unit)×Unit)):Option R_:=H.e P_ [r,r,r,r,r,l,r,d] (t7 a f m b n h)
theorem e12:x12=Alj:=by kernel_rfl
theorem i10(b:LX)(a f:Int):∀(q:Nat) (g:Int) (o:List (Int×Int32×(Int×LX×LX×Unit)×Unit)) (k:LU),z10 q (t10 b a f g o k)=Jg b a f q g o k:=
 ind (fun _ _ _=>by kernel_rfl) fun q ih g o k=>Eq.trans (b:=Ri x12 (fun g o k=>(z10 q) (t10 b a f g o k)) b a f g o k) (by kernel_rfl) (by simp only[e12,ih]<;>rfl)
theorem e10:x10=Al3:=by funext b a f g o k;exact Eq.trans (by kernel_rfl) ((i10 b a f Ct g o k).trans (by rw[Aq];rfl))
theorem e9:x9=Ac1:=Eq.trans (b:=Anp x10) (by kernel_rfl) (by simp only[e10]<;>rfl)
theorem i7(a f:Int)(m b:LX):∀(q:Nat) (n:Int) (h:List (Int×Int32×(Int×LX×LX×Unit)×Unit)),z7 q (t7 a f m b n h)=Adk a f m b q n h:=
 ind (fun _ _=>by kernel_rfl) fun q ih n h=>Eq.trans (b:=Amu x9 (fun n h=>(z7 q) (t7 a f m b n h)) a f m b n h) (by kernel_rfl) (by simp only[e9,ih]<;>rfl)
theorem e7:x7=Ur:=by funext a f m b n h;exact Eq.trans (by kernel_rfl) ((i7 a f m b Ct n h).trans (by rw[Aq];rfl))
noncomputable def F:=u4 Abv
theorem rn x:H.u P_ x=F x:=Eq.trans (b:=u4 (Abp x7) x) (by kernel_rfl) (by simp only[e7]<;>rfl)
noncomputable def c:Con:=⟨H.p,H.r,F⟩
theorem ok:ConOk P_ gl 125 c:=co H func125 (.cons F155.ok (.cons F156.ok (.cons F157.ok (.cons F158.ok (.cons F159.ok .nil))))) rn
end F125
namespace F160
noncomputable def H:Hd:=⟨[],[.agg [Si,Si,Sq,Sq]], .d,⟨[],gl,false⟩,[],f160⟩
noncomputable def F(x:Unit):=Ay1
theorem rn x:H.u P_ x=F x:=by kernel_rfl
noncomputable def c:Con:=⟨H.p,H.r,F⟩
theorem ok:ConOk P_ gl 160 c:=co H func160 .nil rn
end F160
namespace F126
abbrev R_:=((List (Int×Int×UInt64×UInt64×Unit)))
noncomputable def H:Hd:=⟨[],[.lf (.vec 6 (.cons (.int .i64) (.cons (.int .i64) (.cons (.int .u64) (.cons (.int .u64) .nil))))) none],(.seq .d (.seq .d (.cut [0,1] [] (.seq .d (.blk (.loop [0,1,3] [] .d))) .d))),⟨[(160,F160.c)],gl,false⟩,[],f126⟩
def t4(b:Int)(a:List (Int×Int×UInt64×UInt64×Unit)):S:=⟨[(0, .ptr 0 []),(1, .ptr 1 []),(3,vi b)],[.box 185 (.val (.vec 6 (.cons (.int .i64) (.cons (.int .i64) (.cons (.int .u64) (.cons (.int .u64) .nil))))) (List.replicate 6 ((0:Int),(0:Int),(0:UInt64),(0:UInt64),()))), .box 185 (.val (.vec 6 (.cons (.int .i64) (.cons (.int .i64) (.cons (.int .u64) (.cons (.int .u64) .nil))))) a)],[]⟩
def z4:Nat→S→Option R_:=H.i P_ [r,r,l,r,d]
def x6(a:List (Int×Int×UInt64×UInt64×Unit)):Option R_:=H.e P_ [r,r,r] ⟨[(0, .ptr 0 []),(1, .ptr 1 [])],[.box 185 (.val (.vec 6 (.cons (.int .i64) (.cons (.int .i64) (.cons (.int .u64) (.cons (.int .u64) .nil))))) (List.replicate 6 ((0:Int),(0:Int),(0:UInt64),(0:UInt64),()))), .box 185 (.val (.vec 6 (.cons (.int .i64) (.cons (.int .i64) (.cons (.int .u64) (.cons (.int .u64) .nil))))) a)],[]⟩
def x4(b:Int)(a:List (Int×Int×UInt64×UInt64×Unit)):Option R_:=H.e P_ [r,r,l,r,d] (t4 b a)
theorem e6:x6=Am6:=by kernel_rfl
theorem i4:∀(q:Nat) (b:Int) (a:List (Int×Int×UInt64×UInt64×Unit)),z4 q (t4 b a)=Aci q b a:=
 ind (fun _ _=>by kernel_rfl) fun q ih b a=>Eq.trans (b:=Am3 x6 (fun b a=>(z4 q) (t4 b a)) b a) (by kernel_rfl) (by simp only[e6,ih]<;>rfl)
theorem e4:x4=Abx:=by funext b a;exact Eq.trans (by kernel_rfl) ((i4 Ct b a).trans (by rw[Aq];rfl))
noncomputable def F(x:Unit):=Abu
theorem rn x:H.u P_ x=F x:=Eq.trans (b:=Abe x4) (by kernel_rfl) (by simp only[e4]<;>rfl)
noncomputable def c:Con:=⟨H.p,H.r,F⟩
theorem ok:ConOk P_ gl 126 c:=co H func126 (.cons F160.ok .nil) rn
end F126
namespace F161
noncomputable def H:Hd:=⟨[.agg [Sb,Si]],[Si], .d,⟨[],gl,false⟩,[],f161⟩
noncomputable def F:=u2 Hw
theorem rn x:H.u P_ x=F x:=by kernel_rfl
noncomputable def c:Con:=⟨H.p,H.r,F⟩
theorem ok:ConOk P_ gl 161 c:=co H func161 .nil rn
end F161
namespace F162
def Alb(j4:Int→Int→UInt64→UInt64→Option Int)(a b:Int)(f g:UInt64):Option Int:=
both (
bo (
j4 a b f g)) [
j4 a b f g]
theorem Bbb: @Alb= @Af2:=by
  unfold Alb Af2
  repeat (refine funext fun _=>?_)
  repeat' first
    |with_reducible rfl
    |with_reducible refine Jw ?_ ?_
    |with_reducible refine Ke ?_ ?_ ?_
    |with_reducible refine Ju ?_ ?_ ?_ ?_
    |((with_reducible refine Ok ?_ ?_);focus (intro h;first|(subst h;rfl)|(simp only[h];rfl)|(simp[Cg,Ac,h];done)))
    |with_reducible refine Oa fun x=>?_
    |with_reducible refine Vp (fun _=>?_) (fun _=>?_)
    |(refine Fm (fun h=>by simp only[h,Oe,Dk,De,ite_self]) (fun x h=>?_);(try simp only[h,Dk]))
    |(refine Hj (fun h=>?_) (fun h=>?_)<;>simp only[h,if_true,if_false,Bool.false_eq_true])
def Ald(j3:Int→Int→UInt64→UInt64→Option Int)(a b:Int)(f g:UInt64):Option Int:=
both (
bo (
j3 a b f g)) [
j3 a b f g]
theorem Bac: @Ald= @Aga:=by
  unfold Ald Aga
  repeat (refine funext fun _=>?_)
  repeat' first
    |with_reducible rfl
    |with_reducible refine Jw ?_ ?_
    |with_reducible refine Ke ?_ ?_ ?_
    |with_reducible refine Ju ?_ ?_ ?_ ?_
    |((with_reducible refine Ok ?_ ?_);focus (intro h;first|(subst h;rfl)|(simp only[h];rfl)|(simp[Cg,Ac,h];done)))
    |with_reducible refine Oa fun x=>?_
    |with_reducible refine Vp (fun _=>?_) (fun _=>?_)
    |(refine Fm (fun h=>by simp only[h,Oe,Dk,De,ite_self]) (fun x h=>?_);(try simp only[h,Dk]))
    |(refine Hj (fun h=>?_) (fun h=>?_)<;>simp only[h,if_true,if_false,Bool.false_eq_true])
abbrev R_:=Int
noncomputable def H:Hd:=⟨[.agg [Si,Si,Sq,Sq]],[Si],(.seq .d (.seq .d (.cut [1,3] [] (.mode false) (.cut [1,3] [] (.mode false) .d)))),⟨[],gl,false⟩,[],f162⟩
def x4(a b:Int)(f g:UInt64):Option R_:=H.e P_ [r,r,r,r] ⟨[(1, .ptr 0 []),(3, .ptr 1 [])],[.box 184 (.agg [vi a,vi b,vq f,vq g]), .box 184 (.agg [vi (Dx (At3 a (0:Int)) (24:Int)),vi (Dx (At3 b (0:Int)) (24:Int)),vq (Dx f (68719476735:UInt64)),vq (Dx g (68719476735:UInt64))])],[]⟩
def x3(a b:Int)(f g:UInt64):Option R_:=H.e P_ [r,r,r] ⟨[(1, .ptr 0 []),(3, .ptr 1 [])],[.box 184 (.agg [vi a,vi b,vq f,vq g]), .box 184 (.agg [vi (Dx (At3 a (0:Int)) (24:Int)),vi (Dx (At3 b (0:Int)) (24:Int)),vq f,vq g])],[]⟩
theorem e4:x4=Aog:=by kernel_rfl
theorem e3:x3=Aov:=Eq.trans (b:=Alb x4) (by kernel_rfl) (by rw[Bbb];simp only[e4]<;>rfl)
noncomputable def F:=u4 Amk
theorem rn x:H.u P_ x=F x:=Eq.trans (b:=u4 (Ald x3) x) (by kernel_rfl) (by unfold F;rw[Bac];simp only[e3]<;>rfl)
noncomputable def c:Con:=⟨H.p,H.r,F⟩
theorem ok:ConOk P_ gl 162 c:=co H func162 .nil rn
end F162
namespace F163
noncomputable def H:Hd:=⟨[.agg [Si,Si,Sq,Sq],Su],[Si,Su], .d,⟨[],gl,false⟩,[],f163⟩
noncomputable def F:=u5 Afa
theorem rn x:H.u P_ x=F x:=by kernel_rfl
noncomputable def c:Con:=⟨H.p,H.r,F⟩
theorem ok:ConOk P_ gl 163 c:=co H func163 .nil rn
end F163
namespace F173
def My(a:LB):Option (LB):=
Bne a (
some ([]:LB)) (
(Cg ([]:LB) a).bind fun b=>
some b)
theorem Ahc: @My= @Ec:=by
  unfold My Ec
  repeat (refine funext fun _=>?_)
  repeat' first
    |with_reducible rfl
    |with_reducible refine Jw ?_ ?_
    |with_reducible refine Ke ?_ ?_ ?_
    |with_reducible refine Ju ?_ ?_ ?_ ?_
    |((with_reducible refine Ok ?_ ?_);focus (intro h;first|(subst h;rfl)|(simp only[h];rfl)|(simp[Cg,Ac,h];done)))
    |with_reducible refine Oa fun x=>?_
    |with_reducible refine Vp (fun _=>?_) (fun _=>?_)
    |(refine Fm (fun h=>by simp only[h,Oe,Dk,De,ite_self]) (fun x h=>?_);(try simp only[h,Dk]))
    |(refine Hj (fun h=>?_) (fun h=>?_)<;>simp only[h,if_true,if_false,Bool.false_eq_true])
noncomputable def H:Hd:=⟨[Sb],[Ob 5], .d,⟨[],gl,false⟩,[],f173⟩
noncomputable def F:=Ec
theorem rn x:H.u P_ x=F x:=Eq.trans (b:=My x) (by kernel_rfl) (by rw[Ahc];rfl)
noncomputable def c:Con:=⟨H.p,H.r,F⟩
theorem ok:ConOk P_ gl 173 c:=co H func173 .nil rn
end F173
namespace F190
noncomputable def H:Hd:=⟨[.agg [Sb,Si]],[.agg [Ob 5,Si]], .d,⟨[(173,F173.c)],gl,false⟩,[],f190⟩
noncomputable def F:=u2 Aqd
theorem rn x:H.u P_ x=F x:=by kernel_rfl
noncomputable def c:Con:=⟨H.p,H.r,F⟩
theorem ok:ConOk P_ gl 190 c:=co H func190 (.cons F173.ok .nil) rn
end F190
namespace F164
abbrev R_:=(LB×Int×Int)
abbrev K_:=S→Option R_
noncomputable def H:Hd:=⟨[.agg [Sb,Si],Sq,Si],[.agg [Ob 5,Si],Si],(.seq .d (.seq .d (.seq .d (.cut [3,6] [] (.keep [1,2,3,6,40,41] true) .d)))),⟨[(161,F161.c),(190,F190.c)],gl,false⟩,[(191,(.blk (.loop [0,1,2] [] (.seq .d (.blk (.cut [0,1,2] [] .d (.seq .d (.cut [0,1,2,7] [] .d .d))))))))],f164⟩
def t15(b:UInt64)(a:Int)(m:UInt64)(h f:Int)(o:LB):S:=⟨[(0, .ptr 0 []),(1,vq m),(2,vi h)],[.box 188 (.agg [.own 2,vi f]), .box 188 (.agg [.nils,vi 0]),Ab 5 o],[[(1,vq b),(2,vi a),(3, .ptr 0 []),(6, .ptr 1 []),(40,vq b),(41,vi a)]]⟩
def z15:Nat→S→Option R_:=H.i P_ [r,r,r,l,(call 2 191),d]
def t22(b:UInt64)(a:Int)(n:UInt64)(k g:Int)(p:LB):S:=⟨[(0, .ptr 0 []),(1,vq n),(2,vi k)],[.box 188 (.agg [.own 2,vi g]), .box 188 (.agg [.nils,vi 0]),Ab 5 p],[[(1,vq b),(2,vi a),(3, .ptr 0 []),(6, .ptr 1 []),(40,vq b),(41,vi a)]]⟩
def z22:Nat→S→Option R_:=H.i P_ [r,r,r,l,(call 2 191),d]
def x21(f:Int)(o:LB):Option R_:=H.e P_ [r,r,r,r] ⟨[(3, .ptr 0 []),(6, .ptr 1 [])],[.box 188 (.agg [.own 2,vi f]), .box 188 (.agg [.nils,vi 0]),Ab 5 o],[]⟩
def x19(kn15:K_)(b:UInt64)(a:Int)(m:UInt64)(h f:Int)(w:LB):Option R_:=H.e P_ [r,r,r,l,(call 2 191),d,(lp kn15),r,d,r,r,r] ⟨[(0, .ptr 0 []),(1,vq m),(2,vi h),(7,vi (Dx h (Ah (8:Int) (Dq f (7:Int)))))],[.box 188 (.agg [.own 2,vi f]), .box 188 (.agg [.nils,vi 0]),Ab 5 w],[[(1,vq b),(2,vi a),(3, .ptr 0 []),(6, .ptr 1 []),(40,vq b),(41,vi a)]]⟩
def x18(kn15:K_)(b:UInt64)(a:Int)(m:UInt64)(h f:Int)(u:LB):Option R_:=H.e P_ [r,r,r,l,(call 2 191),d,(lp kn15),r,d,r] ⟨[(0, .ptr 0 []),(1,vq m),(2,vi h)],[.box 188 (.agg [.own 2,vi f]), .box 188 (.agg [.nils,vi 0]),Ab 5 u],[[(1,vq b),(2,vi a),(3, .ptr 0 []),(6, .ptr 1 []),(40,vq b),(41,vi a)]]⟩
def x15(b:UInt64)(a:Int)(m:UInt64)(h f:Int)(o:LB):Option R_:=H.e P_ [r,r,r,l,(call 2 191),d] (t15 b a m h f o)
def x28(g:Int)(p:LB):Option R_:=H.e P_ [r,r,r,r] ⟨[(3, .ptr 0 []),(6, .ptr 1 [])],[.box 188 (.agg [.own 2,vi g]), .box 188 (.agg [.nils,vi 0]),Ab 5 p],[]⟩
def x26(kn22:K_)(b:UInt64)(a:Int)(n:UInt64)(k g:Int)(y:LB):Option R_:=H.e P_ [r,r,r,l,(call 2 191),d,(lp kn22),r,d,r,r,r] ⟨[(0, .ptr 0 []),(1,vq n),(2,vi k),(7,vi (Dx k (Ah (8:Int) (Dq g (7:Int)))))],[.box 188 (.agg [.own 2,vi g]), .box 188 (.agg [.nils,vi 0]),Ab 5 y],[[(1,vq b),(2,vi a),(3, .ptr 0 []),(6, .ptr 1 []),(40,vq b),(41,vi a)]]⟩
def x25(kn22:K_)(b:UInt64)(a:Int)(n:UInt64)(k g:Int)(v:LB):Option R_:=H.e P_ [r,r,r,l,(call 2 191),d,(lp kn22),r,d,r] ⟨[(0, .ptr 0 []),(1,vq n),(2,vi k)],[.box 188 (.agg [.own 2,vi g]), .box 188 (.agg [.nils,vi 0]),Ab 5 v],[[(1,vq b),(2,vi a),(3, .ptr 0 []),(6, .ptr 1 []),(40,vq b),(41,vi a)]]⟩
def x22(b:UInt64)(a:Int)(n:UInt64)(k g:Int)(p:LB):Option R_:=H.e P_ [r,r,r,l,(call 2 191),d] (t22 b a n k g p)
theorem e21:x21=Ari:=by kernel_rfl
theorem e19(kn15:K_)(b:UInt64)(a:Int):x19 kn15 b a=Aq2 (fun m h f o=>kn15 (t15 b a m h f o)) b a:=by kernel_rfl
theorem e18(kn15:K_)(b:UInt64)(a:Int):x18 kn15 b a=Ajg (fun m h f o=>kn15 (t15 b a m h f o)) b a:=Eq.trans (b:=Arh (x19 kn15 b a) b a) (by kernel_rfl) (by simp only[e19]<;>rfl)
theorem i15(b:UInt64)(a:Int):∀(q:Nat) (m:UInt64) (h f:Int) (o:LB),z15 q (t15 b a m h f o)=Od b a q m h f o:=
 ind (fun _ _ _ _=>by kernel_rfl) fun q ih m h f o=>Eq.trans (b:=Ajh (x18 (z15 q) b a) x21 b a m h f o) (by kernel_rfl) (by simp only[e18,e21,ih]<;>rfl)
theorem e15:x15=Baa:=by funext b a m h f o;exact Eq.trans (by kernel_rfl) ((i15 b a Ct m h f o).trans (by rw[Aq];rfl))
theorem e28:x28=Bbq:=by kernel_rfl
theorem e26(kn22:K_)(b:UInt64)(a:Int):x26 kn22 b a=Az5 (fun n k g p=>kn22 (t22 b a n k g p)) b a:=by kernel_rfl
theorem e25(kn22:K_)(b:UInt64)(a:Int):x25 kn22 b a=Ban (fun n k g p=>kn22 (t22 b a n k g p)) b a:=Eq.trans (b:=Bax (x26 kn22 b a) b a) (by kernel_rfl) (by simp only[e26]<;>rfl)
theorem i22(b:UInt64)(a:Int):∀(q:Nat) (n:UInt64) (k g:Int) (p:LB),z22 q (t22 b a n k g p)=Asb b a q n k g p:=
 ind (fun _ _ _ _=>by kernel_rfl) fun q ih n k g p=>Eq.trans (b:=Ba9 (x25 (z22 q) b a) x28 b a n k g p) (by kernel_rfl) (by simp only[e25,e28,ih]<;>rfl)
theorem e22:x22=Ba8:=by funext b a n k g p;exact Eq.trans (by kernel_rfl) ((i22 b a Ct n k g p).trans (by rw[Aq];rfl))
noncomputable def F:=u4 Akg
theorem rn x:H.u P_ x=F x:=Eq.trans (b:=u4 (Av6 x15 x22) x) (by kernel_rfl) (by simp only[e15,e22]<;>rfl)
noncomputable def c:Con:=⟨H.p,H.r,F⟩
theorem ok:ConOk P_ gl 164 c:=cr H func164 (.cons F161.ok (.cons F190.ok .nil)) (AnsOk.cons ent191 AnsOk.nil) rn
end F164
namespace F192
noncomputable def H:Hd:=⟨[Su,Si],[Sz], .d,⟨[],gl,false⟩,[],f192⟩
noncomputable def F:=u2 We
theorem rn x:H.u P_ x=F x:=by kernel_rfl
noncomputable def c:Con:=⟨H.p,H.r,F⟩
theorem ok:ConOk P_ gl 192 c:=co H func192 .nil rn
end F192
namespace F208
noncomputable def H:Hd:=⟨[Si],[Si,Si], .d,⟨[],gl,false⟩,[],f208⟩
noncomputable def F:=Aq3
theorem rn x:H.u P_ x=F x:=by kernel_rfl
noncomputable def c:Con:=⟨H.p,H.r,F⟩
theorem ok:ConOk P_ gl 208 c:=co H func208 .nil rn
end F208
namespace F193
noncomputable def H:Hd:=⟨[.agg [Sb,Si],Si],[.agg [Ob 5,Si],Si], .d,⟨[(161,F161.c),(164,F164.c),(208,F208.c)],gl,false⟩,[],f193⟩
noncomputable def F:=u3 Ans
theorem rn x:H.u P_ x=F x:=by kernel_rfl
noncomputable def c:Con:=⟨H.p,H.r,F⟩
theorem ok:ConOk P_ gl 193 c:=co H func193 (.cons F161.ok (.cons F164.ok (.cons F208.ok .nil))) rn
end F193
namespace F165
abbrev R_:=(LB×Int×Int)
noncomputable def H:Hd:=⟨[.agg [Sb,Si],Su,Si],[.agg [Ob 5,Si],Si],(.seq .d (.seq .d (.seq .d (.seq .d (.cut [3,6,9,10,11] [] .d .d))))),⟨[(161,F161.c),(164,F164.c),(192,F192.c),(193,F193.c)],gl,false⟩,[],f165⟩
def x2(b:LB)(f h:Int)(k:UInt32)(m:Int):Option R_:=H.e P_ [r,r,r,r,r] ⟨[(3, .ptr 0 []),(6, .ptr 1 []),(9,vi h),(10,vu k),(11,vi m)],[.box 188 (.agg [vb b,vi f]), .box 188 (.agg [.nils,vi 0])],[]⟩
theorem e2:x2=Af3:=by kernel_rfl
noncomputable def F:=u4 Arv
theorem rn x:H.u P_ x=F x:=Eq.trans (b:=u4 (Aol x2) x) (by kernel_rfl) (by simp only[e2]<;>rfl)
noncomputable def c:Con:=⟨H.p,H.r,F⟩
theorem ok:ConOk P_ gl 165 c:=co H func165 (.cons F161.ok (.cons F164.ok (.cons F192.ok (.cons F193.ok .nil)))) rn
end F165
namespace F127
def Aih(k u n:Int)(a:UInt64)(b:UInt32)(o:UInt64)(m:LB):Option (LB×Int×Int×Int×UInt64×UInt64×Int):=
(fun af:Option (LB×Int×Int×Int×UInt64×UInt64×Int)=>
both (
bo (
af)) [
af]) (
some (m,k,u,n,(Ad a (Ah (Ae b:UInt64) (Bo a (GI.toZ (4:UInt64)).toNat))),o,0))
theorem Azw: @Aih= @Ac6:=by
  unfold Aih Ac6
  try simp only[Ane,Aca,Adr]
  all_goals
    repeat (refine funext fun _=>?_)
    repeat' first
      |with_reducible rfl
      |with_reducible refine Jw ?_ ?_
      |with_reducible refine Ke ?_ ?_ ?_
      |with_reducible refine Ju ?_ ?_ ?_ ?_
      |((with_reducible refine Ok ?_ ?_);focus (intro h;first|(subst h;rfl)|(simp only[h];rfl)|(simp[Cg,Ac,h];done)))
      |with_reducible refine Oa fun x=>?_
      |with_reducible refine Vp (fun _=>?_) (fun _=>?_)
      |(refine Fm (fun h=>by simp only[h,Oe,Dk,De,ite_self]) (fun x h=>?_);(try simp only[h,Dk]))
      |(refine Hj (fun h=>?_) (fun h=>?_)<;>simp only[h,if_true,if_false,Bool.false_eq_true])
abbrev R_:=(LB×Int×Int×Int×UInt64×UInt64×Int)
noncomputable def H:Hd:=⟨[.agg [Sb,Si], .agg [Si,Si,Sq,Sq],Su],[.agg [Ob 5,Si], .agg [Si,Si,Sq,Sq],Si],(.seq .d (.cut [2,3,4,6,7] [] .d (.seq .d (.seq .d (.cut [2,3,4,6,7,11] [] .d (.seq .d (.cut [3,4,6,7] [] (.keep [2,3,4,6,7,65] true) (.seq (.mode false) .d)))))))),⟨[(161,F161.c),(162,F162.c),(163,F163.c),(164,F164.c),(165,F165.c)],gl,false⟩,[(166,(.seq .d (.seq .d (.seq .d (.blk (.cut [0,1,4] [] (.blk (.seq .d (.keep [0,1,4,6,18,19,20,21,22,23,24,25] true))) (.cut [] [] (.keep [0,1,4,27,28,29,30,31,32,33,34] true) .d))))))),(194, .d)],f127⟩
def x10(k u n:Int)(a:UInt64)(b:UInt32)(o:UInt64)(m:LB):Option R_:=H.e P_ [r,r,r,r,r,r,r] ⟨[(3, .ptr 0 []),(4, .ptr 1 []),(6, .ptr 2 []),(7, .ptr 3 [])],[.box 188 (.agg [.own 4,vi k]), .box 184 (.agg [vi u,vi n,vq (Ad a (Ah (Ae b:UInt64) (Bo a (GI.toZ (4:UInt64)).toNat))),vq o]), .box 188 (.agg [.nils,vi 0]), .box 184 (.agg [vi 0,vi 0,vq 0,vq 0]),Ab 5 m],[]⟩
def x9(b:UInt32)(k n:Int)(a o:UInt64)(m:LB)(u:Int):Option R_:=H.e P_ [r,r,r,r,r,r,l,(call 1 166),r,r,r,d,r,r] ⟨[],[.box 188 (.agg [.own 4,vi k]), .box 184 (.agg [vi u,vi n,vq (Ad a (Ah (Ae b:UInt64) (Bo a (GI.toZ (4:UInt64)).toNat))),vq o]), .box 188 (.agg [.nils,vi 0]), .box 184 (.agg [vi 0,vi 0,vq 0,vq 0]),Ab 5 m],[[(2,vu b),(3, .ptr 0 []),(4, .ptr 1 []),(6, .ptr 2 []),(7, .ptr 3 []),(65,vu b)]]⟩
def x8(b:UInt32)(f:Int)(a:UInt64)(k:Int)(m:LB)(n:Int)(o:UInt64):Option R_:=H.e P_ [r,r,r,r,r,r,l,(call 1 166),r,r,r,d,r] ⟨[(0, .ptr 0 []),(1,vu b),(4, .fn 194 [])],[.box 184 (.agg [vi f,vi n,vq a,vq o]), .box 188 (.agg [.own 4,vi k]), .box 188 (.agg [.nils,vi 0]), .box 184 (.agg [vi 0,vi 0,vq 0,vq 0]),Ab 5 m],[[(2,vu b),(3, .ptr 1 []),(4, .ptr 0 []),(6, .ptr 2 []),(7, .ptr 3 []),(65,vu b)]]⟩
def x7(b:UInt32)(f h:Int)(a g:UInt64)(y k:Int)(m:LB):Option R_:=H.e P_ [r,r,r,r,r] ⟨[(2,vu b),(3, .ptr 0 []),(4, .ptr 1 []),(6, .ptr 2 []),(7, .ptr 3 []),(11,vi y)],[.box 188 (.agg [.own 4,vi k]), .box 184 (.agg [vi f,vi h,vq a,vq g]), .box 188 (.agg [.nils,vi 0]), .box 184 (.agg [vi 0,vi 0,vq 0,vq 0]),Ab 5 m],[]⟩
def x6(b:UInt32)(v:LB)(w f h:Int)(a g:UInt64):Option R_:=H.e P_ [r,r] ⟨[(2,vu b),(3, .ptr 0 []),(4, .ptr 1 []),(6, .ptr 2 []),(7, .ptr 3 [])],[.box 188 (.agg [vb v,vi w]), .box 184 (.agg [vi f,vi h,vq a,vq g]), .box 188 (.agg [.nils,vi 0]), .box 184 (.agg [vi 0,vi 0,vq 0,vq 0])],[]⟩
theorem e10:x10=Akj:=Eq.trans (b:=Aih) (by kernel_rfl) (by rw[Azw];rfl)
theorem e9:x9=Ao1:=Eq.trans (b:=Aor x10) (by kernel_rfl) (by simp only[e10]<;>rfl)
theorem e8:x8=Xz:=Eq.trans (b:=Aoc x9) (by kernel_rfl) (by simp only[e9]<;>rfl)
theorem e7:x7=Af8:=Eq.trans (b:=An7 x8) (by kernel_rfl) (by simp only[e8]<;>rfl)
theorem e6:x6=Aob:=Eq.trans (b:=Aoo x7) (by kernel_rfl) (by simp only[e7]<;>rfl)
noncomputable def F:=u7 Are
theorem rn x:H.u P_ x=F x:=Eq.trans (b:=u7 (An6 x6) x) (by kernel_rfl) (by simp only[e6]<;>rfl)
noncomputable def c:Con:=⟨H.p,H.r,F⟩
theorem ok:ConOk P_ gl 127 c:=cr H func127 (.cons F161.ok (.cons F162.ok (.cons F163.ok (.cons F164.ok (.cons F165.ok .nil))))) (AnsOk.cons ent166 (AnsOk.cons ent194 AnsOk.nil)) rn
end F127
namespace F131
abbrev R_:=(UInt32×Int)
abbrev K_:=S→Option R_
noncomputable def H:Hd:=⟨[Su,Sb],[Su,Si],(.seq .d (.seq .d (.cut [0,1,6] [] (.keep [0,1,6,12] true) (.cut [0] [] (.seq .d (.blk (.loop [0,6,13,14,15] [] .d))) .d)))),⟨[],gl,false⟩,[(168,(.seq .d (.seq .d (.cut [1] [] (.seq .d (.blk (.loop [1,5] [] (.seq .d (.seq .d (.cut [1,5] [] (.blk (.seq .d (.seq .d (.cut [1,2,3,5] [] (.seq .d (.blk (.loop [1,2,3,5,10] [] .d))) .d)))) .d)))))) .d))))],f131⟩
def t28(a:LB)(b:LU)(h:UInt32)(m:Int):S:=⟨[(0,vu h),(6, .ptr 0 []),(13,vb a),(14,vi (Ac a)),(15,vi m)],[.box 276 (.val (.vec 256 (.int .u32)) b)],[]⟩
def z28:Nat→S→Option R_:=H.i P_ [r,r,r,l,r,d]
def t21(f:UInt32)(a:LB)(g:Int)(b:LU)(k:UInt32)(n:Int):S:=⟨[(1, .ptr 0 []),(2,vi g),(3,vu k),(5,vi g),(10,vi n)],[.box 276 (.val (.vec 256 (.int .u32)) b)],[[(0,vu f),(1,vb a)]]⟩
def z21(kn16:K_):Nat→S→Option R_:=H.i P_ [r,r,l,(call 0 168),r,r,l,r,d,(lp kn16),r,r,l,d,r,r,l,r,d]
def t16(f:UInt32)(a:LB)(g:Int)(b:LU):S:=⟨[(1, .ptr 0 []),(5,vi g)],[.box 276 (.val (.vec 256 (.int .u32)) b)],[[(0,vu f),(1,vb a)]]⟩
def z16:Nat→S→Option R_:=H.i P_ [r,r,l,(call 0 168),r,r,l,r,d]
def x30(h:UInt32):Option R_:=H.e P_ [r,r,r,r] ⟨[(0,vu h)],[],[]⟩
def x28(a:LB)(b:LU)(h:UInt32)(m:Int):Option R_:=H.e P_ [r,r,r,l,r,d] (t28 a b h m)
def x27(f:UInt32)(a:LB)(b:LU):Option R_:=H.e P_ [r,r,r] ⟨[(0,vu f),(1,vb a),(6, .ptr 0 [])],[.box 276 (.val (.vec 256 (.int .u32)) b)],[]⟩
def x26(f:UInt32)(a:LB)(b:LU):Option R_:=H.e P_ [r,r,l,(call 0 168),r,r,r] ⟨[(1, .ptr 0 [])],[.box 276 (.val (.vec 256 (.int .u32)) b)],[[(0,vu f),(1,vb a)]]⟩
def x24(kn16:K_)(f:UInt32)(a:LB)(g:Int)(o:LU):Option R_:=H.e P_ [r,r,l,(call 0 168),r,r,l,r,d,(lp kn16),r,r,r] ⟨[(1, .ptr 0 []),(5,vi g)],[.box 276 (.val (.vec 256 (.int .u32)) o)],[[(0,vu f),(1,vb a)]]⟩
def x23(kn16:K_)(f:UInt32)(a:LB)(g:Int)(k:UInt32)(b:LU):Option R_:=H.e P_ [r,r,l,(call 0 168),r,r,l,r,d,(lp kn16),r,r,l,d,r,r,r] ⟨[(1, .ptr 0 []),(2,vi g),(3,vu k),(5,vi g)],[.box 276 (.val (.vec 256 (.int .u32)) b)],[[(0,vu f),(1,vb a)]]⟩
def x21(kn16:K_)(f:UInt32)(a:LB)(g:Int)(b:LU)(k:UInt32)(n:Int):Option R_:=H.e P_ [r,r,l,(call 0 168),r,r,l,r,d,(lp kn16),r,r,l,d,r,r,l,r,d] (t21 f a g b k n)
def x16(f:UInt32)(a:LB)(g:Int)(b:LU):Option R_:=H.e P_ [r,r,l,(call 0 168),r,r,l,r,d] (t16 f a g b)
theorem e30:x30=Aj5:=by kernel_rfl
theorem i28(a:LB)(b:LU):∀(q:Nat) (h:UInt32) (m:Int),z28 q (t28 a b h m)=Qg a b q h m:=
 ind (fun _ _=>by kernel_rfl) fun q ih h m=>Eq.trans (b:=Ada x30 (fun h m=>(z28 q) (t28 a b h m)) a b h m) (by kernel_rfl) (by simp only[e30,ih]<;>rfl)
theorem e28:x28=Aki:=by funext a b h m;exact Eq.trans (by kernel_rfl) ((i28 a b Ct h m).trans (by rw[Aq];rfl))
theorem e27:x27=Akw:=Eq.trans (b:=Ale x28) (by kernel_rfl) (by simp only[e28]<;>rfl)
theorem e26:x26=Acn:=Eq.trans (b:=Aj6 x27) (by kernel_rfl) (by simp only[e27]<;>rfl)
theorem e24(kn16:K_)(f:UInt32)(a:LB):x24 kn16 f a=Akf (fun g b=>kn16 (t16 f a g b)) f a:=by kernel_rfl
theorem e23(kn16:K_)(f:UInt32)(a:LB):x23 kn16 f a=Adb (fun g b=>kn16 (t16 f a g b)) f a:=Eq.trans (b:=Alu (x24 kn16 f a) f a) (by kernel_rfl) (by simp only[e24]<;>rfl)
theorem i21(kn16:K_)(f:UInt32)(a:LB)(g:Int)(b:LU):∀(q:Nat) (k:UInt32) (n:Int),z21 kn16 q (t21 f a g b k n)=Qt (fun g b=>kn16 (t16 f a g b)) f a g b q k n:=
 ind (fun _ _=>by kernel_rfl) fun q ih k n=>Eq.trans (b:=Ace (x23 kn16 f a) (fun k n=>(z21 kn16 q) (t21 f a g b k n)) f a g b k n) (by kernel_rfl) (by simp only[e23,ih]<;>rfl)
theorem e21(kn16:K_)(f:UInt32)(a:LB):x21 kn16 f a=Ala (fun g b=>kn16 (t16 f a g b)) f a:=by funext g b k n;exact Eq.trans (by kernel_rfl) ((i21 kn16 f a g b Ct k n).trans (by rw[Aq];rfl))
theorem i16(f:UInt32)(a:LB):∀(q:Nat) (g:Int) (b:LU),z16 q (t16 f a g b)=Mq f a q g b:=
 ind (fun _ _=>by kernel_rfl) fun q ih g b=>Eq.trans (b:=Ac2 (x21 (z16 q) f a) x26 f a g b) (by kernel_rfl) (by simp only[e21,e26,ih]<;>rfl)
theorem e16:x16=Ak1:=by funext f a g b;exact Eq.trans (by kernel_rfl) ((i16 f a Ct g b).trans (by rw[Aq];rfl))
noncomputable def F:=u2 Arb
theorem rn x:H.u P_ x=F x:=Eq.trans (b:=u2 (Apd x16) x) (by kernel_rfl) (by simp only[e16]<;>rfl)
noncomputable def c:Con:=⟨H.p,H.r,F⟩
theorem ok:ConOk P_ gl 131 c:=cr H func131 .nil (AnsOk.cons ent168 AnsOk.nil) rn
end F131
namespace F91
noncomputable def H:Hd:=⟨[Sb],[Su,Si], .d,⟨[(131,F131.c)],gl,false⟩,[],f91⟩
noncomputable def F:=Wh
theorem rn x:H.u P_ x=F x:=by kernel_rfl
noncomputable def c:Con:=⟨H.p,H.r,F⟩
theorem ok:ConOk P_ gl 91 c:=co H func91 (.cons F131.ok .nil) rn
end F91
namespace F130
noncomputable def H:Hd:=⟨[Sq,Si],[Sz], .d,⟨[],gl,false⟩,[],f130⟩
noncomputable def F:=u2 Bez
theorem rn x:H.u P_ x=F x:=by kernel_rfl
noncomputable def c:Con:=⟨H.p,H.r,F⟩
theorem ok:ConOk P_ gl 130 c:=co H func130 .nil rn
end F130
namespace F90
abbrev R_:=(LB×Int)
noncomputable def H:Hd:=⟨[Sq,Si],[Ob 5,Si],(.seq .d (.seq .d (.seq .d (.seq .d (.cut [6] [] (.seq .d (.blk (.loop [0,6,21,22] [] .d))) .d))))),⟨[(130,F130.c)],gl,false⟩,[],f90⟩
def t4(f:UInt64)(g:LB)(b:Int)(a:LB):S:=⟨[(0,vq f),(6, .own 0),(21,vi (Ac g)),(22,vi b)],[Ab 5 a],[]⟩
def z4:Nat→S→Option R_:=H.i P_ [r,r,r,r,l,r,d]
def x6(a:LB):Option R_:=H.e P_ [r,r,r,r,r] ⟨[(6, .own 0)],[Ab 5 a],[]⟩
def x4(f:UInt64)(g:LB)(b:Int)(a:LB):Option R_:=H.e P_ [r,r,r,r,l,r,d] (t4 f g b a)
theorem e6:x6=Av1:=by kernel_rfl
theorem i4(f:UInt64)(g:LB):∀(q:Nat) (b:Int) (a:LB),z4 q (t4 f g b a)=Zy f g q b a:=
 ind (fun _ _=>by kernel_rfl) fun q ih b a=>Eq.trans (b:=An5 x6 (fun b a=>(z4 q) (t4 f g b a)) f g b a) (by kernel_rfl) (by simp only[e6,ih]<;>rfl)
theorem e4:x4=Auq:=by funext f g b a;exact Eq.trans (by kernel_rfl) ((i4 f g Ct b a).trans (by rw[Aq];rfl))
noncomputable def F:=u2 Yh
theorem rn x:H.u P_ x=F x:=Eq.trans (b:=u2 (Avh x4) x) (by kernel_rfl) (by simp only[e4]<;>rfl)
noncomputable def c:Con:=⟨H.p,H.r,F⟩
theorem ok:ConOk P_ gl 90 c:=co H func90 (.cons F130.ok .nil) rn
end F90
namespace F129
abbrev R_:=LB
noncomputable def H:Hd:=⟨[.lf (.list (.list (.int .u8))) none],[Ob 5],(.seq .d (.seq .d (.cut [0,3] [] (.seq .d (.blk (.loop [0,3,9,10,11] [] .d))) (.cut [0,6] [⟨6,[], .own 5 (.int .u8)⟩] (.keep [0,3,6,23,24] true) (.cut [6] [] (.seq .d (.blk (.loop [6,25,26,27] [] .d))) .d))))),⟨[],gl,true⟩,[(167,(.seq .d (.cut [0,1] [] .d .d)))],f129⟩
def t14(a:List LB)(g:Int)(f:LB):S:=⟨[(6, .own 0),(25, .val (.list (.list (.int .u8))) a),(26,vi (Ac a)),(27,vi g)],[Ab 5 f],[]⟩
def z14:Nat→S→Option R_:=H.i P_ [r,r,r,r,l,r,d]
def t9(a:List LB)(b h:Int):S:=⟨[(0, .val (.list (.list (.int .u8))) a),(3,vi b),(9, .val (.list (.list (.int .u8))) a),(10,vi (Ac a)),(11,vi h)],[],[]⟩
def z9:Nat→S→Option R_:=H.i P_ [r,r,l,r,d]
def x16(f:LB):Option R_:=H.e P_ [r,r,r,r,r] ⟨[(6, .own 0)],[Ab 5 f],[]⟩
def x14(a:List LB)(g:Int)(f:LB):Option R_:=H.e P_ [r,r,r,r,l,r,d] (t14 a g f)
def x13(a:List LB)(k:LB):Option R_:=H.e P_ [r,r,r,r] ⟨[(0, .val (.list (.list (.int .u8))) a),(6, .own 0)],[Ab 5 k],[]⟩
def x12(b:Int)(a:List LB):Option R_:=H.e P_ [r,r,r,l,(call 1 167),r,r] ⟨[(0, .nils),(1,vi b)],[],[[(0, .val (.list (.list (.int .u8))) a),(3,vi b),(23,vi b)]]⟩
def x11(a:List LB)(b:Int):Option R_:=H.e P_ [r,r,r] ⟨[(0, .val (.list (.list (.int .u8))) a),(3,vi b)],[],[]⟩
def x9(a:List LB)(b h:Int):Option R_:=H.e P_ [r,r,l,r,d] (t9 a b h)
theorem e16:x16=Ug:=by kernel_rfl
theorem i14(a:List LB):∀(q:Nat) (g:Int) (f:LB),z14 q (t14 a g f)=Dl a q g f:=
 ind (fun _ _=>by kernel_rfl) fun q ih g f=>Eq.trans (b:=Ez x16 (fun g f=>(z14 q) (t14 a g f)) a g f) (by kernel_rfl) (by simp only[e16,ih]<;>rfl)
theorem e14:x14=Mc:=by funext a g f;exact Eq.trans (by kernel_rfl) ((i14 a Ct g f).trans (by rw[Aq];rfl))
theorem e13:x13=Hk:=Eq.trans (b:=Lu x14) (by kernel_rfl) (by simp only[e14]<;>rfl)
theorem e12:x12=Mb:=Eq.trans (b:=Ma x13) (by kernel_rfl) (by simp only[e13]<;>rfl)
theorem e11:x11=Lp:=Eq.trans (b:=Lq x12) (by kernel_rfl) (by simp only[e12]<;>rfl)
theorem i9(a:List LB):∀(q:Nat) (b h:Int),z9 q (t9 a b h)=Dr a q b h:=
 ind (fun _ _=>by kernel_rfl) fun q ih b h=>Eq.trans (b:=Fo x11 (fun b h=>(z9 q) (t9 a b h)) a b h) (by kernel_rfl) (by simp only[e11,ih]<;>rfl)
theorem e9:x9=Mv:=by funext a b h;exact Eq.trans (by kernel_rfl) ((i9 a Ct b h).trans (by rw[Aq];rfl))
noncomputable def F:=Ks
theorem rn x:H.u P_ x=F x:=Eq.trans (b:=Mz x9 x) (by kernel_rfl) (by simp only[e9]<;>rfl)
noncomputable def c:Con:=⟨H.p,H.r,F⟩
theorem ok:ConOk P_ gl 129 c:=cr H func129 .nil (AnsOk.cons ent167 AnsOk.nil) rn
end F129
namespace F87
abbrev R_:=(LB×Int)
abbrev K_:=S→Option R_
noncomputable def H:Hd:=⟨[.agg [Si,Si], .lf (.vec 16 (.int .i32)) none,Sw],[Ob 5,Si],(.seq .d (.seq .d (.seq .d (.seq .d (.seq .d (.cut [11] [] (.seq .d (.blk (.loop [3,10,11,30,31,32] [⟨11,[0], .own 5 (.int .u8)⟩] (.seq .d (.seq .d (.cut [3,10,11,30,31,32] [] (.blk (.seq .d (.seq .d (.seq .d (.seq .d (.keep [3,10,11,14,30,31,32,59] true)))))) .d)))))) .d)))))),⟨[(90,F90.c),(91,F91.c),(125,F125.c),(126,F126.c),(127,F127.c),(129,F129.c)],gl,false⟩,[(128,(.seq .d (.seq .d (.blk (.loop [0,3,7,8] [] (.seq .d (.seq .d (.seq (.blk (.seq .d (.cut [0,3,4,7,8] [] .d (.seq .d (.cut [0,3,7,8] [] .d .d))))) .d))))))))],f87⟩
def t44(a:LU)(b f h g:Int)(k:List (Int×Int×UInt64×UInt64×Unit))(m:LB)(o n:Int)(v:LB):S:=⟨[(0, .ptr 0 []),(3, .ptr 1 []),(7,vi h),(8,vi o)],[.box 188 (.agg [.own 7,vi n]), .box 188 (.agg [.own 6,vi h]), .box 74 (.agg [vi b,vi f]), .box 185 (.val (.vec 6 (.cons (.int .i64) (.cons (.int .i64) (.cons (.int .u64) (.cons (.int .u64) .nil))))) k), .box 188 (.agg [.own 6,vi h]),Av 60 a,Ab 5 m,Ab 5 v],[[(3, .ptr 2 []),(10, .ptr 3 []),(11, .ptr 0 []),(14, .ptr 4 []),(30, .own 5),(31,vi (Ac a)),(32,vi g),(59, .agg [.own 6,vi h])]]⟩
def z44(kn27:K_):Nat→S→Option R_:=H.i P_ [r,r,r,r,r,l,r,d,(lp kn27),r,r,l,d,r,r,r,r,(call 1 128),r,r,d]
def t27(a:LU)(b f g:Int)(w:List (Int×Int×UInt64×UInt64×Unit))(u:Int)(p:LB):S:=⟨[(3, .ptr 0 []),(10, .ptr 1 []),(11, .ptr 2 []),(30, .own 3),(31,vi (Ac a)),(32,vi g)],[.box 74 (.agg [vi b,vi f]), .box 185 (.val (.vec 6 (.cons (.int .i64) (.cons (.int .i64) (.cons (.int .u64) (.cons (.int .u64) .nil))))) w), .box 188 (.agg [.own 4,vi u]),Av 60 a,Ab 5 p],[]⟩
def z27:Nat→S→Option R_:=H.i P_ [r,r,r,r,r,l,r,d]
def x52(u:Int)(p:LB):Option R_:=H.e P_ [r,r,r,r,r,r] ⟨[(11, .ptr 0 [])],[.box 188 (.agg [.own 1,vi u]),Ab 5 p],[]⟩
def x50(kn27:K_)(a:LU)(b f g:Int)(k:List (Int×Int×UInt64×UInt64×Unit))(n:Int)(v:LB):Option R_:=H.e P_ [r,r,r,r,r,l,r,d,(lp kn27),r,r,r] ⟨[(3, .ptr 0 []),(10, .ptr 1 []),(11, .ptr 2 []),(30, .own 3),(31,vi (Ac a)),(32,vi g)],[.box 74 (.agg [vi b,vi f]), .box 185 (.val (.vec 6 (.cons (.int .i64) (.cons (.int .i64) (.cons (.int .u64) (.cons (.int .u64) .nil))))) k), .box 188 (.agg [.own 4,vi n]),Av 60 a,Ab 5 v],[]⟩
def x48(kn27 kn44:K_)(h:Int)(a:LU)(g b f:Int)(k:List (Int×Int×UInt64×UInt64×Unit))(m:LB)(o n:Int)(aa:LB):Option R_:=H.e P_ [r,r,r,r,r,l,r,d,(lp kn27),r,r,l,d,r,r,r,r,(call 1 128),r,r,d,(lp kn44),r,r,l,d,r,r,r,r] ⟨[(0, .ptr 0 []),(3, .ptr 1 []),(7,vi h),(8,vi o)],[.box 188 (.agg [.own 7,vi n]), .box 188 (.agg [.own 6,vi h]), .box 74 (.agg [vi b,vi f]), .box 185 (.val (.vec 6 (.cons (.int .i64) (.cons (.int .i64) (.cons (.int .u64) (.cons (.int .u64) .nil))))) k), .box 188 (.agg [.own 6,vi h]),Av 60 a,Ab 5 m,Ab 5 aa],[[(3, .ptr 2 []),(10, .ptr 3 []),(11, .ptr 0 []),(14, .ptr 4 []),(30, .own 5),(31,vi (Ac a)),(32,vi g),(59, .agg [.own 6,vi h])]]⟩
def x47(kn27 kn44:K_)(h:Int)(a:LU)(g b f:Int)(k:List (Int×Int×UInt64×UInt64×Unit))(m:LB)(o n:Int)(y:LB):Option R_:=H.e P_ [r,r,r,r,r,l,r,d,(lp kn27),r,r,l,d,r,r,r,r,(call 1 128),r,r,d,(lp kn44),r,r,l,d,r,r] ⟨[(0, .ptr 0 []),(3, .ptr 1 []),(4,vi o),(7,vi h),(8,vi o)],[.box 188 (.agg [.own 7,vi n]), .box 188 (.agg [.own 6,vi h]), .box 74 (.agg [vi b,vi f]), .box 185 (.val (.vec 6 (.cons (.int .i64) (.cons (.int .i64) (.cons (.int .u64) (.cons (.int .u64) .nil))))) k), .box 188 (.agg [.own 6,vi h]),Av 60 a,Ab 5 m,Ab 5 y],[[(3, .ptr 2 []),(10, .ptr 3 []),(11, .ptr 0 []),(14, .ptr 4 []),(30, .own 5),(31,vi (Ac a)),(32,vi g),(59, .agg [.own 6,vi h])]]⟩
def x44(kn27:K_)(a:LU)(b f h g:Int)(k:List (Int×Int×UInt64×UInt64×Unit))(m:LB)(o n:Int)(v:LB):Option R_:=H.e P_ [r,r,r,r,r,l,r,d,(lp kn27),r,r,l,d,r,r,r,r,(call 1 128),r,r,d] (t44 a b f h g k m o n v)
def x27(a:LU)(b f g:Int)(w:List (Int×Int×UInt64×UInt64×Unit))(u:Int)(p:LB):Option R_:=H.e P_ [r,r,r,r,r,l,r,d] (t27 a b f g w u p)
theorem e52:x52=Zi:=by kernel_rfl
theorem e50(kn27:K_)(a:LU)(b f:Int):x50 kn27 a b f=Zn (fun g w u p=>kn27 (t27 a b f g w u p)) a b f:=by kernel_rfl
theorem e48(kn27 kn44:K_)(a:LU)(b f h g:Int)(k:List (Int×Int×UInt64×UInt64×Unit))(m:LB):x48 kn27 kn44 h a g b f k m=Zq (fun o n v=>kn44 (t44 a b f h g k m o n v)) h a g b f k m:=by kernel_rfl
theorem e47(kn27 kn44:K_)(a:LU)(b f h g:Int)(k:List (Int×Int×UInt64×UInt64×Unit))(m:LB):x47 kn27 kn44 h a g b f k m=Ry (fun o n v=>kn44 (t44 a b f h g k m o n v)) h a g b f k m:=Eq.trans (b:=Zc (x48 kn27 kn44 h a g b f k m) h a g b f k m) (by kernel_rfl) (by simp only[e48]<;>rfl)
theorem i44(kn27:K_)(a:LU)(b f h g:Int)(k:List (Int×Int×UInt64×UInt64×Unit))(m:LB):∀(q:Nat) (o n:Int) (v:LB),z44 kn27 q (t44 a b f h g k m o n v)=Fj (fun g w u p=>kn27 (t27 a b f g w u p)) a b f h g k m q o n v:=
 ind (fun _ _ _=>by kernel_rfl) fun q ih o n v=>Eq.trans (b:=Rt (x47 kn27 (z44 kn27 q) h a g b f k m) (x50 kn27 a b f) a b f h g k m o n v) (by kernel_rfl) (by simp only[e47,e50,ih]<;>rfl)
theorem e44(kn27:K_)(a:LU)(b f:Int):x44 kn27 a b f=Ami (fun g w u p=>kn27 (t27 a b f g w u p)) a b f:=by funext h g k m o n v;exact Eq.trans (by kernel_rfl) ((i44 kn27 a b f h g k m Ct o n v).trans (by rw[Aq];rfl))
theorem i27(a:LU)(b f:Int):∀(q:Nat) (g:Int) (w:List (Int×Int×UInt64×UInt64×Unit)) (u:Int) (p:LB),z27 q (t27 a b f g w u p)=Gx a b f q g w u p:=
 ind (fun _ _ _ _=>by kernel_rfl) fun q ih g w u p=>Eq.trans (b:=Sf (x44 (z27 q) a b f) x52 a b f g w u p) (by kernel_rfl) (by simp only[e44,e52,ih]<;>rfl)
theorem e27:x27=Zw:=by funext a b f g w u p;exact Eq.trans (by kernel_rfl) ((i27 a b f Ct g w u p).trans (by rw[Aq];rfl))
noncomputable def F:=u4 Qa
theorem rn x:H.u P_ x=F x:=Eq.trans (b:=u4 (Adm x27) x) (by kernel_rfl) (by simp only[e27]<;>rfl)
noncomputable def c:Con:=⟨H.p,H.r,F⟩
theorem ok:ConOk P_ gl 87 c:=cr H func87 (.cons F90.ok (.cons F91.ok (.cons F125.ok (.cons F126.ok (.cons F127.ok (.cons F129.ok .nil)))))) (AnsOk.cons ent128 AnsOk.nil) rn
end F87
theorem Bgk:ConOk Tryz.prog gl 39 Ao6:=Biw F84.ok F85.ok F101.ok F87.ok F88.ok
namespace F98
abbrev R_:=Bool
noncomputable def H:Hd:=⟨[.agg [Si,Si,Si,Si,Si]],[Sz],(.seq .d (.cut [1] [] .d .d)),⟨[],gl,false⟩,[],f98⟩
def x2(b f a g h:Int):Option R_:=H.e P_ [r,r] ⟨[(1, .ptr 0 [])],[.box 32 (.agg [vi b,vi f,vi a,vi g,vi h])],[]⟩
theorem e2:x2=Wf:=by kernel_rfl
noncomputable def F:=u5 Yl
theorem rn x:H.u P_ x=F x:=Eq.trans (b:=u5 (Ae9 x2) x) (by kernel_rfl) (by simp only[e2]<;>rfl)
noncomputable def c:Con:=⟨H.p,H.r,F⟩
theorem ok:ConOk P_ gl 98 c:=co H func98 .nil rn
end F98
namespace F99
noncomputable def H:Hd:=⟨[.agg [Si,Si,Si,Si,Si]],[Sz], .d,⟨[(117,F117.c)],gl,false⟩,[],f99⟩
noncomputable def F:=u5 Ag1
theorem rn x:H.u P_ x=F x:=by kernel_rfl
noncomputable def c:Con:=⟨H.p,H.r,F⟩
theorem ok:ConOk P_ gl 99 c:=co H func99 (.cons F117.ok .nil) rn
end F99
namespace F89
noncomputable def H:Hd:=⟨[.agg [Si,Si,Si,Si,Si]],[Si], .d,⟨[(98,F98.c),(99,F99.c)],gl,false⟩,[],f89⟩
noncomputable def F:=u5 Sa
theorem rn x:H.u P_ x=F x:=by kernel_rfl
noncomputable def c:Con:=⟨H.p,H.r,F⟩
theorem ok:ConOk P_ gl 89 c:=co H func89 (.cons F98.ok (.cons F99.ok .nil)) rn
end F89
namespace F40
abbrev R_:=(LB×Int)
noncomputable def H:Hd:=⟨[.agg [Si,Si,Si,Si,Si]],[Ob 5,Si],(.seq .d (.seq .d (.seq .d (.cut [5] [] (.seq .d (.blk (.loop [5,31,32] [] .d))) .d)))),⟨[(89,F89.c),(90,F90.c),(91,F91.c)],gl,false⟩,[],f40⟩
def t4(b f g h k m:Int)(a:LB):S:=⟨[(5, .own 0),(31, .val (.vec 5 (.int .i64)) ([b,f,g,h,k]:LI)),(32,vi m)],[Ab 5 a],[]⟩
def z4:Nat→S→Option R_:=H.i P_ [r,r,r,l,r,d]
def x6(a:LB):Option R_:=H.e P_ [r,r,r,r] ⟨[(5, .own 0)],[Ab 5 a],[]⟩
def x4(b f g h k m:Int)(a:LB):Option R_:=H.e P_ [r,r,r,l,r,d] (t4 b f g h k m a)
theorem e6:x6=Yt:=by kernel_rfl
theorem i4(b f g h k:Int):∀(q:Nat) (m:Int) (a:LB),z4 q (t4 b f g h k m a)=Ky b f g h k q m a:=
 ind (fun _ _=>by kernel_rfl) fun q ih m a=>Eq.trans (b:=Ym x6 (fun m a=>(z4 q) (t4 b f g h k m a)) b f g h k m a) (by kernel_rfl) (by simp only[e6,ih]<;>rfl)
theorem e4:x4=Ah5:=by funext b f g h k m a;exact Eq.trans (by kernel_rfl) ((i4 b f g h k Ct m a).trans (by rw[Aq];rfl))
noncomputable def F:=u5 Ajf
theorem rn x:H.u P_ x=F x:=Eq.trans (b:=u5 (Aio x4) x) (by kernel_rfl) (by simp only[e4]<;>rfl)
noncomputable def c:Con:=⟨H.p,H.r,F⟩
theorem ok:ConOk P_ gl 40 c:=co H func40 (.cons F89.ok (.cons F90.ok (.cons F91.ok .nil))) rn
end F40
namespace F92
noncomputable def H:Hd:=⟨[Ss],[Sq,Si], .d,⟨[(122,F122.c)],gl,false⟩,[],f92⟩
noncomputable def F:=Bde
theorem rn x:H.u P_ x=F x:=by kernel_rfl
noncomputable def c:Con:=⟨H.p,H.r,F⟩
theorem ok:ConOk P_ gl 92 c:=co H func92 (.cons F122.ok .nil) rn
end F92
namespace F41
noncomputable def H:Hd:=⟨[Ss],[Ob 5,Si], .d,⟨[(90,F90.c),(92,F92.c)],gl,false⟩,[],f41⟩
noncomputable def F:=Adu
theorem rn x:H.u P_ x=F x:=by kernel_rfl
noncomputable def c:Con:=⟨H.p,H.r,F⟩
theorem ok:ConOk P_ gl 41 c:=co H func41 (.cons F90.ok (.cons F92.ok .nil)) rn
end F41
namespace F93
abbrev R_:=Int
noncomputable def H:Hd:=⟨[Sl],[Si],(.seq .d (.seq .d (.seq .d (.cut [] [] (.seq .d (.blk (.loop [3,14,15,16] [] .d))) .d)))),⟨[],gl,false⟩,[],f93⟩
def t4(a:LI)(f b:Int):S:=⟨[(3,vi f),(14,vl a),(15,vi (Ac a)),(16,vi b)],[],[]⟩
def z4:Nat→S→Option R_:=H.i P_ [r,r,r,l,r,d]
def x6:Option R_:=H.e P_ [r,r,r,r] ⟨[],[],[]⟩
def x4(a:LI)(f b:Int):Option R_:=H.e P_ [r,r,r,l,r,d] (t4 a f b)
theorem e6:x6=Auw:=by kernel_rfl
theorem i4(a:LI):∀(q:Nat) (f b:Int),z4 q (t4 a f b)=Px a q f b:=
 ind (fun _ _=>by kernel_rfl) fun q ih f b=>Eq.trans (b:=Acq x6 (fun f b=>(z4 q) (t4 a f b)) a f b) (by kernel_rfl) (by simp only[e6,ih]<;>rfl)
theorem e4:x4=Ak4:=by funext a f b;exact Eq.trans (by kernel_rfl) ((i4 a Ct f b).trans (by rw[Aq];rfl))
noncomputable def F:=Og
theorem rn x:H.u P_ x=F x:=Eq.trans (b:=Acv x4 x) (by kernel_rfl) (by simp only[e4]<;>rfl)
noncomputable def c:Con:=⟨H.p,H.r,F⟩
theorem ok:ConOk P_ gl 93 c:=co H func93 .nil rn
end F93
namespace F42
abbrev R_:=(LB×Int)
abbrev K_:=S→Option R_
noncomputable def H:Hd:=⟨[Sl],[Ob 5,Si],(.seq .d (.seq .d (.seq .d (.seq .d (.cut [5,6] [] (.seq .d (.blk (.loop [5,6,17,18,19] [⟨5,[], .own 5 (.int .u8)⟩,⟨6,[0], .own 5 (.int .u8)⟩] (.seq .d (.seq .d (.cut [5,6,17,18,19] [] (.blk (.seq .d (.keep [5,6,8,17,18,19,23,24,25] true))) .d)))))) (.seq .d (.cut [5] [] (.keep [5,6,9,33,34,35] true) .d))))))),⟨[(90,F90.c),(91,F91.c),(93,F93.c)],gl,false⟩,[(94, .d)],f42⟩
def t8(a:LI)(f:Int)(b:LB):S:=⟨[(5, .ptr 0 []),(6, .fn 94 [.ptr 0 []]),(17,vl a),(18,vi (Ac a)),(19,vi f)],[.box 27 (.own 1),Ab 5 b],[]⟩
def z8:Nat→S→Option R_:=H.i P_ [r,r,r,r,l,r,d]
def x14(g:LB):Option R_:=H.e P_ [r,r,r,r,r,r,r] ⟨[(5, .ptr 0 [])],[.box 27 (.own 1),Ab 5 g],[]⟩
def x13(b:LB):Option R_:=H.e P_ [r,r,r,r,r] ⟨[(5, .ptr 0 []),(6, .fn 94 [.ptr 0 []])],[.box 27 (.own 1),Ab 5 b],[]⟩
def x11(kn8:K_)(a:LI)(f:Int)(h:LB):Option R_:=H.e P_ [r,r,r,r,l,r,d,(lp kn8),r,r,r] ⟨[(5, .ptr 0 []),(6, .fn 94 [.ptr 0 []]),(17,vl a),(18,vi (Ac a)),(19,vi f)],[.box 27 (.own 1),Ab 5 h],[]⟩
def x8(a:LI)(f:Int)(b:LB):Option R_:=H.e P_ [r,r,r,r,l,r,d] (t8 a f b)
theorem e14:x14=Atb:=by kernel_rfl
theorem e13:x13=Aim:=Eq.trans (b:=Aiq x14) (by kernel_rfl) (by simp only[e14]<;>rfl)
theorem e11(kn8:K_)(a:LI):x11 kn8 a=Air (fun f b=>kn8 (t8 a f b)) a:=by kernel_rfl
theorem i8(a:LI):∀(q:Nat) (f:Int) (b:LB),z8 q (t8 a f b)=Qj a q f b:=
 ind (fun _ _=>by kernel_rfl) fun q ih f b=>Eq.trans (b:=Ab5 (x11 (z8 q) a) x13 a f b) (by kernel_rfl) (by simp only[e11,e13,ih]<;>rfl)
theorem e8:x8=Auj:=by funext a f b;exact Eq.trans (by kernel_rfl) ((i8 a Ct f b).trans (by rw[Aq];rfl))
noncomputable def F:=Am0
theorem rn x:H.u P_ x=F x:=Eq.trans (b:=Akl x8 x) (by kernel_rfl) (by simp only[e8]<;>rfl)
noncomputable def c:Con:=⟨H.p,H.r,F⟩
theorem ok:ConOk P_ gl 42 c:=cr H func42 (.cons F90.ok (.cons F91.ok (.cons F93.ok .nil))) (AnsOk.cons ent94 AnsOk.nil) rn
end F42
namespace F44
noncomputable def H:Hd:=⟨[Sb],[Si], .d,⟨[],gl,false⟩,[],f44⟩
noncomputable def F:=Aoi
theorem rn x:H.u P_ x=F x:=by kernel_rfl
noncomputable def c:Con:=⟨H.p,H.r,F⟩
theorem ok:ConOk P_ gl 44 c:=co H func44 .nil rn
end F44
namespace F45
abbrev R_:=LB
noncomputable def H:Hd:=⟨[.lf (.list (.list (.int .u8))) none],[Ob 5],(.seq .d (.seq .d (.cut [3] [] (.seq .d (.blk (.loop [3,6,7,8] [⟨3,[], .own 5 (.int .u8)⟩] .d))) .d))),⟨[],gl,false⟩,[],f45⟩
def t4(b:List LB)(f:Int)(a:LB):S:=⟨[(3, .own 0),(6, .val (.list (.list (.int .u8))) b),(7,vi (Ac b)),(8,vi f)],[Ab 5 a],[]⟩
def z4:Nat→S→Option R_:=H.i P_ [r,r,l,r,d]
def x6(a:LB):Option R_:=H.e P_ [r,r,r] ⟨[(3, .own 0)],[Ab 5 a],[]⟩
def x4(b:List LB)(f:Int)(a:LB):Option R_:=H.e P_ [r,r,l,r,d] (t4 b f a)
theorem e6:x6=Avu:=by kernel_rfl
theorem i4(b:List LB):∀(q:Nat) (f:Int) (a:LB),z4 q (t4 b f a)=Qd b q f a:=
 ind (fun _ _=>by kernel_rfl) fun q ih f a=>Eq.trans (b:=Adw x6 (fun f a=>(z4 q) (t4 b f a)) b f a) (by kernel_rfl) (by simp only[e6,ih]<;>rfl)
theorem e4:x4=Awh:=by funext b f a;exact Eq.trans (by kernel_rfl) ((i4 b Ct f a).trans (by rw[Aq];rfl))
noncomputable def F:=Avr
theorem rn x:H.u P_ x=F x:=Eq.trans (b:=At4 x4 x) (by kernel_rfl) (by simp only[e4]<;>rfl)
noncomputable def c:Con:=⟨H.p,H.r,F⟩
theorem ok:ConOk P_ gl 45 c:=co H func45 .nil rn
end F45
namespace F10
abbrev R_:=(LB×Int)
abbrev K_:=S→Option R_
noncomputable def H:Hd:=⟨[.agg [Si,Si,Si,Sw],Ss],[Ob 5,Si],(.seq .d (.seq .d (.seq .d (.seq .d (.seq .d (.seq .d (.seq .d (.seq .d (.cut [8,9,10] [⟨10,[], .own 5 (.int .u8)⟩] .d (.cut [7,8,9,10,11] [] (.keep [7,8,9,10,11,46,48,49,50,51] true) .d)))))))))),⟨[(38,F38.c),(39,Ao6),(40,F40.c),(41,F41.c),(42,F42.c),(44,F44.c),(45,F45.c)],gl,false⟩,[(43,(.seq .d (.seq .d (.cut [5] [] (.seq .d (.blk (.loop [1,5,11,12,13] [] (.seq .d (.seq .d (.cut [1,5,11,12,13] [] .d .d)))))) .d))))],f10⟩
def t9(a:List LB)(b f:LB)(g:Int)(h:LI):S:=⟨[(1, .fn 44 []),(5, .own 0),(11, .own 1),(12,vi (Ac a)),(13,vi g)],[Ai 3 h, .arr 27 (.list (.int .u8)) a,Ab 5 b,Ab 5 f],[[(8, .own 1),(9, .own 2),(10, .own 3)]]⟩
def z9:Nat→S→Option R_:=H.i P_ [r,r,r,r,r,r,r,r,r,l,(call 1 43),r,r,l,r,d]
def x14(k:Int)(a:List LB)(b f n:LB):Option R_:=H.e P_ [r,r,r,r,r,r,r,r,r,r] ⟨[(7,vi k),(8, .own 0),(9, .own 1),(10, .own 2),(11, .own 3)],[.arr 27 (.list (.int .u8)) a,Ab 5 b,Ab 5 f,Ab 5 n],[]⟩
def x13(h:LI)(a:List LB)(b f:LB):Option R_:=H.e P_ [r,r,r,r,r,r,r,r,r,l,(call 1 43),r,r,r] ⟨[(5, .own 0)],[Ai 3 h, .arr 27 (.list (.int .u8)) a,Ab 5 b,Ab 5 f],[[(8, .own 1),(9, .own 2),(10, .own 3)]]⟩
def x11(kn9:K_)(a:List LB)(b f:LB)(g:Int)(m:LI):Option R_:=H.e P_ [r,r,r,r,r,r,r,r,r,l,(call 1 43),r,r,l,r,d,(lp kn9),r,r,r] ⟨[(1, .fn 44 []),(5, .own 0),(11, .own 1),(12,vi (Ac a)),(13,vi g)],[Ai 3 m, .arr 27 (.list (.int .u8)) a,Ab 5 b,Ab 5 f],[[(8, .own 1),(9, .own 2),(10, .own 3)]]⟩
def x9(a:List LB)(b f:LB)(g:Int)(h:LI):Option R_:=H.e P_ [r,r,r,r,r,r,r,r,r,l,(call 1 43),r,r,l,r,d] (t9 a b f g h)
def x8(a:List LB)(b f:LB):Option R_:=H.e P_ [r,r,r,r,r,r,r,r,r] ⟨[(8, .own 0),(9, .own 1),(10, .own 2)],[.arr 27 (.list (.int .u8)) a,Ab 5 b,Ab 5 f],[]⟩
theorem e14:x14=Aik:=by kernel_rfl
theorem e13:x13=Sp:=Eq.trans (b:=Aip x14) (by kernel_rfl) (by simp only[e14]<;>rfl)
theorem e11(kn9:K_)(a:List LB)(b f:LB):x11 kn9 a b f=Ais (fun g h=>kn9 (t9 a b f g h)) a b f:=by kernel_rfl
theorem i9(a:List LB)(b f:LB):∀(q:Nat) (g:Int) (h:LI),z9 q (t9 a b f g h)=Qh a b f q g h:=
 ind (fun _ _=>by kernel_rfl) fun q ih g h=>Eq.trans (b:=Abs (x11 (z9 q) a b f) x13 a b f g h) (by kernel_rfl) (by simp only[e11,e13,ih]<;>rfl)
theorem e9:x9=Av5:=by funext a b f g h;exact Eq.trans (by kernel_rfl) ((i9 a b f Ct g h).trans (by rw[Aq];rfl))
theorem e8:x8=Acs:=Eq.trans (b:=Ali x9) (by kernel_rfl) (by simp only[e9]<;>rfl)
noncomputable def F:=u5 Ahf
theorem rn x:H.u P_ x=F x:=Eq.trans (b:=u5 (Aml x8) x) (by kernel_rfl) (by simp only[e8]<;>rfl)
noncomputable def c:Con:=⟨H.p,H.r,F⟩
theorem ok:ConOk P_ gl 10 c:=cr H func10 (.cons F38.ok (.cons Bgk (.cons F40.ok (.cons F41.ok (.cons F42.ok (.cons F44.ok (.cons F45.ok .nil))))))) (AnsOk.cons ent43 AnsOk.nil) rn
end F10
namespace F65
noncomputable def H:Hd:=⟨[],[Ob 5,Sz], .d,⟨[(10,F10.c)],gl,false⟩,[],f65⟩
noncomputable def F(x:Unit):=Aly
theorem rn x:H.u P_ x=F x:=by kernel_rfl
noncomputable def c:Con:=⟨H.p,H.r,F⟩
theorem ok:ConOk P_ gl 65 c:=co H func65 (.cons F10.ok .nil) rn
end F65
namespace F100
noncomputable def H:Hd:=⟨[Sb,Sb],[Sz], .d,⟨[],gl,false⟩,[],f100⟩
noncomputable def F:=u2 Hc
theorem rn x:H.u P_ x=F x:=by kernel_rfl
noncomputable def c:Con:=⟨H.p,H.r,F⟩
theorem ok:ConOk P_ gl 100 c:=co H func100 .nil rn
end F100
namespace F145
noncomputable def H:Hd:=⟨[Sb,Sb],[Sz], .d,⟨[(100,F100.c)],gl,false⟩,[],f145⟩
noncomputable def F:=u2 Ld
theorem rn x:H.u P_ x=F x:=by kernel_rfl
noncomputable def c:Con:=⟨H.p,H.r,F⟩
theorem ok:ConOk P_ gl 145 c:=co H func145 (.cons F100.ok .nil) rn
end F145
namespace F195
abbrev R_:=(Int×Int)
noncomputable def H:Hd:=⟨[Sb],[Si,Si],(.seq .d (.seq .d (.seq .d (.cut [4] [] (.seq .d (.blk (.loop [4,10,11,12] [] .d))) .d)))),⟨[],gl,false⟩,[],f195⟩
def t4(a:LB)(b f:Int):S:=⟨[(4,vi b),(10,vb a),(11,vi (Ac a)),(12,vi f)],[],[]⟩
def z4:Nat→S→Option R_:=H.i P_ [r,r,r,l,r,d]
def x6(b:Int):Option R_:=H.e P_ [r,r,r,r] ⟨[(4,vi b)],[],[]⟩
def x4(a:LB)(b f:Int):Option R_:=H.e P_ [r,r,r,l,r,d] (t4 a b f)
theorem e6:x6=Apv:=by kernel_rfl
theorem i4(a:LB):∀(q:Nat) (b f:Int),z4 q (t4 a b f)=Mj a q b f:=
 ind (fun _ _=>by kernel_rfl) fun q ih b f=>Eq.trans (b:=Wg x6 (fun b f=>(z4 q) (t4 a b f)) a b f) (by kernel_rfl) (by simp only[e6,ih]<;>rfl)
theorem e4:x4=Afj:=by funext a b f;exact Eq.trans (by kernel_rfl) ((i4 a Ct b f).trans (by rw[Aq];rfl))
noncomputable def F:=Af9
theorem rn x:H.u P_ x=F x:=Eq.trans (b:=Afi x4 x) (by kernel_rfl) (by simp only[e4]<;>rfl)
noncomputable def c:Con:=⟨H.p,H.r,F⟩
theorem ok:ConOk P_ gl 195 c:=co H func195 .nil rn
end F195
namespace F169
def Afp(j5:LB→UInt8→UInt8→Option (Int×Int))(a:LB):Option (Int×Int):=
(Ld a ([(73:UInt8),(68:UInt8),(51:UInt8)]:LB)).bind fun n=>
if(!n)then
some (0,6)
else
if(Ch (Ac a) 10)then
some (0,24)
else
(getI a 3).bind fun f=>
(getI a 5).bind fun b=>
(fun o:Option (Int×Int)=>
(fun p:Option (Int×Int)=>
both (
both (
bo (
j5 a f b)) [
o,
o]) [
bo2 (
bo (
j5 a f b)),
p,
p]) (
both (
o) [
bo (
j5 a f b),
both (
bo (
j5 a f b)) [
j5 a f b]])) (
both (
j5 a f b) [
bo (
j5 a f b)])
theorem Axv: @Afp= @Yq:=by
  unfold Afp Yq
  try simp only[Ane,Aca,Adr]
  all_goals
    repeat (refine funext fun _=>?_)
    repeat' first
      |with_reducible rfl
      |with_reducible refine Jw ?_ ?_
      |with_reducible refine Ke ?_ ?_ ?_
      |with_reducible refine Ju ?_ ?_ ?_ ?_
      |((with_reducible refine Ok ?_ ?_);focus (intro h;first|(subst h;rfl)|(simp only[h];rfl)|(simp[Cg,Ac,h];done)))
      |with_reducible refine Oa fun x=>?_
      |with_reducible refine Vp (fun _=>?_) (fun _=>?_)
      |(refine Fm (fun h=>by simp only[h,Oe,Dk,De,ite_self]) (fun x h=>?_);(try simp only[h,Dk]))
      |(refine Hj (fun h=>?_) (fun h=>?_)<;>simp only[h,if_true,if_false,Bool.false_eq_true])
abbrev R_:=(Int×Int)
noncomputable def H:Hd:=⟨[Sb],[Si,Si],(.seq .d (.seq .d (.seq .d (.cut [0,4,5] [] (.mode false) (.seq .d (.seq .d (.cut [0,5,6] [] (.cut [0,5,6,43] [] (.keep [0,5,6,7,8,31,32,33,34,35,36,37,38,39,40,41,42,43] true) .d) (.seq .d (.cut [0,5,6] [] .d .d))))))))),⟨[(100,F100.c),(145,F145.c),(195,F195.c)],gl,false⟩,[(196, .d)],f169⟩
def x8(a:LB)(b:UInt8)(h:Int):Option R_:=H.e P_ [r,r,r,r,r,r,r,r,r] ⟨[(0,vb a),(5, .ptr 0 []),(6,vi h)],[.box 5 (vc b)],[]⟩
def x7(a:LB)(g:Int)(b:UInt8):Option R_:=H.e P_ [r,r,r,r,r,r,r] ⟨[(0,vb a),(5, .ptr 0 []),(6,vi g)],[.box 5 (vc b)],[]⟩
def x6(a:LB)(g:Int)(b:UInt8)(m:Bool):Option R_:=H.e P_ [r,r,r,r,r,r,l,r] ⟨[(0,vb a),(5, .ptr 0 []),(6,vi g),(43,vt m)],[.box 5 (vc b)],[]⟩
def x5(a:LB)(f b:UInt8):Option R_:=H.e P_ [r,r,r,r] ⟨[(0,vb a),(4, .ptr 0 []),(5, .ptr 1 [])],[.box 5 (vc f), .box 5 (vc b)],[]⟩
theorem e8:x8=Yr:=by kernel_rfl
theorem e7:x7=Yn:=Eq.trans (b:=Ah1 x8) (by kernel_rfl) (by simp only[e8]<;>rfl)
theorem e6:x6=Ahy:=Eq.trans (b:=Ait x7) (by kernel_rfl) (by simp only[e7]<;>rfl)
theorem e5:x5=Ah9:=Eq.trans (b:=Aig x6) (by kernel_rfl) (by simp only[e6]<;>rfl)
noncomputable def F:=Ajm
theorem rn x:H.u P_ x=F x:=Eq.trans (b:=Afp x5 x) (by kernel_rfl) (by unfold F;rw[Axv];simp only[e5]<;>rfl)
noncomputable def c:Con:=⟨H.p,H.r,F⟩
theorem ok:ConOk P_ gl 169 c:=cr H func169 (.cons F100.ok (.cons F145.ok (.cons F195.ok .nil))) (AnsOk.cons ent196 AnsOk.nil) rn
end F169
namespace F135
abbrev R_:=(UInt64×Int)
noncomputable def H:Hd:=⟨[Sb],[Sq,Si],(.seq .d (.seq .d (.seq .d (.cut [4] [] (.seq .d (.blk (.loop [4,15,16,17] [] .d))) .d)))),⟨[],gl,false⟩,[],f135⟩
def t4(a:LB)(b:UInt64)(f:Int):S:=⟨[(4,vq b),(15,vb a),(16,vi (Ac a)),(17,vi f)],[],[]⟩
def z4:Nat→S→Option R_:=H.i P_ [r,r,r,l,r,d]
def x6(b:UInt64):Option R_:=H.e P_ [r,r,r,r] ⟨[(4,vq b)],[],[]⟩
def x4(a:LB)(b:UInt64)(f:Int):Option R_:=H.e P_ [r,r,r,l,r,d] (t4 a b f)
theorem e6:x6=Beg:=by kernel_rfl
theorem i4(a:LB):∀(q:Nat) (b:UInt64) (f:Int),z4 q (t4 a b f)=Aaz a q b f:=
 ind (fun _ _=>by kernel_rfl) fun q ih b f=>Eq.trans (b:=Ams x6 (fun b f=>(z4 q) (t4 a b f)) a b f) (by kernel_rfl) (by simp only[e6,ih]<;>rfl)
theorem e4:x4=Aut:=by funext a b f;exact Eq.trans (by kernel_rfl) ((i4 a Ct b f).trans (by rw[Aq];rfl))
noncomputable def F:=Auv
theorem rn x:H.u P_ x=F x:=Eq.trans (b:=Awt x4 x) (by kernel_rfl) (by simp only[e4]<;>rfl)
noncomputable def c:Con:=⟨H.p,H.r,F⟩
theorem ok:ConOk P_ gl 135 c:=co H func135 .nil rn
end F135
namespace F97
noncomputable def H:Hd:=⟨[Sb,Si,Si],[Sq,Si], .d,⟨[(135,F135.c)],gl,false⟩,[],f97⟩
noncomputable def F:=u3 Ap3
theorem rn x:H.u P_ x=F x:=by kernel_rfl
noncomputable def c:Con:=⟨H.p,H.r,F⟩
theorem ok:ConOk P_ gl 97 c:=co H func97 (.cons F135.ok .nil) rn
end F97
namespace F147
abbrev R_:=LB
noncomputable def H:Hd:=⟨[Si,Si,Sq],[Ob 5],(.seq .d (.seq .d (.cut [7] [] (.seq .d (.blk (.loop [7,20,21,22] [] .d))) .d))),⟨[(90,F90.c)],gl,false⟩,[],f147⟩
def t4(a b:Int)(f:UInt64)(h:Int)(g:LB):S:=⟨[(7, .own 0),(20, .own 1),(21,vi (Ac ([(2000:UInt64),(Ae (Ad a (32:Int)):UInt64),(Ae b:UInt64),f,(0:UInt64),(0:UInt64)]:LQ))),(22,vi h)],[Ab 5 g, .arr 146 (.int .u64) ([(2000:UInt64),(Ae (Ad a (32:Int)):UInt64),(Ae b:UInt64),f,(0:UInt64),(0:UInt64)]:LQ)],[]⟩
def z4:Nat→S→Option R_:=H.i P_ [r,r,l,r,d]
def x6(g:LB):Option R_:=H.e P_ [r,r,r] ⟨[(7, .own 0)],[Ab 5 g],[]⟩
def x4(a b:Int)(f:UInt64)(h:Int)(g:LB):Option R_:=H.e P_ [r,r,l,r,d] (t4 a b f h g)
theorem e6:x6=Azh:=by kernel_rfl
theorem i4(a b:Int)(f:UInt64):∀(q:Nat) (h:Int) (g:LB),z4 q (t4 a b f h g)=Ze a b f q h g:=
 ind (fun _ _=>by kernel_rfl) fun q ih h g=>Eq.trans (b:=Arf x6 (fun h g=>(z4 q) (t4 a b f h g)) a b f h g) (by kernel_rfl) (by simp only[e6,ih]<;>rfl)
theorem e4:x4=Azs:=by funext a b f h g;exact Eq.trans (by kernel_rfl) ((i4 a b f Ct h g).trans (by rw[Aq];rfl))
noncomputable def F:=u3 Axl
theorem rn x:H.u P_ x=F x:=Eq.trans (b:=u3 (Azt x4) x) (by kernel_rfl) (by simp only[e4]<;>rfl)
noncomputable def c:Con:=⟨H.p,H.r,F⟩
theorem ok:ConOk P_ gl 147 c:=co H func147 (.cons F90.ok .nil) rn
end F147
namespace F146
noncomputable def H:Hd:=⟨[Sb,Sq],[.agg [Si,Si],Sz], .d,⟨[(97,F97.c),(100,F100.c),(147,F147.c)],gl,false⟩,[],f146⟩
noncomputable def F:=u2 Ajs
theorem rn x:H.u P_ x=F x:=by kernel_rfl
noncomputable def c:Con:=⟨H.p,H.r,F⟩
theorem ok:ConOk P_ gl 146 c:=co H func146 (.cons F97.ok (.cons F100.ok (.cons F147.ok .nil))) rn
end F146
namespace F170
noncomputable def H:Hd:=⟨[Sb],[Si,Si], .d,⟨[(100,F100.c),(145,F145.c),(146,F146.c),(147,F147.c)],gl,false⟩,[],f170⟩
noncomputable def F:=Aw9
theorem rn x:H.u P_ x=F x:=by kernel_rfl
noncomputable def c:Con:=⟨H.p,H.r,F⟩
theorem ok:ConOk P_ gl 170 c:=co H func170 (.cons F100.ok (.cons F145.ok (.cons F146.ok (.cons F147.ok .nil)))) rn
end F170
namespace F133
noncomputable def H:Hd:=⟨[Sb],[Si,Si], .d,⟨[(169,F169.c),(170,F170.c)],gl,false⟩,[],f133⟩
noncomputable def F:=Vi
theorem rn x:H.u P_ x=F x:=by kernel_rfl
noncomputable def c:Con:=⟨H.p,H.r,F⟩
theorem ok:ConOk P_ gl 133 c:=co H func133 (.cons F169.ok (.cons F170.ok .nil)) rn
end F133
theorem Auz:ConOk Tryz.prog gl 46 Af6:=Bfz ent46 F133.ok
namespace F134
noncomputable def H:Hd:=⟨[Ss,Ss],[Sz], .d,⟨[],gl,false⟩,[],f134⟩
noncomputable def F:=u2 Jo
theorem rn x:H.u P_ x=F x:=by kernel_rfl
noncomputable def c:Con:=⟨H.p,H.r,F⟩
theorem ok:ConOk P_ gl 134 c:=co H func134 .nil rn
end F134
namespace F96
noncomputable def H:Hd:=⟨[Ss,Ss],[Sz], .d,⟨[(134,F134.c)],gl,false⟩,[],f96⟩
noncomputable def F:=u2 Ui
theorem rn x:H.u P_ x=F x:=by kernel_rfl
noncomputable def c:Con:=⟨H.p,H.r,F⟩
theorem ok:ConOk P_ gl 96 c:=co H func96 (.cons F134.ok .nil) rn
end F96
namespace F47
abbrev R_:=(Int×Int×Int×Int×Int×Int)
noncomputable def H:Hd:=⟨[Sb],[.agg [Si,Si,Si,Si,Si],Si],(.seq .d (.seq .d (.seq .d (.seq .d (.seq .d (.seq .d (.seq .d (.cut [2,8] [] (.seq .d (.blk (.loop [0,2,8,9,44,45] [] .d))) .d)))))))),⟨[(91,F91.c),(96,F96.c),(97,F97.c),(98,F98.c),(99,F99.c)],gl,false⟩,[],f47⟩
def t4(b:LB)(g f:Int)(a:LI):S:=⟨[(0,vb b),(2, .ptr 0 []),(8, .ptr 1 []),(9,vi g),(44, .val (.vec 5 (.int .i64)) ([(2:Int),(2:Int),(2:Int),(4:Int),(4:Int)]:LI)),(45,vi f)],[.box 32 (.agg [vi 0,vi 0,vi 0,vi 0,vi 0]), .box 144 (.val (.vec 5 (.int .i64)) a)],[]⟩
def z4:Nat→S→Option R_:=H.i P_ [r,r,r,r,r,r,r,l,r,d]
def x6(a:LI):Option R_:=H.e P_ [r,r,r,r,r,r,r,r] ⟨[(2, .ptr 0 []),(8, .ptr 1 [])],[.box 32 (.agg [vi 0,vi 0,vi 0,vi 0,vi 0]), .box 144 (.val (.vec 5 (.int .i64)) a)],[]⟩
def x4(b:LB)(g f:Int)(a:LI):Option R_:=H.e P_ [r,r,r,r,r,r,r,l,r,d] (t4 b g f a)
theorem e6:x6=Abt:=by kernel_rfl
theorem i4(b:LB):∀(q:Nat) (g f:Int) (a:LI),z4 q (t4 b g f a)=Mm b q g f a:=
 ind (fun _ _ _=>by kernel_rfl) fun q ih g f a=>Eq.trans (b:=Adp x6 (fun g f a=>(z4 q) (t4 b g f a)) b g f a) (by kernel_rfl) (by simp only[e6,ih]<;>rfl)
theorem e4:x4=Acp:=by funext b g f a;exact Eq.trans (by kernel_rfl) ((i4 b Ct g f a).trans (by rw[Aq];rfl))
noncomputable def F:=Agv
theorem rn x:H.u P_ x=F x:=Eq.trans (b:=Akz x4 x) (by kernel_rfl) (by simp only[e4]<;>rfl)
noncomputable def c:Con:=⟨H.p,H.r,F⟩
theorem ok:ConOk P_ gl 47 c:=co H func47 (.cons F91.ok (.cons F96.ok (.cons F97.ok (.cons F98.ok (.cons F99.ok .nil))))) rn
end F47
namespace F48
noncomputable def H:Hd:=⟨[Sb,Ss],[Sz,Si], .d,⟨[(41,F41.c),(100,F100.c)],gl,false⟩,[],f48⟩
noncomputable def F:=u2 Wl
theorem rn x:H.u P_ x=F x:=by kernel_rfl
noncomputable def c:Con:=⟨H.p,H.r,F⟩
theorem ok:ConOk P_ gl 48 c:=co H func48 (.cons F41.ok (.cons F100.ok .nil)) rn
end F48
namespace F49
noncomputable def H:Hd:=⟨[.agg [Si,Si,Si,Si,Si]],[Ol 3,Si], .d,⟨[(89,F89.c),(101,F101.c)],gl,false⟩,[],f49⟩
noncomputable def F:=u5 Me
theorem rn x:H.u P_ x=F x:=by kernel_rfl
noncomputable def c:Con:=⟨H.p,H.r,F⟩
theorem ok:ConOk P_ gl 49 c:=co H func49 (.cons F89.ok (.cons F101.ok .nil)) rn
end F49
namespace F50
abbrev R_:=(LI×Int)
noncomputable def H:Hd:=⟨[Sb,Si],[Ol 3,Si],(.seq .d (.seq .d (.seq .d (.seq .d (.seq .d (.seq .d (.cut [10] [] (.seq .d (.blk (.loop [0,10,48,49] [] .d))) .d))))))),⟨[(91,F91.c),(93,F93.c),(97,F97.c)],gl,false⟩,[],f50⟩
def t4(b:LB)(f:LI)(g:Int)(a:LI):S:=⟨[(0,vb b),(10, .own 0),(48,vi (Ac f)),(49,vi g)],[Ai 3 a],[]⟩
def z4:Nat→S→Option R_:=H.i P_ [r,r,r,r,r,r,l,r,d]
def x6(a:LI):Option R_:=H.e P_ [r,r,r,r,r,r,r] ⟨[(10, .own 0)],[Ai 3 a],[]⟩
def x4(b:LB)(f:LI)(g:Int)(a:LI):Option R_:=H.e P_ [r,r,r,r,r,r,l,r,d] (t4 b f g a)
theorem e6:x6=Agb:=by kernel_rfl
theorem i4(b:LB)(f:LI):∀(q:Nat) (g:Int) (a:LI),z4 q (t4 b f g a)=Ta b f q g a:=
 ind (fun _ _=>by kernel_rfl) fun q ih g a=>Eq.trans (b:=Af0 x6 (fun g a=>(z4 q) (t4 b f g a)) b f g a) (by kernel_rfl) (by simp only[e6,ih]<;>rfl)
theorem e4:x4=Aox:=by funext b f g a;exact Eq.trans (by kernel_rfl) ((i4 b f Ct g a).trans (by rw[Aq];rfl))
noncomputable def F:=u2 Ama
theorem rn x:H.u P_ x=F x:=Eq.trans (b:=u2 (Aom x4) x) (by kernel_rfl) (by simp only[e4]<;>rfl)
noncomputable def c:Con:=⟨H.p,H.r,F⟩
theorem ok:ConOk P_ gl 50 c:=co H func50 (.cons F91.ok (.cons F93.ok (.cons F97.ok .nil))) rn
end F50
namespace F11
abbrev R_:=(Int×Int×Int×Int×Int×Int×LI×Int)
noncomputable def H:Hd:=⟨[Sb,Ss],[.agg [.agg [Si,Si,Si,Si,Si],Si,Ol 3],Si],(.seq .d (.seq .d (.seq .d (.seq .d (.seq .d (.seq .d (.seq .d (.seq .d (.seq .d (.cut [0,4,6,8] [] .d .d)))))))))),⟨[(46,Af6),(47,F47.c),(48,F48.c),(49,F49.c),(50,F50.c)],gl,false⟩,[],f11⟩
def x2(a:LB)(b f g h k n:Int):Option R_:=H.e P_ [r,r,r,r,r,r,r,r,r,r] ⟨[(0,vb a),(4, .ptr 0 []),(6,vi n),(8, .ptr 1 [])],[.box 35 (.agg [.agg [vi 0,vi 0,vi 0,vi 0,vi 0],vi 0, .nils]), .box 32 (.agg [vi b,vi f,vi g,vi h,vi k])],[]⟩
theorem e2:x2=Ql:=by kernel_rfl
noncomputable def F:=u2 seekto_Open
theorem rn x:H.u P_ x=F x:=Eq.trans (b:=u2 (Vy x2) x) (by kernel_rfl) (by simp only[e2]<;>rfl)
noncomputable def c:Con:=⟨H.p,H.r,F⟩
theorem ok:ConOk P_ gl 11 c:=co H func11 (.cons Auz (.cons F47.ok (.cons F48.ok (.cons F49.ok (.cons F50.ok .nil))))) rn
end F11
namespace F102
abbrev R_:=(LI×Int)
abbrev K_:=S→Option R_
noncomputable def H:Hd:=⟨[Sl],[Ol 3,Si],(.seq .d (.seq .d (.seq .d (.seq .d (.seq .d (.cut [7] [] (.seq .d (.blk (.loop [6,7,17,18,19] [] (.seq .d (.seq .d (.cut [6,7,17,18,19] [] (.blk (.seq .d (.keep [6,7,9,17,18,19,23,24,25,26,27,28] true))) .d)))))) .d)))))),⟨[(93,F93.c)],gl,false⟩,[(138, .d)],f102⟩
def t6(a:LI)(b g:Int)(f:LI):S:=⟨[(6, .fn 138 [.ptr 0 []]),(7, .own 1),(17,vl a),(18,vi (Ac a)),(19,vi b)],[.box 3 (vi g),Ai 3 f],[]⟩
def z6:Nat→S→Option R_:=H.i P_ [r,r,r,r,r,l,r,d]
def x10(f:LI):Option R_:=H.e P_ [r,r,r,r,r,r] ⟨[(7, .own 0)],[Ai 3 f],[]⟩
def x8(kn6:K_)(a:LI)(b g h:Int)(k:LI):Option R_:=H.e P_ [r,r,r,r,r,l,r,d,(lp kn6),r,r,r] ⟨[(6, .fn 138 [.ptr 0 []]),(7, .own 1),(17,vl a),(18,vi (Ac a)),(19,vi b)],[.box 3 (vi (Ad g h)),Ai 3 k],[]⟩
def x6(a:LI)(b g:Int)(f:LI):Option R_:=H.e P_ [r,r,r,r,r,l,r,d] (t6 a b g f)
theorem e10:x10=Am2:=by kernel_rfl
theorem e8(kn6:K_)(a:LI):x8 kn6 a=Aev (fun b g f=>kn6 (t6 a b g f)) a:=by kernel_rfl
theorem i6(a:LI):∀(q:Nat) (b g:Int) (f:LI),z6 q (t6 a b g f)=Mh a q b g f:=
 ind (fun _ _ _=>by kernel_rfl) fun q ih b g f=>Eq.trans (b:=Wn (x8 (z6 q) a) x10 a b g f) (by kernel_rfl) (by simp only[e8,e10,ih]<;>rfl)
theorem e6:x6=Aqi:=by funext a b g f;exact Eq.trans (by kernel_rfl) ((i6 a Ct b g f).trans (by rw[Aq];rfl))
noncomputable def F:=Afx
theorem rn x:H.u P_ x=F x:=Eq.trans (b:=Afn x6 x) (by kernel_rfl) (by simp only[e6]<;>rfl)
noncomputable def c:Con:=⟨H.p,H.r,F⟩
theorem ok:ConOk P_ gl 102 c:=cr H func102 (.cons F93.ok .nil) (AnsOk.cons ent138 AnsOk.nil) rn
end F102
namespace F140
noncomputable def H:Hd:=⟨[Sb],[Sb,Si], .d,⟨[(91,F91.c),(135,F135.c)],gl,false⟩,[],f140⟩
noncomputable def F:=Ac7
theorem rn x:H.u P_ x=F x:=by kernel_rfl
noncomputable def c:Con:=⟨H.p,H.r,F⟩
theorem ok:ConOk P_ gl 140 c:=co H func140 (.cons F91.ok (.cons F135.ok .nil)) rn
end F140
namespace F141
noncomputable def H:Hd:=⟨[Sb],[.agg [Ob 5,Si],Si], .d,⟨[(173,F173.c)],gl,false⟩,[],f141⟩
noncomputable def F:=Bnh
theorem rn x:H.u P_ x=F x:=by kernel_rfl
noncomputable def c:Con:=⟨H.p,H.r,F⟩
theorem ok:ConOk P_ gl 141 c:=co H func141 (.cons F173.ok .nil) rn
end F141
namespace F176
abbrev R_:=UInt64
noncomputable def H:Hd:=⟨[.agg [Sb,Si],Si,Si],[Sq],(.seq .d (.seq .d (.cut [7] [] (.blk (.loop [1,2,3,7,8] [] .d)) .d))),⟨[],gl,false⟩,[],f176⟩
def t4(b f:Int)(h:LB)(k:Int)(g:UInt64)(a:Int):S:=⟨[(1,vi b),(2,vi f),(3, .ptr 0 []),(7,vq g),(8,vi a)],[.box 188 (.agg [vb h,vi k])],[]⟩
def z4:Nat→S→Option R_:=H.i P_ [r,r,l,d]
def x6(g:UInt64):Option R_:=H.e P_ [r,r,r] ⟨[(7,vq g)],[],[]⟩
def x4(b f:Int)(h:LB)(k:Int)(g:UInt64)(a:Int):Option R_:=H.e P_ [r,r,l,d] (t4 b f h k g a)
theorem e6:x6=Bdz:=by kernel_rfl
theorem i4(b f:Int)(h:LB)(k:Int):∀(q:Nat) (g:UInt64) (a:Int),z4 q (t4 b f h k g a)=Agg b f h k q g a:=
 ind (fun _ _=>by kernel_rfl) fun q ih g a=>Eq.trans (b:=Avl x6 (fun g a=>(z4 q) (t4 b f h k g a)) b f h k g a) (by kernel_rfl) (by simp only[e6,ih]<;>rfl)
theorem e4:x4=Beb:=by funext b f h k g a;exact Eq.trans (by kernel_rfl) ((i4 b f h k Ct g a).trans (by rw[Aq];rfl))
noncomputable def F:=u4 Bba
theorem rn x:H.u P_ x=F x:=Eq.trans (b:=u4 (Bdk x4) x) (by kernel_rfl) (by simp only[e4]<;>rfl)
noncomputable def c:Con:=⟨H.p,H.r,F⟩
theorem ok:ConOk P_ gl 176 c:=co H func176 .nil rn
end F176
namespace F174
abbrev R_:=(LB×Int×Int)
abbrev K_:=S→Option R_
noncomputable def H:Hd:=⟨[.agg [Sb,Si],Si,Si],[.agg [Ob 5,Si],Si],(.seq .d (.seq .d (.seq .d (.seq .d (.cut [6,8] [] (.seq .d (.blk (.loop [2,3,6,8,9] [⟨8,[0], .own 5 (.int .u8)⟩] (.seq .d (.cut [2,3,6,8,9] [] (.blk (.seq .d (.keep [2,3,6,8,9,10,39,40,41,42,43] true))) .d))))) .d))))),⟨[(161,F161.c),(176,F176.c)],gl,false⟩,[(191,(.blk (.loop [0,1,2] [] (.seq .d (.blk (.cut [0,1,2] [] .d (.seq .d (.cut [0,1,2,7] [] .d .d))))))))],f174⟩
def t44(a:Int)(g:LB)(f b:Int)(k n:UInt64)(m h:Int)(u:LB):S:=⟨[(0, .ptr 0 []),(1,vq n),(2,vi m)],[.box 188 (.agg [.own 3,vi h]), .box 188 (.agg [vb g,vi f]), .box 188 (.agg [.nils,vi 0]),Ab 5 u],[[(2,vi a),(3, .ptr 1 []),(6, .ptr 2 []),(8, .ptr 0 []),(9,vi b),(10,vi (Dx (64:Int) (Ah a b))),(39, .agg [vb g,vi f]),(40,vi b),(41,vi (Dx (64:Int) (Ah a b))),(42,vq k),(43,vi (Dx (64:Int) (Ah a b)))]]⟩
def z44(kn27:K_):Nat→S→Option R_:=H.i P_ [r,r,r,r,l,r,d,(lp kn27),r,l,d,r,(call 5 191),d]
def t27(a:Int)(g:LB)(f b o:Int)(p:LB):S:=⟨[(2,vi a),(3, .ptr 0 []),(6, .ptr 1 []),(8, .ptr 2 []),(9,vi b)],[.box 188 (.agg [vb g,vi f]), .box 188 (.agg [.nils,vi 0]), .box 188 (.agg [.own 3,vi o]),Ab 5 p],[]⟩
def z27:Nat→S→Option R_:=H.i P_ [r,r,r,r,l,r,d]
def x52(o:Int)(p:LB):Option R_:=H.e P_ [r,r,r,r,r] ⟨[(6, .ptr 0 []),(8, .ptr 1 [])],[.box 188 (.agg [.nils,vi 0]), .box 188 (.agg [.own 2,vi o]),Ab 5 p],[]⟩
def x50(kn27:K_)(a:Int)(g:LB)(f b h:Int)(u:LB):Option R_:=H.e P_ [r,r,r,r,l,r,d,(lp kn27),r,r] ⟨[(2,vi a),(3, .ptr 0 []),(6, .ptr 1 []),(8, .ptr 2 []),(9,vi b)],[.box 188 (.agg [vb g,vi f]), .box 188 (.agg [.nils,vi 0]), .box 188 (.agg [.own 3,vi h]),Ab 5 u],[]⟩
def x48(kn27 kn44:K_)(a b:Int)(g:LB)(f:Int)(k n:UInt64)(m h:Int)(w:LB):Option R_:=H.e P_ [r,r,r,r,l,r,d,(lp kn27),r,l,d,r,(call 5 191),d,(lp kn44),r,d,r,r,r] ⟨[(0, .ptr 0 []),(1,vq n),(2,vi m),(7,vi (Dx m (Ah (8:Int) (Dq h (7:Int)))))],[.box 188 (.agg [.own 3,vi h]), .box 188 (.agg [vb g,vi f]), .box 188 (.agg [.nils,vi 0]),Ab 5 w],[[(2,vi a),(3, .ptr 1 []),(6, .ptr 2 []),(8, .ptr 0 []),(9,vi b),(10,vi (Dx (64:Int) (Ah a b))),(39, .agg [vb g,vi f]),(40,vi b),(41,vi (Dx (64:Int) (Ah a b))),(42,vq k),(43,vi (Dx (64:Int) (Ah a b)))]]⟩
def x47(kn27 kn44:K_)(a b:Int)(g:LB)(f:Int)(k n:UInt64)(m h:Int)(v:LB):Option R_:=H.e P_ [r,r,r,r,l,r,d,(lp kn27),r,l,d,r,(call 5 191),d,(lp kn44),r,d,r] ⟨[(0, .ptr 0 []),(1,vq n),(2,vi m)],[.box 188 (.agg [.own 3,vi h]), .box 188 (.agg [vb g,vi f]), .box 188 (.agg [.nils,vi 0]),Ab 5 v],[[(2,vi a),(3, .ptr 1 []),(6, .ptr 2 []),(8, .ptr 0 []),(9,vi b),(10,vi (Dx (64:Int) (Ah a b))),(39, .agg [vb g,vi f]),(40,vi b),(41,vi (Dx (64:Int) (Ah a b))),(42,vq k),(43,vi (Dx (64:Int) (Ah a b)))]]⟩
def x44(kn27:K_)(a:Int)(g:LB)(f b:Int)(k n:UInt64)(m h:Int)(u:LB):Option R_:=H.e P_ [r,r,r,r,l,r,d,(lp kn27),r,l,d,r,(call 5 191),d] (t44 a g f b k n m h u)
def x27(a:Int)(g:LB)(f b o:Int)(p:LB):Option R_:=H.e P_ [r,r,r,r,l,r,d] (t27 a g f b o p)
theorem e52:x52=Arp:=by kernel_rfl
theorem e50(kn27:K_)(a:Int)(g:LB)(f:Int):x50 kn27 a g f=Ajn (fun b o p=>kn27 (t27 a g f b o p)) a g f:=by kernel_rfl
theorem e48(kn27 kn44:K_)(a:Int)(g:LB)(f b:Int)(k:UInt64):x48 kn27 kn44 a b g f k=Aq6 (fun n m h u=>kn44 (t44 a g f b k n m h u)) a b g f k:=by kernel_rfl
theorem e47(kn27 kn44:K_)(a:Int)(g:LB)(f b:Int)(k:UInt64):x47 kn27 kn44 a b g f k=Ajr (fun n m h u=>kn44 (t44 a g f b k n m h u)) a b g f k:=Eq.trans (b:=Ase (x48 kn27 kn44 a b g f k) a b g f k) (by kernel_rfl) (by simp only[e48]<;>rfl)
theorem i44(kn27:K_)(a:Int)(g:LB)(f b:Int)(k:UInt64):∀(q:Nat) (n:UInt64) (m h:Int) (u:LB),z44 kn27 q (t44 a g f b k n m h u)=Nx (fun b o p=>kn27 (t27 a g f b o p)) a g f b k q n m h u:=
 ind (fun _ _ _ _=>by kernel_rfl) fun q ih n m h u=>Eq.trans (b:=Aje (x47 kn27 (z44 kn27 q) a b g f k) (x50 kn27 a g f) a g f b k n m h u) (by kernel_rfl) (by simp only[e47,e50,ih]<;>rfl)
theorem e44(kn27:K_)(a:Int)(g:LB)(f:Int):x44 kn27 a g f=Ar0 (fun b o p=>kn27 (t27 a g f b o p)) a g f:=by funext b k n m h u;exact Eq.trans (by kernel_rfl) ((i44 kn27 a g f b k Ct n m h u).trans (by rw[Aq];rfl))
theorem i27(a:Int)(g:LB)(f:Int):∀(q:Nat) (b o:Int) (p:LB),z27 q (t27 a g f b o p)=Wr a g f q b o p:=
 ind (fun _ _ _=>by kernel_rfl) fun q ih b o p=>Eq.trans (b:=Aq7 (x44 (z27 q) a g f) x52 a g f b o p) (by kernel_rfl) (by simp only[e44,e52,ih]<;>rfl)
theorem e27:x27=Aqz:=by funext a g f b o p;exact Eq.trans (by kernel_rfl) ((i27 a g f Ct b o p).trans (by rw[Aq];rfl))
noncomputable def F:=u4 Aux
theorem rn x:H.u P_ x=F x:=Eq.trans (b:=u4 (Aum x27) x) (by kernel_rfl) (by simp only[e27]<;>rfl)
noncomputable def c:Con:=⟨H.p,H.r,F⟩
theorem ok:ConOk P_ gl 174 c:=cr H func174 (.cons F161.ok (.cons F176.ok .nil)) (AnsOk.cons ent191 AnsOk.nil) rn
end F174
namespace F143
noncomputable def H:Hd:=⟨[.agg [Sb,Si],Si,Si],[Sq,Si], .d,⟨[(161,F161.c),(176,F176.c)],gl,false⟩,[],f143⟩
noncomputable def F:=u4 Abd
theorem rn x:H.u P_ x=F x:=by kernel_rfl
noncomputable def c:Con:=⟨H.p,H.r,F⟩
theorem ok:ConOk P_ gl 143 c:=co H func143 (.cons F161.ok (.cons F176.ok .nil)) rn
end F143
namespace F214
noncomputable def H:Hd:=⟨[Sq],[Si], .d,⟨[],gl,false⟩,[],f214⟩
noncomputable def F:=Fy
theorem rn x:H.u P_ x=F x:=by kernel_rfl
noncomputable def c:Con:=⟨H.p,H.r,F⟩
theorem ok:ConOk P_ gl 214 c:=co H func214 .nil rn
end F214
namespace F209
def Ajy(j6:Int→UInt64→Int→LB→Int→Option (Int×Int×Int))(g:LB)(b a:Int):Option (Int×Int×Int):=
(Hw g b).bind fun m=>
if(Be m 0)then
some (0,0,m)
else
if(Ch a 0)then
some (0,0,2)
else
if(Ly a b)then
some (0,0,24)
else
(fun n:Option (Int×Int×Int)=>
(fun o:Option (Int×Int×Int)=>
bo2 (
o)) (
bo (
n))) (
(Abd g b a (Dx 48 (Ah b a))).bind fun(k,h)=>
j6 h k a g b)
theorem Bbl: @Ajy= @Xu:=by
  unfold Ajy Xu
  simp only[Ane,Aca,Adr]
abbrev R_:=(Int×Int×Int)
noncomputable def H:Hd:=⟨[.agg [Sb,Si],Si],[Si,Si,Si],(.seq .d (.seq .d (.seq .d (.seq .d (.seq .d (.cut [3,5,6,8,9] [] (.keep [2,3,5,6,8,9,22,23,24,25,26,27,28,29] false) (.seq .d (.seq .d (.cut [] [] (.blk (.seq (.blk (.seq (.blk (.cut [] [] (.cut [3,4,5] [] (.cut [3,4,5,36] [] (.keep [3,4,5,8,36,37,38,39,40] true) .d) .d) .d)) .d)) .d)) .d))))))))),⟨[(143,F143.c),(161,F161.c),(214,F214.c)],gl,false⟩,[(213, .d)],f209⟩
def x10:Option R_:=H.e P_ [r,r,r,r,r,r,r,r,r] ⟨[],[],[]⟩
def x9:Option R_:=H.e P_ [r,r,r,r,r,r,r,r,l,d,l,d,l,d,r] ⟨[],[],[]⟩
def x8(f a:Int):Option R_:=H.e P_ [r,r,r,r,r,r,r,r,l,d,l,d,l,d,l,r] ⟨[(3, .ptr 0 []),(4,vi f),(5,vi 0)],[.box 3 (vi a)],[]⟩
def x7(f b a:Int):Option R_:=H.e P_ [r,r,r,r,r,r,r,r,l,d,l,d,l,d,l,l,r] ⟨[(3, .ptr 0 []),(4,vi f),(5,vi 0),(36,vt (Ch f (Dx (48:Int) (Ah b a))))],[.box 3 (vi a)],[]⟩
def x6(h:Int)(k:UInt64)(a:Int)(g:LB)(b:Int):Option R_:=H.e P_ [r,r,r,r,r,r] ⟨[(3, .ptr 0 []),(5,vi 0),(6,vi h),(8, .fn 213 [.ptr 1 [], .ptr 0 []]),(9,vq k)],[.box 3 (vi a), .box 188 (.agg [vb g,vi b])],[]⟩
theorem e10:x10=Aub:=by kernel_rfl
theorem e9:x9=Axx:=Eq.trans (b:=Ax6 x10) (by kernel_rfl) (by simp only[e10]<;>rfl)
theorem e8:x8=Aod:=Eq.trans (b:=Aoz x9) (by kernel_rfl) (by simp only[e9]<;>rfl)
theorem e7:x7=Aoq:=Eq.trans (b:=Aoy x8) (by kernel_rfl) (by simp only[e8]<;>rfl)
theorem e6:x6=Ao4:=Eq.trans (b:=Ao0 x7) (by kernel_rfl) (by simp only[e7]<;>rfl)
noncomputable def F:=u3 Aff
theorem rn x:H.u P_ x=F x:=Eq.trans (b:=u3 (Ajy x6) x) (by kernel_rfl) (by unfold F;rw[Bbl];simp only[e6]<;>rfl)
noncomputable def c:Con:=⟨H.p,H.r,F⟩
theorem ok:ConOk P_ gl 209 c:=cr H func209 (.cons F143.ok (.cons F161.ok (.cons F214.ok .nil))) (AnsOk.cons ent213 AnsOk.nil) rn
end F209
namespace F200
abbrev R_:=(UInt32×Int×Int)
noncomputable def H:Hd:=⟨[.agg [Sb,Si],Si,Si],[Su,Si,Si],(.seq .d (.seq .d (.seq .d (.seq .d (.seq .d (.seq .d (.cut [2,3,7,10,11] [] .d .d))))))),⟨[(143,F143.c),(161,F161.c),(192,F192.c),(209,F209.c)],gl,false⟩,[],f200⟩
def x2(a b f:Int)(g:LB)(h k:Int):Option R_:=H.e P_ [r,r,r,r,r,r,r] ⟨[(2,vi a),(3, .ptr 0 []),(7,vi b),(10,vi f),(11,vi k)],[.box 188 (.agg [vb g,vi h])],[]⟩
theorem e2:x2=Ajb:=by kernel_rfl
noncomputable def F:=u4 Awz
theorem rn x:H.u P_ x=F x:=Eq.trans (b:=u4 (Asg x2) x) (by kernel_rfl) (by simp only[e2]<;>rfl)
noncomputable def c:Con:=⟨H.p,H.r,F⟩
theorem ok:ConOk P_ gl 200 c:=co H func200 (.cons F143.ok (.cons F161.ok (.cons F192.ok (.cons F209.ok .nil)))) rn
end F200
namespace F175
abbrev R_:=(UInt32×Int×Int×Int×UInt64×UInt64×Int)
noncomputable def H:Hd:=⟨[.agg [Sb,Si],Si, .agg [Si,Si,Sq,Sq]],[Su,Si, .agg [Si,Si,Sq,Sq],Si],(.seq .d (.cut [1,3,5,8] [] .d (.seq .d (.seq .d (.cut [5,6,7,8] [] .d (.cut [5,6,7,8] [] (.keep [5,6,7,8,81] true) .d)))))),⟨[(143,F143.c),(161,F161.c),(162,F162.c),(163,F163.c),(200,F200.c)],gl,false⟩,[(166,(.seq .d (.seq .d (.seq .d (.blk (.cut [0,1,4] [] (.blk (.seq .d (.keep [0,1,4,6,18,19,20,21,22,23,24,25] true))) (.cut [] [] (.keep [0,1,4,27,28,29,30,31,32,33,34] true) .d))))))),(194, .d)],f175⟩
def x10(f:UInt32)(k w m:Int)(a n:UInt64):Option R_:=H.e P_ [r,r,r,r,r,r] ⟨[(5, .ptr 0 []),(6,vu f),(7,vi k),(8, .ptr 1 [])],[.box 184 (.agg [vi w,vi m,vq (Ad a (Ah (Ae f:UInt64) (Bo a (GI.toZ (4:UInt64)).toNat))),vq n]), .box 184 (.agg [vi 0,vi 0,vq 0,vq 0])],[]⟩
def x9(f:UInt32)(k m:Int)(a n:UInt64)(w:Int):Option R_:=H.e P_ [r,r,r,r,r,l,(call 1 166),r,r,r,d,r,r] ⟨[],[.box 184 (.agg [vi w,vi m,vq (Ad a (Ah (Ae f:UInt64) (Bo a (GI.toZ (4:UInt64)).toNat))),vq n]), .box 184 (.agg [vi 0,vi 0,vq 0,vq 0])],[[(5, .ptr 0 []),(6,vu f),(7,vi k),(8, .ptr 1 []),(81,vu f)]]⟩
def x8(f:UInt32)(k b:Int)(a:UInt64)(m:Int)(n:UInt64):Option R_:=H.e P_ [r,r,r,r,r,l,(call 1 166),r,r,r,d,r] ⟨[(0, .ptr 0 []),(1,vu f),(4, .fn 194 [])],[.box 184 (.agg [vi b,vi m,vq a,vq n]), .box 184 (.agg [vi 0,vi 0,vq 0,vq 0])],[[(5, .ptr 0 []),(6,vu f),(7,vi k),(8, .ptr 1 []),(81,vu f)]]⟩
def x7(b h:Int)(a g:UInt64)(f:UInt32)(k:Int):Option R_:=H.e P_ [r,r,r,r,r] ⟨[(5, .ptr 0 []),(6,vu f),(7,vi k),(8, .ptr 1 [])],[.box 184 (.agg [vi b,vi h,vq a,vq g]), .box 184 (.agg [vi 0,vi 0,vq 0,vq 0])],[]⟩
def x6(p:Int)(u:LB)(v b h:Int)(a g:UInt64):Option R_:=H.e P_ [r,r] ⟨[(1,vi p),(3, .ptr 0 []),(5, .ptr 1 []),(8, .ptr 2 [])],[.box 188 (.agg [vb u,vi v]), .box 184 (.agg [vi b,vi h,vq a,vq g]), .box 184 (.agg [vi 0,vi 0,vq 0,vq 0])],[]⟩
theorem e10:x10=Aow:=by kernel_rfl
theorem e9:x9=Arj:=Eq.trans (b:=Asj x10) (by kernel_rfl) (by simp only[e10]<;>rfl)
theorem e8:x8=Ade:=Eq.trans (b:=Asl x9) (by kernel_rfl) (by simp only[e9]<;>rfl)
theorem e7:x7=Ajq:=Eq.trans (b:=Arw x8) (by kernel_rfl) (by simp only[e8]<;>rfl)
theorem e6:x6=Arx:=Eq.trans (b:=Arm x7) (by kernel_rfl) (by simp only[e7]<;>rfl)
noncomputable def F:=u7 Ae4
theorem rn x:H.u P_ x=F x:=Eq.trans (b:=u7 (Ary x6) x) (by kernel_rfl) (by simp only[e6]<;>rfl)
noncomputable def c:Con:=⟨H.p,H.r,F⟩
theorem ok:ConOk P_ gl 175 c:=cr H func175 (.cons F143.ok (.cons F161.ok (.cons F162.ok (.cons F163.ok (.cons F200.ok .nil))))) (AnsOk.cons ent166 (AnsOk.cons ent194 AnsOk.nil)) rn
end F175
namespace F142
def Xp(j21:Int→Int→Int→UInt32→Int→(List (Int×Int×UInt64×UInt64×Unit))→LU→Int→Int→UInt64→UInt64→Option (LU×Int×Int))(j24:Int→LU→Option (LU×Int×Int))(a f:Int)(g:LB)(b k h:Int)(n:List (Int×Int×UInt64×UInt64×Unit))(m:LU):Option (LU×Int×Int):=
if(Ch h (Ar f a))then
(Aux g b k (Dx (Ad k 81) b)).bind fun(ah,ae,af)=>
if(Be af 0)then
some (([]:LU),0,af)
else
(Hm (Be a 0)).bind fun _=>
(getI n (Ff h a)).bind fun _=>
(fun ai:Option (LU×Int×Int)=>
both (
both (
(getI n (Ff h a)).bind fun p=>
(fun ao:Option (LU×Int×Int)=>
bo (
ao)) (
(Ae4 ah ae 0 p.1 p.2.1 p.2.2.1 p.2.2.2.1).bind fun(w,v,aa,ab,ac,ad,y)=>
j21 k h y w v n m aa ab ac ad)) [
ai]) [
(getI n (Ff h a)).bind fun p=>
(fun aj:Option (LU×Int×Int)=>
both (
bo (
aj)) [
aj]) (
(Ae4 ah ae 0 p.1 p.2.1 p.2.2.1 p.2.2.2.1).bind fun(w,v,aa,ab,ac,ad,y)=>
j21 k h y w v n m aa ab ac ad),
bo (
ai)]) (
(getI n (Ff h a)).bind fun p=>
(Ae4 ah ae 0 p.1 p.2.1 p.2.2.1 p.2.2.2.1).bind fun(w,v,aa,ab,ac,ad,y)=>
j21 k h y w v n m aa ab ac ad)
else
j24 k m
theorem Ar9: @Xp= @Rk:=by
  unfold Xp Rk
  try simp only[Ane,Aca,Adr]
  all_goals
    repeat (refine funext fun _=>?_)
    repeat' first
      |with_reducible rfl
      |with_reducible refine Jw ?_ ?_
      |with_reducible refine Ke ?_ ?_ ?_
      |with_reducible refine Ju ?_ ?_ ?_ ?_
      |((with_reducible refine Ok ?_ ?_);focus (intro h;first|(subst h;rfl)|(simp only[h];rfl)|(simp[Cg,Ac,h];done)))
      |with_reducible refine Oa fun x=>?_
      |with_reducible refine Vp (fun _=>?_) (fun _=>?_)
      |(refine Fm (fun h=>by simp only[h,Oe,Dk,De,ite_self]) (fun x h=>?_);(try simp only[h,Dk]))
      |(refine Hj (fun h=>?_) (fun h=>?_)<;>simp only[h,if_true,if_false,Bool.false_eq_true])
abbrev R_:=(LU×Int×Int)
abbrev K_:=S→Option R_
noncomputable def H:Hd:=⟨[Si,Si, .agg [Sb,Si]],[Ov 60,Si,Si],(.seq .d (.seq .d (.cut [0,1,5,9] [] (.seq .d (.blk (.loop [0,1,5,9,19] [] .d))) (.seq .d (.seq .d (.cut [11,12] [] (.seq .d (.blk (.loop [0,5,9,11,12,28,29] [⟨11,[], .own 60 (.int .u32)⟩] (.seq .d (.seq .d (.seq (.blk (.seq .d (.seq .d (.seq .d (.cut [0,5,9,11,12,13,15,16,17,18,28,29] [] (.mode false) (.seq .d (.cut [0,5,9,11,12,16,28,29] [] .d .d))))))) .d)))))) .d)))))),⟨[(160,F160.c),(174,F174.c),(175,F175.c)],gl,false⟩,[],f142⟩
def t16(a f:Int)(g:LB)(b k h:Int)(n:List (Int×Int×UInt64×UInt64×Unit))(m:LU):S:=⟨[(0,vi a),(5, .ptr 0 []),(9, .ptr 1 []),(11, .own 2),(12,vi k),(28,vi (Ar f a)),(29,vi h)],[.box 188 (.agg [vb g,vi b]), .box 185 (.val (.vec 6 (.cons (.int .i64) (.cons (.int .i64) (.cons (.int .u64) (.cons (.int .u64) .nil))))) n),Av 60 m],[]⟩
def z16:Nat→S→Option R_:=H.i P_ [r,r,r,r,r,l,r,d]
def t13(a f:Int)(g:LB)(b u:Int)(o:List (Int×Int×UInt64×UInt64×Unit)):S:=⟨[(0,vi a),(1,vi f),(5, .ptr 0 []),(9, .ptr 1 []),(19,vi u)],[.box 188 (.agg [vb g,vi b]), .box 185 (.val (.vec 6 (.cons (.int .i64) (.cons (.int .i64) (.cons (.int .u64) (.cons (.int .u64) .nil))))) o)],[]⟩
def z13:Nat→S→Option R_:=H.i P_ [r,r,l,r,d]
def x24(k:Int)(m:LU):Option R_:=H.e P_ [r,r,r,r,r,r] ⟨[(11, .own 0),(12,vi k)],[Av 60 m],[]⟩
def x22(kn16:K_)(a f:Int)(g:LB)(b k v:Int)(w:UInt32)(h:Int)(ag:List (Int×Int×UInt64×UInt64×Unit))(m:LU):Option R_:=H.e P_ [r,r,r,r,r,l,r,d,(lp kn16),r,r,l,d,r,r,r,r,r,r] ⟨[(0,vi a),(5, .ptr 0 []),(9, .ptr 1 []),(11, .own 2),(12,vi (Ad k v)),(16,vu w),(28,vi (Ar f a)),(29,vi h)],[.box 188 (.agg [vb g,vi b]), .box 185 (.val (.vec 6 (.cons (.int .i64) (.cons (.int .i64) (.cons (.int .u64) (.cons (.int .u64) .nil))))) ag),Av 60 m],[]⟩
def x21(kn16:K_)(a f:Int)(g:LB)(b k h y:Int)(w:UInt32)(v:Int)(n:List (Int×Int×UInt64×UInt64×Unit))(m:LU)(aa ab:Int)(ac ad:UInt64):Option R_:=H.e P_ [r,r,r,r,r,l,r,d,(lp kn16),r,r,l,d,r,r,r,r] ⟨[(0,vi a),(5, .ptr 0 []),(9, .ptr 1 []),(11, .own 2),(12,vi k),(13,vi h),(15,vi y),(16,vu w),(17,vi v),(18, .ptr 3 []),(28,vi (Ar f a)),(29,vi h)],[.box 188 (.agg [vb g,vi b]), .box 185 (.val (.vec 6 (.cons (.int .i64) (.cons (.int .i64) (.cons (.int .u64) (.cons (.int .u64) .nil))))) n),Av 60 m, .box 184 (.agg [vi aa,vi ab,vq ac,vq ad])],[]⟩
def x16(a f:Int)(g:LB)(b k h:Int)(n:List (Int×Int×UInt64×UInt64×Unit))(m:LU):Option R_:=H.e P_ [r,r,r,r,r,l,r,d] (t16 a f g b k h n m)
def x15(a f:Int)(g:LB)(b:Int)(o:List (Int×Int×UInt64×UInt64×Unit)):Option R_:=H.e P_ [r,r,r] ⟨[(0,vi a),(1,vi f),(5, .ptr 0 []),(9, .ptr 1 [])],[.box 188 (.agg [vb g,vi b]), .box 185 (.val (.vec 6 (.cons (.int .i64) (.cons (.int .i64) (.cons (.int .u64) (.cons (.int .u64) .nil))))) o)],[]⟩
def x13(a f:Int)(g:LB)(b u:Int)(o:List (Int×Int×UInt64×UInt64×Unit)):Option R_:=H.e P_ [r,r,l,r,d] (t13 a f g b u o)
theorem e24:x24=Ak6:=by kernel_rfl
theorem e22(kn16:K_)(a f:Int)(g:LB)(b:Int):x22 kn16 a f g b=Zf (fun k h n m=>kn16 (t16 a f g b k h n m)) a f g b:=by kernel_rfl
theorem e21(kn16:K_)(a f:Int)(g:LB)(b:Int):x21 kn16 a f g b=Rq (fun k h n m=>kn16 (t16 a f g b k h n m)) a f g b:=Eq.trans (b:=Rw (x22 kn16 a f g b) a f g b) (by kernel_rfl) (by simp only[e22]<;>rfl)
theorem i16(a f:Int)(g:LB)(b:Int):∀(q:Nat) (k h:Int) (n:List (Int×Int×UInt64×UInt64×Unit)) (m:LU),z16 q (t16 a f g b k h n m)=Mk a f g b q k h n m:=
 ind (fun _ _ _ _=>by kernel_rfl) fun q ih k h n m=>Eq.trans (b:=Xp (x21 (z16 q) a f g b) x24 a f g b k h n m) (by kernel_rfl) (by rw[Ar9];simp only[e21,e24,ih]<;>rfl)
theorem e16:x16=Aj2:=by funext a f g b k h n m;exact Eq.trans (by kernel_rfl) ((i16 a f g b Ct k h n m).trans (by rw[Aq];rfl))
theorem e15:x15=Zh:=Eq.trans (b:=Alo x16) (by kernel_rfl) (by simp only[e16]<;>rfl)
theorem i13(a f:Int)(g:LB)(b:Int):∀(q:Nat) (u:Int) (o:List (Int×Int×UInt64×UInt64×Unit)),z13 q (t13 a f g b u o)=Zr a f g b q u o:=
 ind (fun _ _=>by kernel_rfl) fun q ih u o=>Eq.trans (b:=Akq x15 (fun u o=>(z13 q) (t13 a f g b u o)) a f g b u o) (by kernel_rfl) (by simp only[e15,ih]<;>rfl)
theorem e13:x13=Rp:=by funext a f g b u o;exact Eq.trans (by kernel_rfl) ((i13 a f g b Ct u o).trans (by rw[Aq];rfl))
noncomputable def F:=u4 Adq
theorem rn x:H.u P_ x=F x:=Eq.trans (b:=u4 (Abg x13) x) (by kernel_rfl) (by simp only[e13]<;>rfl)
noncomputable def c:Con:=⟨H.p,H.r,F⟩
theorem ok:ConOk P_ gl 142 c:=co H func142 (.cons F160.ok (.cons F174.ok (.cons F175.ok .nil))) rn
end F142
namespace F178
noncomputable def H:Hd:=⟨[Su],[Sx], .d,⟨[],gl,false⟩,[],f178⟩
noncomputable def F:=Wp
theorem rn x:H.u P_ x=F x:=by kernel_rfl
noncomputable def c:Con:=⟨H.p,H.r,F⟩
theorem ok:ConOk P_ gl 178 c:=co H func178 .nil rn
end F178
namespace F201
noncomputable def H:Hd:=⟨[.agg [Si, .lf (.vec 16 (.int .i32)) none, .lf (.vec 16 (.int .i32)) none],Sx],[Sx, .agg [Si, .lf (.vec 16 (.int .i32)) none, .lf (.vec 16 (.int .i32)) none],Si], .d,⟨[(206,F206.c),(207,F207.c)],gl,false⟩,[],f201⟩
noncomputable def F:=u4 At8
theorem rn x:H.u P_ x=F x:=by kernel_rfl
noncomputable def c:Con:=⟨H.p,H.r,F⟩
theorem ok:ConOk P_ gl 201 c:=co H func201 (.cons F206.ok (.cons F207.ok .nil)) rn
end F201
namespace F177
def Amf(a:Int)(b:Int32)(f:Int)(g h:LX)(o:Int32):Option (Int32×Int×Int32×Int×LX×LX×Int):=
(Vu a b f g h).bind fun k=>
if(Be k 0)then
some (0,0,0,0,(List.replicate 16 (0:Int32)),(List.replicate 16 (0:Int32)),k)
else
(Vk a b).bind fun(m,y)=>
(At8 f g h o).bind fun(n,p,u,v,w)=>
(fun aa:Option (Int32×Int×Int32×Int×LX×LX×Int)=>
bo (
aa)) (
some ((Ad n m),a,(Ad n m),p,u,v,w))
theorem Bbo: @Amf= @Kw:=by
  unfold Amf Kw
  simp only[Ane,Aca,Adr]
noncomputable def H:Hd:=⟨[.agg [Si,Sx, .agg [Si, .lf (.vec 16 (.int .i32)) none, .lf (.vec 16 (.int .i32)) none]],Sx],[Sx, .agg [Si,Sx, .agg [Si, .lf (.vec 16 (.int .i32)) none, .lf (.vec 16 (.int .i32)) none]],Si],(.seq .d (.seq .d (.seq .d (.seq .d (.seq (.mode false) .d))))),⟨[(187,F187.c),(188,F188.c),(201,F201.c)],gl,false⟩,[],f177⟩
noncomputable def F:=u6 Kw
theorem rn x:H.u P_ x=F x:=Eq.trans (b:=u6 Amf x) (by kernel_rfl) (by rw[Bbo];rfl)
noncomputable def c:Con:=⟨H.p,H.r,F⟩
theorem ok:ConOk P_ gl 177 c:=co H func177 (.cons F187.ok (.cons F188.ok (.cons F201.ok .nil))) rn
end F177
namespace F179
abbrev R_:=(LX×Int)
abbrev K_:=S→Option R_
noncomputable def H:Hd:=⟨[Si,Sw],[Ow 21,Si],(.seq .d (.seq .d (.seq .d (.cut [7] [] (.seq .d (.blk (.loop [0,7,8] [] (.seq .d (.cut [0,7,8] [] (.blk (.keep [0,7,8,24,25,26,27,28,29] true)) .d))))) .d)))),⟨[(183,F183.c),(184,F184.c)],gl,true⟩,[(202,(.seq .d (.cut [0,2] [] .d (.seq .d (.blk (.loop [0,3] [] .d))))))],f179⟩
def t18(b a g:Int)(h:LX):S:=⟨[(0, .view true 0 [] (.int .i32) a ((Ad a b)-a)),(3,vi g)],[Aw 21 h],[[(0,vi b),(7, .own 0),(8,vi a),(24, .own 0),(25,vi a),(26,vi a),(27,vi b),(28,vi (Ad a b)),(29, .view true 0 [] (.int .i32) a ((Ad a b)-a))]]⟩
def z18(kn12:K_):Nat→S→Option R_:=H.i P_ [r,r,r,l,r,d,(lp kn12),r,l,d,(call 6 202),r,r,r,d]
def t12(b a:Int)(f:LX):S:=⟨[(0,vi b),(7, .own 0),(8,vi a)],[Aw 21 f],[]⟩
def z12:Nat→S→Option R_:=H.i P_ [r,r,r,l,r,d]
def x22(f:LX):Option R_:=H.e P_ [r,r,r,r] ⟨[(7, .own 0)],[Aw 21 f],[]⟩
def x20(kn12:K_)(b a:Int)(h:LX):Option R_:=H.e P_ [r,r,r,l,r,d,(lp kn12),r,r] ⟨[(0,vi b),(7, .own 0),(8,vi a)],[Aw 21 h],[]⟩
def x18(kn12:K_)(b a g:Int)(h:LX):Option R_:=H.e P_ [r,r,r,l,r,d,(lp kn12),r,l,d,(call 6 202),r,r,r,d] (t18 b a g h)
def x17(kn12:K_)(b a:Int)(k:LX):Option R_:=H.e P_ [r,r,r,l,r,d,(lp kn12),r,l,d,(call 6 202),r,r] ⟨[(0, .view true 0 [] (.int .i32) a ((Ad a b)-a)),(2,vi (Ah ((Ad a b)-a) (1:Int)))],[Aw 21 k],[[(0,vi b),(7, .own 0),(8,vi a),(24, .own 0),(25,vi a),(26,vi a),(27,vi b),(28,vi (Ad a b)),(29, .view true 0 [] (.int .i32) a ((Ad a b)-a))]]⟩
def x12(b a:Int)(f:LX):Option R_:=H.e P_ [r,r,r,l,r,d] (t12 b a f)
theorem e22:x22=Bbg:=by kernel_rfl
theorem e20(kn12:K_)(b:Int):x20 kn12 b=Arn (fun a f=>kn12 (t12 b a f)) b:=by kernel_rfl
theorem i18(kn12:K_)(b a:Int):∀(q:Nat) (g:Int) (h:LX),z18 kn12 q (t18 b a g h)=Wk (fun a f=>kn12 (t12 b a f)) b a q g h:=
 ind (fun _ _=>by kernel_rfl) fun q ih g h=>Eq.trans (b:=Ajl (x20 kn12 b) (fun g h=>(z18 kn12 q) (t18 b a g h)) b a g h) (by kernel_rfl) (by simp only[e20,ih]<;>rfl)
theorem e18(kn12:K_)(b:Int):x18 kn12 b=Aq8 (fun a f=>kn12 (t12 b a f)) b:=by funext a g h;exact Eq.trans (by kernel_rfl) ((i18 kn12 b a Ct g h).trans (by rw[Aq];rfl))
theorem e17(kn12:K_)(b:Int):x17 kn12 b=Ajp (fun a f=>kn12 (t12 b a f)) b:=Eq.trans (b:=Aqx (x18 kn12 b) b) (by kernel_rfl) (by simp only[e18]<;>rfl)
theorem i12(b:Int):∀(q:Nat) (a:Int) (f:LX),z12 q (t12 b a f)=Re b q a f:=
 ind (fun _ _=>by kernel_rfl) fun q ih a f=>Eq.trans (b:=Aqv (x17 (z12 q) b) x22 b a f) (by kernel_rfl) (by simp only[e17,e22,ih]<;>rfl)
theorem e12:x12=Aqw:=by funext b a f;exact Eq.trans (by kernel_rfl) ((i12 b Ct a f).trans (by rw[Aq];rfl))
noncomputable def F:=u2 Baj
theorem rn x:H.u P_ x=F x:=Eq.trans (b:=u2 (Awu x12) x) (by kernel_rfl) (by simp only[e12]<;>rfl)
noncomputable def c:Con:=⟨H.p,H.r,F⟩
theorem ok:ConOk P_ gl 179 c:=cr H func179 (.cons F183.ok (.cons F184.ok .nil)) (AnsOk.cons ent202 AnsOk.nil) rn
end F179
namespace F144
def Uy(j16:Int→Int32→Int→(List (Int×Int32×(Int×LX×LX×Unit)×Unit))→LX→Int→Int32→Int→LX→LX→Option (LX×Int))(j18:Int→Int→LX→Option (LX×Int))(f:LU)(a b g:Int)(h:List (Int×Int32×(Int×LX×LX×Unit)×Unit))(k:LX):Option (LX×Int):=
if(Ch g (Ac f))then
(getI f g).bind fun ag=>
(Hm (Be a 0)).bind fun _=>
(getI h (Ff g a)).bind fun _=>
both (
(getI h (Ff g a)).bind fun m=>
both (
(Wp ag).bind fun ae=>
(fun ao:Option (LX×Int)=>
bo (
ao)) (
(Kw m.1 m.2.1 m.2.2.1.1 m.2.2.1.2.1 m.2.2.1.2.2.1 ae).bind fun(w,y,v,aa,ab,ac,u)=>
j16 g w u h k y v aa ab ac)) [
(Wp ag).bind fun ae=>
(Kw m.1 m.2.1 m.2.2.1.1 m.2.2.1.2.1 m.2.2.1.2.2.1 ae).bind fun(w,y,v,aa,ab,ac,u)=>
j16 g w u h k y v aa ab ac]) [
(Wp ag).bind fun af=>
both (
(getI h (Ff g a)).bind fun ad=>
(fun ap:Option (LX×Int)=>
bo (
ap)) (
(Kw ad.1 ad.2.1 ad.2.2.1.1 ad.2.2.1.2.1 ad.2.2.1.2.2.1 af).bind fun(w,y,v,aa,ab,ac,u)=>
j16 g w u h k y v aa ab ac)) [
(getI h (Ff g a)).bind fun ad=>
(Kw ad.1 ad.2.1 ad.2.2.1.1 ad.2.2.1.2.1 ad.2.2.1.2.2.1 af).bind fun(w,y,v,aa,ab,ac,u)=>
j16 g w u h k y v aa ab ac],
both (
(getI h (Ff g a)).bind fun m=>
(Wp ag).bind fun ae=>
(Kw m.1 m.2.1 m.2.2.1.1 m.2.2.1.2.1 m.2.2.1.2.2.1 ae).bind fun(w,y,v,aa,ab,ac,u)=>
j16 g w u h k y v aa ab ac) [
(Wp ag).bind fun af=>
(getI h (Ff g a)).bind fun ad=>
(Kw ad.1 ad.2.1 ad.2.2.1.1 ad.2.2.1.2.1 ad.2.2.1.2.2.1 af).bind fun(w,y,v,aa,ab,ac,u)=>
j16 g w u h k y v aa ab ac]]
else
j18 a b k
theorem Aqj: @Uy= @Ln:=by
  unfold Uy Ln
  try simp only[Ane,Aca,Adr]
  all_goals
    repeat (refine funext fun _=>?_)
    repeat' first
      |with_reducible rfl
      |with_reducible refine Jw ?_ ?_
      |with_reducible refine Ke ?_ ?_ ?_
      |with_reducible refine Ju ?_ ?_ ?_ ?_
      |((with_reducible refine Ok ?_ ?_);focus (intro h;first|(subst h;rfl)|(simp only[h];rfl)|(simp[Cg,Ac,h];done)))
      |with_reducible refine Oa fun x=>?_
      |with_reducible refine Vp (fun _=>?_) (fun _=>?_)
      |(refine Fm (fun h=>by simp only[h,Oe,Dk,De,ite_self]) (fun x h=>?_);(try simp only[h,Dk]))
      |(refine Hj (fun h=>?_) (fun h=>?_)<;>simp only[h,if_true,if_false,Bool.false_eq_true])
abbrev R_:=(LX×Int)
abbrev K_:=S→Option R_
noncomputable def H:Hd:=⟨[.agg [Si,Si], .lf (.vec 16 (.int .i32)) none,Sv],[Ow 21,Si],(.seq .d (.seq .d (.cut [2,3,8] [] (.seq .d (.blk (.loop [2,3,4,8,20] [] .d))) (.seq .d (.cut [3,10] [] (.seq .d (.blk (.loop [3,8,10,33,34,35] [⟨10,[], .own 21 (.int .i32)⟩] (.seq .d (.seq .d (.seq (.blk (.seq .d (.seq .d (.cut [3,8,10,13,14,15,16,33,34,35] [] (.mode false) .d)))) .d)))))) .d))))),⟨[(63,F63.c),(157,F157.c),(177,F177.c),(178,F178.c),(179,F179.c)],gl,false⟩,[],f144⟩
def t13(f:LU)(a b g:Int)(h:List (Int×Int32×(Int×LX×LX×Unit)×Unit))(k:LX):S:=⟨[(3, .ptr 0 []),(8, .ptr 1 []),(10, .own 2),(33,vv f),(34,vi (Ac f)),(35,vi g)],[.box 74 (.agg [vi a,vi b]), .box 225 (.val (.vec 6 (.cons (.int .i64) (.cons (.int .i32) (.cons (.cons (.int .i64) (.cons (.vec 16 (.int .i32)) (.cons (.vec 16 (.int .i32)) .nil))) .nil)))) h),Aw 21 k],[]⟩
def z13:Nat→S→Option R_:=H.i P_ [r,r,r,r,l,r,d]
def t10(f:LU)(a b:Int)(o:LX)(p:Int)(n:List (Int×Int32×(Int×LX×LX×Unit)×Unit)):S:=⟨[(2,vv f),(3, .ptr 0 []),(4, .ptr 1 []),(8, .ptr 2 []),(20,vi p)],[.box 74 (.agg [vi a,vi b]), .box 136 (.val (.vec 16 (.int .i32)) o), .box 225 (.val (.vec 6 (.cons (.int .i64) (.cons (.int .i32) (.cons (.cons (.int .i64) (.cons (.vec 16 (.int .i32)) (.cons (.vec 16 (.int .i32)) .nil))) .nil)))) n)],[]⟩
def z10:Nat→S→Option R_:=H.i P_ [r,r,l,r,d]
def x18(a b:Int)(k:LX):Option R_:=H.e P_ [r,r,r,r,r] ⟨[(3, .ptr 0 []),(10, .own 1)],[.box 74 (.agg [vi a,vi b]),Aw 21 k],[]⟩
def x16(kn13:K_)(a:Int)(f:LU)(b g:Int)(w:Int32)(u:Int)(h:List (Int×Int32×(Int×LX×LX×Unit)×Unit))(k:LX)(y:Int)(v:Int32)(aa:Int)(ab ac:LX):Option R_:=H.e P_ [r,r,r,r,l,r,d,(lp kn13),r,r,l,d,r,r,r] ⟨[(3, .ptr 0 []),(8, .ptr 1 []),(10, .own 2),(13, .ptr 1 [.idx (Ff g a) 35]),(14,vx w),(15, .ptr 3 []),(16,vi u),(33,vv f),(34,vi (Ac f)),(35,vi g)],[.box 74 (.agg [vi a,vi b]), .box 225 (.val (.vec 6 (.cons (.int .i64) (.cons (.int .i32) (.cons (.cons (.int .i64) (.cons (.vec 16 (.int .i32)) (.cons (.vec 16 (.int .i32)) .nil))) .nil)))) h),Aw 21 k, .box 224 (.agg [vi y,vx v, .agg [vi aa, .val (.vec 16 (.int .i32)) ab, .val (.vec 16 (.int .i32)) ac]])],[]⟩
def x13(f:LU)(a b g:Int)(h:List (Int×Int32×(Int×LX×LX×Unit)×Unit))(k:LX):Option R_:=H.e P_ [r,r,r,r,l,r,d] (t13 f a b g h k)
def x12(f:LU)(a b:Int)(n:List (Int×Int32×(Int×LX×LX×Unit)×Unit)):Option R_:=H.e P_ [r,r,r] ⟨[(2,vv f),(3, .ptr 0 []),(8, .ptr 1 [])],[.box 74 (.agg [vi a,vi b]), .box 225 (.val (.vec 6 (.cons (.int .i64) (.cons (.int .i32) (.cons (.cons (.int .i64) (.cons (.vec 16 (.int .i32)) (.cons (.vec 16 (.int .i32)) .nil))) .nil)))) n)],[]⟩
def x10(f:LU)(a b:Int)(o:LX)(p:Int)(n:List (Int×Int32×(Int×LX×LX×Unit)×Unit)):Option R_:=H.e P_ [r,r,l,r,d] (t10 f a b o p n)
theorem e18:x18=Lm:=by kernel_rfl
theorem e16(kn13:K_)(f:LU)(a b:Int):x16 kn13 a f b=Xj (fun g h k=>kn13 (t13 f a b g h k)) a f b:=by kernel_rfl
theorem i13(f:LU)(a b:Int):∀(q:Nat) (g:Int) (h:List (Int×Int32×(Int×LX×LX×Unit)×Unit)) (k:LX),z13 q (t13 f a b g h k)=If f a b q g h k:=
 ind (fun _ _ _=>by kernel_rfl) fun q ih g h k=>Eq.trans (b:=Uy (x16 (z13 q) a f b) x18 f a b g h k) (by kernel_rfl) (by rw[Aqj];simp only[e16,e18,ih]<;>rfl)
theorem e13:x13=Aiw:=by funext f a b g h k;exact Eq.trans (by kernel_rfl) ((i13 f a b Ct g h k).trans (by rw[Aq];rfl))
theorem e12:x12=Xh:=Eq.trans (b:=Ai5 x13) (by kernel_rfl) (by simp only[e13]<;>rfl)
theorem i10(f:LU)(a b:Int)(o:LX):∀(q:Nat) (p:Int) (n:List (Int×Int32×(Int×LX×LX×Unit)×Unit)),z10 q (t10 f a b o p n)=Xa f a b o q p n:=
 ind (fun _ _=>by kernel_rfl) fun q ih p n=>Eq.trans (b:=Ai0 x12 (fun p n=>(z10 q) (t10 f a b o p n)) f a b o p n) (by kernel_rfl) (by simp only[e12,ih]<;>rfl)
theorem e10:x10=Pv:=by funext f a b o p n;exact Eq.trans (by kernel_rfl) ((i10 f a b o Ct p n).trans (by rw[Aq];rfl))
noncomputable def F:=u4 So
theorem rn x:H.u P_ x=F x:=Eq.trans (b:=u4 (Zp x10) x) (by kernel_rfl) (by simp only[e10]<;>rfl)
noncomputable def c:Con:=⟨H.p,H.r,F⟩
theorem ok:ConOk P_ gl 144 c:=co H func144 (.cons F63.ok (.cons F157.ok (.cons F177.ok (.cons F178.ok (.cons F179.ok .nil))))) rn
end F144
namespace F104
noncomputable def H:Hd:=⟨[.agg [Si,Si], .lf (.vec 16 (.int .i32)) none,Si,Sb],[Ow 21,Si], .d,⟨[(139,F139.c),(140,F140.c),(141,F141.c),(142,F142.c),(143,F143.c),(144,F144.c)],gl,false⟩,[],f104⟩
noncomputable def F:=u5 deframe_Decode
theorem rn x:H.u P_ x=F x:=by kernel_rfl
noncomputable def c:Con:=⟨H.p,H.r,F⟩
theorem ok:ConOk P_ gl 104 c:=co H func104 (.cons F139.ok (.cons F140.ok (.cons F141.ok (.cons F142.ok (.cons F143.ok (.cons F144.ok .nil)))))) rn
end F104
namespace F19
abbrev R_:=(LB×Int)
abbrev K_:=S→Option R_
noncomputable def H:Hd:=⟨[Si,Sw],[Ob 5,Si],(.seq .d (.seq .d (.seq .d (.cut [7] [] (.seq .d (.blk (.loop [0,7,17,18,19] [⟨7,[], .own 5 (.int .u8)⟩] (.seq .d (.seq .d (.cut [0,7,17,18,19] [] (.blk (.seq .d (.cut [0,7,9,17,18,19] [] .d (.seq .d (.blk (.loop [0,7,9,17,18,19,28,29] [] .d)))))) .d)))))) .d)))),⟨[(63,F63.c)],gl,false⟩,[],f19⟩
def t26(b:Int)(a:LX)(k:Int32)(f m:Int)(h:LB):S:=⟨[(0,vi b),(7, .own 0),(9,vx k),(17,vw a),(18,vi (Ac a)),(19,vi f),(28,vi (Bg b (8:Int))),(29,vi m)],[Ab 5 h],[]⟩
def z26(kn16:K_):Nat→S→Option R_:=H.i P_ [r,r,r,l,r,d,(lp kn16),r,r,l,d,r,r,r,d]
def t16(b:Int)(a:LX)(f:Int)(g:LB):S:=⟨[(0,vi b),(7, .own 0),(17,vw a),(18,vi (Ac a)),(19,vi f)],[Ab 5 g],[]⟩
def z16:Nat→S→Option R_:=H.i P_ [r,r,r,l,r,d]
def x30(g:LB):Option R_:=H.e P_ [r,r,r,r] ⟨[(7, .own 0)],[Ab 5 g],[]⟩
def x28(kn16:K_)(b:Int)(a:LX)(f:Int)(h:LB):Option R_:=H.e P_ [r,r,r,l,r,d,(lp kn16),r,r,r] ⟨[(0,vi b),(7, .own 0),(17,vw a),(18,vi (Ac a)),(19,vi f)],[Ab 5 h],[]⟩
def x26(kn16:K_)(b:Int)(a:LX)(k:Int32)(f m:Int)(h:LB):Option R_:=H.e P_ [r,r,r,l,r,d,(lp kn16),r,r,l,d,r,r,r,d] (t26 b a k f m h)
def x25(kn16:K_)(b:Int)(a:LX)(f:Int)(g:LB)(k:Int32):Option R_:=H.e P_ [r,r,r,l,r,d,(lp kn16),r,r,l,d,r,r] ⟨[(0,vi b),(7, .own 0),(9,vx k),(17,vw a),(18,vi (Ac a)),(19,vi f)],[Ab 5 g],[]⟩
def x16(b:Int)(a:LX)(f:Int)(g:LB):Option R_:=H.e P_ [r,r,r,l,r,d] (t16 b a f g)
theorem e30:x30=As3:=by kernel_rfl
theorem e28(kn16:K_)(b:Int)(a:LX):x28 kn16 b a=Aia (fun f g=>kn16 (t16 b a f g)) b a:=by kernel_rfl
theorem i26(kn16:K_)(b:Int)(a:LX)(k:Int32)(f:Int):∀(q:Nat) (m:Int) (h:LB),z26 kn16 q (t26 b a k f m h)=Ih (fun f g=>kn16 (t16 b a f g)) b a k f q m h:=
 ind (fun _ _=>by kernel_rfl) fun q ih m h=>Eq.trans (b:=Yo (x28 kn16 b a) (fun m h=>(z26 kn16 q) (t26 b a k f m h)) b a k f m h) (by kernel_rfl) (by simp only[e28,ih]<;>rfl)
theorem e26(kn16:K_)(b:Int)(a:LX):x26 kn16 b a=Ah8 (fun f g=>kn16 (t16 b a f g)) b a:=by funext k f m h;exact Eq.trans (by kernel_rfl) ((i26 kn16 b a k f Ct m h).trans (by rw[Aq];rfl))
theorem e25(kn16:K_)(b:Int)(a:LX):x25 kn16 b a=Kx (fun f g=>kn16 (t16 b a f g)) b a:=Eq.trans (b:=Ah4 (x26 kn16 b a) b a) (by kernel_rfl) (by simp only[e26]<;>rfl)
theorem i16(b:Int)(a:LX):∀(q:Nat) (f:Int) (g:LB),z16 q (t16 b a f g)=Fu b a q f g:=
 ind (fun _ _=>by kernel_rfl) fun q ih f g=>Eq.trans (b:=Yu (x25 (z16 q) b a) x30 b a f g) (by kernel_rfl) (by simp only[e25,e30,ih]<;>rfl)
theorem e16:x16=Asv:=by funext b a f g;exact Eq.trans (by kernel_rfl) ((i16 b a Ct f g).trans (by rw[Aq];rfl))
noncomputable def F:=u2 width_Bytes
theorem rn x:H.u P_ x=F x:=Eq.trans (b:=u2 (Akb x16) x) (by kernel_rfl) (by simp only[e16]<;>rfl)
noncomputable def c:Con:=⟨H.p,H.r,F⟩
theorem ok:ConOk P_ gl 19 c:=co H func19 (.cons F63.ok .nil) rn
end F19
namespace F12
abbrev R_:=(LB×Int)
noncomputable def H:Hd:=⟨[Sb,Ss,Si],[Ob 5,Si],(.seq .d (.cut [2,8,9,11] [] (.keep [0,1,2,8,9,11,12,13,14,15,16,17,18,19] true) (.seq .d (.seq .d (.cut [6,7] [⟨6,[], .own 5 (.int .u8)⟩] (.keep [2,6,7,8,30,31,32,33,34] true) .d))))),⟨[(11,F11.c),(19,F19.c),(49,F49.c),(85,F85.c),(102,F102.c),(104,F104.c)],gl,false⟩,[(51, .d),(103,(.seq .d (.cut [0,3,4,5,6,10,11] [] .d (.seq .d (.cut [4,12,13] [] .d .d)))))],f12⟩
def x6(a ac:Int):Option R_:=H.e P_ [r,r] ⟨[(2,vi a),(8, .cst .nilFunc),(9,vi 0),(11,vi ac)],[],[]⟩
def x10(ad:Int)(ae:LB):Option R_:=H.e P_ [r,r,r,r,r] ⟨[(6, .own 0),(7,vi ad)],[Ab 5 ae],[]⟩
def x9(w a h b:Int)(aa:LX)(n o p k:Int)(m:LB)(u:LX)(v f g:LI):Option R_:=H.e P_ [r,r,r,r,l,(call 2 103),r,r,r,r] ⟨[(4, .ptr 0 []),(12, .own 1),(13,vi w)],[.box 74 (.agg [vi h,vi b]),Aw 21 aa, .box 35 (.agg [.agg [vi n,vi h,vi b,vi o,vi p],vi k, .own 7]), .box 33 (.own 8), .box 27 (vb m), .box 136 (.val (.vec 16 (.int .i32)) u), .box 33 (.own 9),Ai 3 v,Ai 3 f,Ai 3 g],[[(2,vi a),(8, .fn 103 [.ptr 2 [], .ptr 3 [], .ptr 4 [], .ptr 0 [], .ptr 5 [], .ptr 6 []]),(30, .fn 103 [.ptr 2 [], .ptr 3 [], .ptr 4 [], .ptr 0 [], .ptr 5 [], .ptr 6 []]),(31,vi a)]]⟩
def x8(a k ab y:Int)(m:LB)(h b:Int)(u:LX)(n o p:Int)(g v f:LI):Option R_:=H.e P_ [r,r,r,r,l,(call 2 103),r,r] ⟨[(0,vi a),(3, .ptr 0 []),(4, .ptr 1 []),(5, .ptr 2 []),(6, .ptr 3 []),(10,vi (Ad k ab)),(11,vi (Ad k y))],[.box 27 (vb m), .box 74 (.agg [vi h,vi b]), .box 136 (.val (.vec 16 (.int .i32)) u), .box 33 (.own 6), .box 35 (.agg [.agg [vi n,vi h,vi b,vi o,vi p],vi k, .own 7]), .box 33 (.own 8),Ai 3 g,Ai 3 v,Ai 3 f],[[(2,vi a),(8, .fn 103 [.ptr 4 [], .ptr 5 [], .ptr 0 [], .ptr 1 [], .ptr 2 [], .ptr 3 []]),(30, .fn 103 [.ptr 4 [], .ptr 5 [], .ptr 0 [], .ptr 1 [], .ptr 2 [], .ptr 3 []]),(31,vi a)]]⟩
def x7(a:Int)(g:LI)(n h b o p k:Int)(m:LB)(u:LX)(v f:LI):Option R_:=H.e P_ [r,r] ⟨[(2,vi a),(8, .fn 103 [.ptr 0 [], .ptr 1 [], .ptr 2 [], .ptr 3 [], .ptr 4 [], .ptr 5 []]),(9,vi (Ac g)),(11,vi 0)],[.box 35 (.agg [.agg [vi n,vi h,vi b,vi o,vi p],vi k, .own 6]), .box 33 (.own 7), .box 27 (vb m), .box 74 (.agg [vi h,vi b]), .box 136 (.val (.vec 16 (.int .i32)) u), .box 33 (.own 8),Ai 3 v,Ai 3 f,Ai 3 g],[]⟩
theorem e6:x6=Ata:=by kernel_rfl
theorem e10:x10=Ae2:=by kernel_rfl
theorem e9:x9=Aib:=Eq.trans (b:=Ain x10) (by kernel_rfl) (by simp only[e10]<;>rfl)
theorem e8:x8=Aie:=Eq.trans (b:=Ah2 x10 x9) (by kernel_rfl) (by simp only[e10,e9]<;>rfl)
theorem e7:x7=Sk:=Eq.trans (b:=Ah6 x8) (by kernel_rfl) (by simp only[e8]<;>rfl)
noncomputable def F:=u3 Wj
theorem rn x:H.u P_ x=F x:=Eq.trans (b:=u3 (Ail x6 x7) x) (by kernel_rfl) (by simp only[e6,e7]<;>rfl)
noncomputable def c:Con:=⟨H.p,H.r,F⟩
theorem ok:ConOk P_ gl 12 c:=cr H func12 (.cons F11.ok (.cons F19.ok (.cons F49.ok (.cons F85.ok (.cons F102.ok (.cons F104.ok .nil)))))) (AnsOk.cons ent51 (AnsOk.cons ent103 AnsOk.nil)) rn
end F12
namespace F114
abbrev R_:=(LX×Int)
abbrev K_:=S→Option R_
noncomputable def H:Hd:=⟨[Si,Sb],[Ow 21,Si],(.seq .d (.seq .d (.seq .d (.seq .d (.seq .d (.seq .d (.cut [10] [] (.seq .d (.blk (.loop [0,1,9,10,11] [⟨10,[], .own 21 (.int .i32)⟩] (.seq .d (.cut [0,1,9,10,11] [] (.blk (.seq .d (.seq .d (.cut [0,1,9,10,11,12] [] (.seq .d (.blk (.loop [0,1,9,10,11,12,53,54] [] .d))) .d)))) .d))))) .d))))))),⟨[(113,F113.c)],gl,false⟩,[],f114⟩
def t25(a:Int)(b:LB)(f:Int)(g:LX)(h:Int32)(k:Int):S:=⟨[(0,vi a),(1,vb b),(9,vi (Bg a (8:Int))),(10, .own 0),(11,vi f),(12,vx h),(53,vi (Bg a (8:Int))),(54,vi k)],[Aw 21 g],[]⟩
def z25(kn16:K_):Nat→S→Option R_:=H.i P_ [r,r,r,r,r,r,l,r,d,(lp kn16),r,l,d,r,r,l,r,d]
def t16(a:Int)(b:LB)(f:Int)(g:LX):S:=⟨[(0,vi a),(1,vb b),(9,vi (Bg a (8:Int))),(10, .own 0),(11,vi f)],[Aw 21 g],[]⟩
def z16:Nat→S→Option R_:=H.i P_ [r,r,r,r,r,r,l,r,d]
def x30(g:LX):Option R_:=H.e P_ [r,r,r,r,r,r,r] ⟨[(10, .own 0)],[Aw 21 g],[]⟩
def x28(kn16:K_)(a:Int)(b:LB)(f:Int)(m:LX):Option R_:=H.e P_ [r,r,r,r,r,r,l,r,d,(lp kn16),r,r] ⟨[(0,vi a),(1,vb b),(9,vi (Bg a (8:Int))),(10, .own 0),(11,vi f)],[Aw 21 m],[]⟩
def x27(kn16:K_)(a:Int)(b:LB)(f:Int)(h:Int32)(g:LX):Option R_:=H.e P_ [r,r,r,r,r,r,l,r,d,(lp kn16),r,l,d,r,r,r] ⟨[(0,vi a),(1,vb b),(9,vi (Bg a (8:Int))),(10, .own 0),(11,vi f),(12,vx h)],[Aw 21 g],[]⟩
def x25(kn16:K_)(a:Int)(b:LB)(f:Int)(g:LX)(h:Int32)(k:Int):Option R_:=H.e P_ [r,r,r,r,r,r,l,r,d,(lp kn16),r,l,d,r,r,l,r,d] (t25 a b f g h k)
def x16(a:Int)(b:LB)(f:Int)(g:LX):Option R_:=H.e P_ [r,r,r,r,r,r,l,r,d] (t16 a b f g)
theorem e30:x30=Ano:=by kernel_rfl
theorem e28(kn16:K_)(a:Int)(b:LB):x28 kn16 a b=Hs (fun f g=>kn16 (t16 a b f g)) a b:=by kernel_rfl
theorem e27(kn16:K_)(a:Int)(b:LB):x27 kn16 a b=Uk (fun f g=>kn16 (t16 a b f g)) a b:=Eq.trans (b:=Ue (x28 kn16 a b) a b) (by kernel_rfl) (by simp only[e28]<;>rfl)
theorem i25(kn16:K_)(a:Int)(b:LB)(f:Int)(g:LX):∀(q:Nat) (h:Int32) (k:Int),z25 kn16 q (t25 a b f g h k)=Dt (fun f g=>kn16 (t16 a b f g)) a b f g q h k:=
 ind (fun _ _=>by kernel_rfl) fun q ih h k=>Eq.trans (b:=Ey (x27 kn16 a b) (fun h k=>(z25 kn16 q) (t25 a b f g h k)) a b f g h k) (by kernel_rfl) (by simp only[e27,ih]<;>rfl)
theorem e25(kn16:K_)(a:Int)(b:LB):x25 kn16 a b=Kr (fun f g=>kn16 (t16 a b f g)) a b:=by funext f g h k;exact Eq.trans (by kernel_rfl) ((i25 kn16 a b f g Ct h k).trans (by rw[Aq];rfl))
theorem i16(a:Int)(b:LB):∀(q:Nat) (f:Int) (g:LX),z16 q (t16 a b f g)=Dg a b q f g:=
 ind (fun _ _=>by kernel_rfl) fun q ih f g=>Eq.trans (b:=Ev (x28 (z16 q) a b) (x25 (z16 q) a b) x30 a b f g) (by kernel_rfl) (by simp only[e28,e25,e30,ih]<;>rfl)
theorem e16:x16=Ac9:=by funext a b f g;exact Eq.trans (by kernel_rfl) ((i16 a b Ct f g).trans (by rw[Aq];rfl))
noncomputable def F:=u2 Te
theorem rn x:H.u P_ x=F x:=Eq.trans (b:=u2 (Afd x16) x) (by kernel_rfl) (by simp only[e16]<;>rfl)
noncomputable def c:Con:=⟨H.p,H.r,F⟩
theorem ok:ConOk P_ gl 114 c:=co H func114 (.cons F113.ok .nil) rn
end F114
namespace F22
abbrev R_:=(LI×Int)
abbrev K_:=S→Option R_
noncomputable def H:Hd:=⟨[Sb,Ss],[Ol 3,Si],(.seq .d (.seq .d (.cut [6,8] [⟨6,[], .own 3 (.int .i64)⟩] (.keep [0,1,6,7,8,9,10,11,12,13,14,15] true) .d))),⟨[(11,F11.c),(12,F12.c),(49,F49.c),(114,F114.c)],gl,false⟩,[(67,(.seq .d (.seq .d (.seq .d (.seq .d (.seq .d (.cut [6,8] [] (.seq .d (.blk (.loop [0,1,2,6,8,37,38,39] [⟨2,[0], .own 3 (.int .i64)⟩] (.seq .d (.seq .d (.cut [0,1,2,6,8,37,38,39] [] (.blk (.seq .d (.seq .d (.seq .d (.cut [0,1,2,6,8,11,12,14,15,37,38,39] [⟨15,[], .own 21 (.int .i32)⟩] .d (.cut [0,1,2,6,8,16,37,38,39] [] (.keep [0,1,2,6,8,11,12,14,15,16,37,38,39,65,66,67,68,69,70,71] true) .d)))))) .d)))))) .d))))))),(68, .d)],f22⟩
def t14(a b:LB)(f:LI)(h k g m n o:Int)(p:LI)(u:Int)(v:LI):S:=⟨[(0,vb a),(1,vs b),(2, .fn 68 [.ptr 0 []]),(6, .ptr 1 []),(8, .ptr 2 []),(37, .own 3),(38,vi (Ac f)),(39,vi u)],[.box 33 (.own 4), .box 32 (.agg [vi 0,vi 0,vi 0,vi 0,vi 0]), .box 35 (.agg [.agg [vi h,vi k,vi g,vi m,vi n],vi o, .own 5]),Ai 3 f,Ai 3 v,Ai 3 p],[[(0,vb a),(1,vs b),(6, .ptr 0 []),(10,vb a),(11,vs b),(12, .fn 68 [.ptr 0 []])]]⟩
def z14:Nat→S→Option R_:=H.i P_ [r,r,l,(call 3 67),r,r,r,r,r,l,r,d]
def x26(ab:Int)(ac:LI):Option R_:=H.e P_ [r,r,r] ⟨[(6, .ptr 0 []),(8,vi ab)],[.box 33 (.own 1),Ai 3 ac],[]⟩
def x25(a b:LB)(h k g m n o:Int)(p v:LI):Option R_:=H.e P_ [r,r,l,(call 3 67),r,r,r,r,r,r] ⟨[(6, .ptr 0 []),(8, .ptr 1 [])],[.box 32 (.agg [vi 0,vi 0,vi 0,vi 0,vi 0]), .box 35 (.agg [.agg [vi h,vi k,vi g,vi m,vi n],vi o, .own 3]), .box 33 (.own 4),Ai 3 p,Ai 3 v],[[(0,vb a),(1,vs b),(6, .ptr 2 []),(10,vb a),(11,vs b),(12, .fn 68 [.ptr 2 []])]]⟩
def x23(kn14:K_)(a b:LB)(f:LI)(h k g m n o:Int)(p:LI)(u:Int)(w:LI):Option R_:=H.e P_ [r,r,l,(call 3 67),r,r,r,r,r,l,r,d,(lp kn14),r,r,r] ⟨[(0,vb a),(1,vs b),(2, .fn 68 [.ptr 0 []]),(6, .ptr 1 []),(8, .ptr 2 []),(37, .own 3),(38,vi (Ac f)),(39,vi u)],[.box 33 (.own 4), .box 32 (.agg [vi 0,vi 0,vi 0,vi 0,vi 0]), .box 35 (.agg [.agg [vi h,vi k,vi g,vi m,vi n],vi o, .own 5]),Ai 3 f,Ai 3 w,Ai 3 p],[[(0,vb a),(1,vs b),(6, .ptr 0 []),(10,vb a),(11,vs b),(12, .fn 68 [.ptr 0 []])]]⟩
def x22(kn14:K_)(a b:LB)(f:LI)(h k g m n o:Int)(p:LI)(u:Int)(w:LI):Option R_:=H.e P_ [r,r,l,(call 3 67),r,r,r,r,r,l,r,d,(lp kn14),r,r,l,d,r,r,r,r,r] ⟨[(0,vb a),(1,vs b),(2, .fn 68 [.ptr 0 []]),(6, .ptr 1 []),(8, .ptr 2 []),(16,vi 0),(37, .own 3),(38,vi (Ac f)),(39,vi u)],[.box 33 (.own 4), .box 32 (.agg [vi 0,vi 0,vi 0,vi 0,vi 0]), .box 35 (.agg [.agg [vi h,vi k,vi g,vi m,vi n],vi o, .own 5]),Ai 3 f,Ai 3 w,Ai 3 p],[[(0,vb a),(1,vs b),(6, .ptr 0 []),(10,vb a),(11,vs b),(12, .fn 68 [.ptr 0 []])]]⟩
def x21(kn14:K_)(a b:LB)(f:LI)(h k g m n o:Int)(p:LI)(u aa y:Int)(v:LI)(ad:LX):Option R_:=H.e P_ [r,r,l,(call 3 67),r,r,r,r,r,l,r,d,(lp kn14),r,r,l,d,r,r,r,r] ⟨[(0,vb a),(1,vs b),(2, .fn 68 [.ptr 0 []]),(6, .ptr 1 []),(8, .ptr 2 []),(11,vi u),(12,vi aa),(14,vi y),(15, .own 3),(37, .own 4),(38,vi (Ac f)),(39,vi u)],[.box 33 (.own 5), .box 32 (.agg [vi 0,vi 0,vi 0,vi 0,vi 0]), .box 35 (.agg [.agg [vi h,vi k,vi g,vi m,vi n],vi o, .own 6]),Aw 21 ad,Ai 3 f,Ai 3 v,Ai 3 p],[[(0,vb a),(1,vs b),(6, .ptr 0 []),(10,vb a),(11,vs b),(12, .fn 68 [.ptr 0 []])]]⟩
def x14(a b:LB)(f:LI)(h k g m n o:Int)(p:LI)(u:Int)(v:LI):Option R_:=H.e P_ [r,r,l,(call 3 67),r,r,r,r,r,l,r,d] (t14 a b f h k g m n o p u v)
theorem e26:x26=Qc:=by kernel_rfl
theorem e25:x25=Akk:=Eq.trans (b:=Akd x26) (by kernel_rfl) (by simp only[e26]<;>rfl)
theorem e23(kn14:K_)(a b:LB)(f:LI)(h k g m n o:Int)(p:LI):x23 kn14 a b f h k g m n o p=Al0 (fun u v=>kn14 (t14 a b f h k g m n o p u v)) a b f h k g m n o p:=by kernel_rfl
theorem e22(kn14:K_)(a b:LB)(f:LI)(h k g m n o:Int)(p:LI):x22 kn14 a b f h k g m n o p=Ads (fun u v=>kn14 (t14 a b f h k g m n o p u v)) a b f h k g m n o p:=Eq.trans (b:=Ak9 x26 (x23 kn14 a b f h k g m n o p) a b f h k g m n o p) (by kernel_rfl) (by simp only[e26,e23]<;>rfl)
theorem e21(kn14:K_)(a b:LB)(f:LI)(h k g m n o:Int)(p:LI):x21 kn14 a b f h k g m n o p=Abo (fun u v=>kn14 (t14 a b f h k g m n o p u v)) a b f h k g m n o p:=Eq.trans (b:=Adj (x22 kn14 a b f h k g m n o p) a b f h k g m n o p) (by kernel_rfl) (by simp only[e22]<;>rfl)
theorem i14(a b:LB)(f:LI)(h k g m n o:Int)(p:LI):∀(q:Nat) (u:Int) (v:LI),z14 q (t14 a b f h k g m n o p u v)=Mt a b f h k g m n o p q u v:=
 ind (fun _ _=>by kernel_rfl) fun q ih u v=>Eq.trans (b:=Acz x26 (x21 (z14 q) a b f h k g m n o p) x25 a b f h k g m n o p u v) (by kernel_rfl) (by simp only[e26,e21,e25,ih]<;>rfl)
theorem e14:x14=Avb:=by funext a b f h k g m n o p u v;exact Eq.trans (by kernel_rfl) ((i14 a b f h k g m n o p Ct u v).trans (by rw[Aq];rfl))
noncomputable def F:=u2 Wa
theorem rn x:H.u P_ x=F x:=Eq.trans (b:=u2 (Ao9 x26 x14) x) (by kernel_rfl) (by simp only[e26,e14]<;>rfl)
noncomputable def c:Con:=⟨H.p,H.r,F⟩
theorem ok:ConOk P_ gl 22 c:=cr H func22 (.cons F11.ok (.cons F12.ok (.cons F49.ok (.cons F114.ok .nil)))) (AnsOk.cons ent67 (AnsOk.cons ent68 AnsOk.nil)) rn
end F22
namespace F56
noncomputable def H:Hd:=⟨[Sb],[.agg [.agg [Si,Si,Si,Si,Si], .agg [Si,Si,Si,Si,Si],Ol 3],Si], .d,⟨[(46,Af6),(47,F47.c),(49,F49.c)],gl,false⟩,[],f56⟩
noncomputable def F:=Bea
theorem rn x:H.u P_ x=F x:=by kernel_rfl
noncomputable def c:Con:=⟨H.p,H.r,F⟩
theorem ok:ConOk P_ gl 56 c:=co H func56 (.cons Auz (.cons F47.ok (.cons F49.ok .nil))) rn
end F56
namespace F106
abbrev R_:=(Int×Int)
noncomputable def H:Hd:=⟨[Sb],[Si,Si],(.seq .d (.seq .d (.cut [0,4] [] .d .d))),⟨[(100,F100.c),(145,F145.c),(146,F146.c),(147,F147.c)],gl,false⟩,[],f106⟩
def x2(a:LB):Option R_:=H.e P_ [r,r,r] ⟨[(0,vb a),(4,vi (Ah (Ac a) (32:Int)))],[],[]⟩
theorem e2:x2=Avg:=by kernel_rfl
noncomputable def F:=Bao
theorem rn x:H.u P_ x=F x:=Eq.trans (b:=At5 x2 x) (by kernel_rfl) (by simp only[e2]<;>rfl)
noncomputable def c:Con:=⟨H.p,H.r,F⟩
theorem ok:ConOk P_ gl 106 c:=co H func106 (.cons F100.ok (.cons F145.ok (.cons F146.ok (.cons F147.ok .nil)))) rn
end F106
namespace F52
abbrev R_:=(Int×Int)
abbrev K_:=S→Option R_
noncomputable def H:Hd:=⟨[Sb],[Si,Si],(.seq .d (.seq .d (.seq .d (.seq .d (.cut [5] [] (.blk (.loop [1,4,5] [] (.seq .d (.cut [1,4,5] [] (.blk (.cut [1,4,5,6] [] (.keep [1,4,5,6,16,17] true) .d)) .d)))) .d))))),⟨[(106,F106.c)],gl,false⟩,[(105, .d)],f52⟩
def t8(a:Int)(b:LB):S:=⟨[(1, .ptr 0 []),(4, .fn 105 [.ptr 0 []]),(5,vi a)],[.box 27 (vb b)],[]⟩
def z8:Nat→S→Option R_:=H.i P_ [r,r,r,r,l,d]
def x14(a:Int):Option R_:=H.e P_ [r,r,r,r,r] ⟨[(5,vi a)],[],[]⟩
def x12(kn8:K_)(a:Int)(g:LB):Option R_:=H.e P_ [r,r,r,r,l,d,(lp kn8),r,r] ⟨[(1, .ptr 0 []),(4, .fn 105 [.ptr 0 []]),(5,vi a)],[.box 27 (vb g)],[]⟩
def x11(kn8:K_)(a f:Int)(b:LB):Option R_:=H.e P_ [r,r,r,r,l,d,(lp kn8),r,l,d,r] ⟨[(1, .ptr 0 []),(4, .fn 105 [.ptr 0 []]),(5,vi a),(6,vi f)],[.box 27 (vb b)],[]⟩
def x8(a:Int)(b:LB):Option R_:=H.e P_ [r,r,r,r,l,d] (t8 a b)
theorem e14:x14=Aqa:=by kernel_rfl
theorem e12(kn8:K_):x12 kn8=Afs (fun a b=>kn8 (t8 a b)):=by kernel_rfl
theorem e11(kn8:K_):x11 kn8=Afe (fun a b=>kn8 (t8 a b)):=Eq.trans (b:=Aft (x12 kn8)) (by kernel_rfl) (by simp only[e12]<;>rfl)
theorem i8:∀(q:Nat) (a:Int) (b:LB),z8 q (t8 a b)=Sm q a b:=
 ind (fun _ _=>by kernel_rfl) fun q ih a b=>Eq.trans (b:=Aij (x11 (z8 q)) x14 a b) (by kernel_rfl) (by simp only[e11,e14,ih]<;>rfl)
theorem e8:x8=Asw:=by funext a b;exact Eq.trans (by kernel_rfl) ((i8 Ct a b).trans (by rw[Aq];rfl))
noncomputable def F:=Ajd
theorem rn x:H.u P_ x=F x:=Eq.trans (b:=Aif x8 x) (by kernel_rfl) (by simp only[e8]<;>rfl)
noncomputable def c:Con:=⟨H.p,H.r,F⟩
theorem ok:ConOk P_ gl 52 c:=cr H func52 (.cons F106.ok .nil) (AnsOk.cons ent105 AnsOk.nil) rn
end F52
namespace F69
abbrev R_:=(Int×Int×Int×LX×Int)
abbrev K_:=S→Option R_
noncomputable def H:Hd:=⟨[Sb,Ss],[.agg [Si,Si,Si,Ow 21],Si],(.seq .d (.seq .d (.seq .d (.seq .d (.cut [0,1,4,6] [] (.cut [0,1,4,6,8] [] (.keep [0,1,4,6,8,34,35,36] true) .d) (.cut [0,1,4,6,7,9] [⟨9,[], .own 3 (.int .i64)⟩] (.keep [0,1,4,6,7,9,41,42,43,44,45] true) (.seq .d (.seq .d (.seq .d (.seq .d (.seq .d (.cut [0,4,10,14] [] (.seq .d (.blk (.loop [0,4,6,10,11,12,14,75,76,77] [⟨10,[3], .own 21 (.int .i32)⟩] (.seq .d (.seq .d (.seq (.blk (.seq .d (.seq .d (.cut [0,4,6,10,11,12,14,16,17,18,75,76,77] [] .d .d)))) .d)))))) .d)))))))))))),⟨[(48,F48.c),(50,F50.c),(52,F52.c),(56,F56.c),(85,F85.c),(104,F104.c)],gl,false⟩,[(57,(.seq .d (.seq .d (.cut [0,6,7] [] .d (.seq .d (.seq .d (.seq .d (.cut [6] [] (.seq .d (.blk (.loop [0,6,60,61,62] [] .d))) .d)))))))),(115, .d)],f69⟩
def t21(a:LB)(w:LI)(m b f h o p n g y ab:Int)(ac:LX)(k:LI)(aa ae:Int)(ad:LX):S:=⟨[(0,vb a),(4, .ptr 0 []),(6, .ptr 1 []),(10, .ptr 2 []),(11, .ptr 3 []),(12, .ptr 4 []),(14,vi aa),(75, .own 5),(76,vi (Ac w)),(77,vi ae)],[.box 24 (.agg [vi 0,vi 0,vi 0, .nils]), .box 102 (.agg [.agg [vi m,vi b,vi f,vi h,vi o], .agg [vi p,vi n,vi g,vi y,vi ab], .own 6]), .box 24 (.agg [vi b,vi f,vi h, .own 7]), .box 74 (.agg [vi b,vi f]), .box 136 (.val (.vec 16 (.int .i32)) ac),Ai 3 w,Ai 3 k,Aw 21 ad],[]⟩
def z21:Nat→S→Option R_:=H.i P_ [r,r,r,r,r,r,r,r,r,r,r,l,r,d]
def t17(v:LI)(a u:LB)(m b f h o p n g:Int)(k:LI)(ag af:Int):S:=⟨[(0, .ptr 0 []),(6, .own 1),(60, .own 1),(61,vi (Ac v)),(62,vi ag)],[.box 102 (.agg [.agg [vi m,vi b,vi f,vi h,vi o], .agg [vi p,vi n,vi g,vi (Ad (Ad g (Ar (4:Int) (Ac v))) (4:Int)),vi af], .own 3]),Ai 3 v, .box 24 (.agg [vi 0,vi 0,vi 0, .nils]),Ai 3 k],[[(0,vb a),(1,vs u),(4, .ptr 2 []),(6, .ptr 0 []),(42,vb a)]]⟩
def z17:Nat→S→Option R_:=H.i P_ [r,r,r,r,r,l,(call 1 57),r,r,r,r,r,r,l,r,d]
def x26(a:LB)(aa b f h:Int)(ad:LX):Option R_:=H.e P_ [r,r,r,r,r,r,r,r,r,r,r,r] ⟨[(0,vb a),(4, .ptr 0 []),(10, .ptr 1 []),(14,vi aa)],[.box 24 (.agg [vi 0,vi 0,vi 0, .nils]), .box 24 (.agg [vi b,vi f,vi h, .own 2]),Aw 21 ad],[]⟩
def x24(kn21:K_)(a:LB)(w:LI)(m b f h o p n g y ab:Int)(ac:LX)(k:LI)(aa aj ak ae:Int)(am ad:LX):Option R_:=H.e P_ [r,r,r,r,r,r,r,r,r,r,r,l,r,d,(lp kn21),r,r,l,d,r,r,r] ⟨[(0,vb a),(4, .ptr 0 []),(6, .ptr 1 []),(10, .ptr 2 []),(11, .ptr 3 []),(12, .ptr 4 []),(14,vi aa),(16,vi aj),(17, .own 5),(18,vi ak),(75, .own 6),(76,vi (Ac w)),(77,vi ae)],[.box 24 (.agg [vi 0,vi 0,vi 0, .nils]), .box 102 (.agg [.agg [vi m,vi b,vi f,vi h,vi o], .agg [vi p,vi n,vi g,vi y,vi ab], .own 7]), .box 24 (.agg [vi b,vi f,vi h, .own 8]), .box 74 (.agg [vi b,vi f]), .box 136 (.val (.vec 16 (.int .i32)) ac),Aw 21 am,Ai 3 w,Ai 3 k,Aw 21 ad],[]⟩
def x21(a:LB)(w:LI)(m b f h o p n g y ab:Int)(ac:LX)(k:LI)(aa ae:Int)(ad:LX):Option R_:=H.e P_ [r,r,r,r,r,r,r,r,r,r,r,l,r,d] (t21 a w m b f h o p n g y ab ac k aa ae ad)
def x20(a u:LB)(m b f h o p n g:Int)(k:LI)(an y ab:Int)(w:LI):Option R_:=H.e P_ [r,r,r,r,r,r] ⟨[(0,vb a),(1,vs u),(4, .ptr 0 []),(6, .ptr 1 []),(7,vi an),(9, .own 2)],[.box 24 (.agg [vi 0,vi 0,vi 0, .nils]), .box 102 (.agg [.agg [vi m,vi b,vi f,vi h,vi o], .agg [vi p,vi n,vi g,vi y,vi ab], .own 3]),Ai 3 w,Ai 3 k],[]⟩
def x19(a u:LB)(v:LI)(m b f h o p n g af:Int)(k:LI):Option R_:=H.e P_ [r,r,r,r,r,l,(call 1 57),r,r,r,r,r,r,r] ⟨[(6, .own 0)],[Ai 3 v, .box 24 (.agg [vi 0,vi 0,vi 0, .nils]), .box 102 (.agg [.agg [vi m,vi b,vi f,vi h,vi o], .agg [vi p,vi n,vi g,vi (Ad (Ad g (Ar (4:Int) (Ac v))) (4:Int)),vi af], .own 3]),Ai 3 k],[[(0,vb a),(1,vs u),(4, .ptr 1 []),(6, .ptr 2 []),(42,vb a)]]⟩
def x17(v:LI)(a u:LB)(m b f h o p n g:Int)(k:LI)(ag af:Int):Option R_:=H.e P_ [r,r,r,r,r,l,(call 1 57),r,r,r,r,r,r,l,r,d] (t17 v a u m b f h o p n g k ag af)
def x16(al:Int)(a u:LB)(m b f h o p n g ah ai:Int)(v k:LI):Option R_:=H.e P_ [r,r,r,r,r,l,(call 1 57),r,r,r] ⟨[(0, .ptr 0 []),(6, .own 1),(7,vi al)],[.box 102 (.agg [.agg [vi m,vi b,vi f,vi h,vi o], .agg [vi p,vi n,vi g,vi ah,vi ai], .own 3]),Ai 3 v, .box 24 (.agg [vi 0,vi 0,vi 0, .nils]),Ai 3 k],[[(0,vb a),(1,vs u),(4, .ptr 2 []),(6, .ptr 0 []),(42,vb a)]]⟩
def x15(a u:LB)(m b f h o p n g ah ai:Int)(k:LI):Option R_:=H.e P_ [r,r,r,r,r] ⟨[(0,vb a),(1,vs u),(4, .ptr 0 []),(6, .ptr 1 [])],[.box 24 (.agg [vi 0,vi 0,vi 0, .nils]), .box 102 (.agg [.agg [vi m,vi b,vi f,vi h,vi o], .agg [vi p,vi n,vi g,vi ah,vi ai], .own 2]),Ai 3 k],[]⟩
def x14(a u:LB)(m b f h o p n g ah ai:Int)(k:LI)(ao:Int):Option R_:=H.e P_ [r,r,r,r,l,r] ⟨[(0,vb a),(1,vs u),(4, .ptr 0 []),(6, .ptr 1 []),(8,vi ao)],[.box 24 (.agg [vi 0,vi 0,vi 0, .nils]), .box 102 (.agg [.agg [vi m,vi b,vi f,vi h,vi o], .agg [vi p,vi n,vi g,vi ah,vi ai], .own 2]),Ai 3 k],[]⟩
theorem e26:x26=Ame:=by kernel_rfl
theorem e24(kn21:K_)(a:LB)(w:LI)(m b f h o p n g y ab:Int)(ac:LX)(k:LI):x24 kn21 a w m b f h o p n g y ab ac k=Akc (fun aa ae ad=>kn21 (t21 a w m b f h o p n g y ab ac k aa ae ad)) a w m b f h o p n g y ab ac k:=by kernel_rfl
theorem i21(a:LB)(w:LI)(m b f h o p n g y ab:Int)(ac:LX)(k:LI):∀(q:Nat) (aa ae:Int) (ad:LX),z21 q (t21 a w m b f h o p n g y ab ac k aa ae ad)=Qs a w m b f h o p n g y ab ac k q aa ae ad:=
 ind (fun _ _ _=>by kernel_rfl) fun q ih aa ae ad=>Eq.trans (b:=Acj (x24 (z21 q) a w m b f h o p n g y ab ac k) x26 a w m b f h o p n g y ab ac k aa ae ad) (by kernel_rfl) (by simp only[e24,e26,ih]<;>rfl)
theorem e21:x21=Awn:=by funext a w m b f h o p n g y ab ac k aa ae ad;exact Eq.trans (by kernel_rfl) ((i21 a w m b f h o p n g y ab ac k Ct aa ae ad).trans (by rw[Aq];rfl))
theorem e20:x20=Ad1:=Eq.trans (b:=Av0 x21) (by kernel_rfl) (by simp only[e21]<;>rfl)
theorem e19:x19=Au3:=Eq.trans (b:=Awr x20) (by kernel_rfl) (by simp only[e20]<;>rfl)
theorem i17(v:LI)(a u:LB)(m b f h o p n g:Int)(k:LI):∀(q:Nat) (ag af:Int),z17 q (t17 v a u m b f h o p n g k ag af)=Akv v a u m b f h o p n g k q ag af:=
 ind (fun _ _=>by kernel_rfl) fun q ih ag af=>Eq.trans (b:=Av9 x19 (fun ag af=>(z17 q) (t17 v a u m b f h o p n g k ag af)) v a u m b f h o p n g k ag af) (by kernel_rfl) (by simp only[e19,ih]<;>rfl)
theorem e17:x17=Auc:=by funext v a u m b f h o p n g k ag af;exact Eq.trans (by kernel_rfl) ((i17 v a u m b f h o p n g k Ct ag af).trans (by rw[Aq];rfl))
theorem e16:x16=Aur:=Eq.trans (b:=Avp x20 x17) (by kernel_rfl) (by simp only[e20,e17]<;>rfl)
theorem e15:x15=Avx:=Eq.trans (b:=Aug x20 x16) (by kernel_rfl) (by simp only[e20,e16]<;>rfl)
theorem e14:x14=Awe:=Eq.trans (b:=Avi x15) (by kernel_rfl) (by simp only[e15]<;>rfl)
noncomputable def F:=u2 Bgz
theorem rn x:H.u P_ x=F x:=Eq.trans (b:=u2 (Ayl x14) x) (by kernel_rfl) (by simp only[e14]<;>rfl)
noncomputable def c:Con:=⟨H.p,H.r,F⟩
theorem ok:ConOk P_ gl 69 c:=cr H func69 (.cons F48.ok (.cons F50.ok (.cons F52.ok (.cons F56.ok (.cons F85.ok (.cons F104.ok .nil)))))) (AnsOk.cons ent57 (AnsOk.cons ent115 AnsOk.nil)) rn
end F69
namespace F116
noncomputable def H:Hd:=⟨[.agg [Si,Si],Si],[Si], .d,⟨[(139,F139.c)],gl,false⟩,[],f116⟩
noncomputable def F:=u3 Apa
theorem rn x:H.u P_ x=F x:=by kernel_rfl
noncomputable def c:Con:=⟨H.p,H.r,F⟩
theorem ok:ConOk P_ gl 116 c:=co H func116 (.cons F139.ok .nil) rn
end F116
namespace F71
noncomputable def H:Hd:=⟨[.agg [Si,Si],Si],[Ow 21,Si], .d,⟨[(116,F116.c)],gl,false⟩,[],f71⟩
noncomputable def F:=u3 Yx
theorem rn x:H.u P_ x=F x:=by kernel_rfl
noncomputable def c:Con:=⟨H.p,H.r,F⟩
theorem ok:ConOk P_ gl 71 c:=co H func71 (.cons F116.ok .nil) rn
end F71
namespace F23
def Za(a b h ak:Int)(an:LI)(ah:LX):Option (Int×Int×Int×LX×LI×Int):=
if(Be ak 0)then
some (0,0,0,([]:LX),([]:LI),ak)
else
if(geq (Ac ah) 0)then
some (0,0,0,([]:LX),([]:LI),6)
else
both (
bo (
some (a,b,h,ah,an,0))) [
some (a,b,h,ah,an,0)]
theorem Atu: @Za= @Uf:=by
  unfold Za Uf
  repeat (refine funext fun _=>?_)
  repeat' first
    |with_reducible rfl
    |with_reducible refine Jw ?_ ?_
    |with_reducible refine Ke ?_ ?_ ?_
    |with_reducible refine Ju ?_ ?_ ?_ ?_
    |((with_reducible refine Ok ?_ ?_);focus (intro h;first|(subst h;rfl)|(simp only[h];rfl)|(simp[Cg,Ac,h];done)))
    |with_reducible refine Oa fun x=>?_
    |with_reducible refine Vp (fun _=>?_) (fun _=>?_)
    |(refine Fm (fun h=>by simp only[h,Oe,Dk,De,ite_self]) (fun x h=>?_);(try simp only[h,Dk]))
    |(refine Hj (fun h=>?_) (fun h=>?_)<;>simp only[h,if_true,if_false,Bool.false_eq_true])
abbrev R_:=(Int×Int×Int×LX×LI×Int)
abbrev K_:=S→Option R_
noncomputable def H:Hd:=⟨[Sb,Ss,Si],[.agg [Si,Si,Si,Ow 21],Ol 3,Si],(.seq .d (.seq .d (.seq .d (.seq .d (.seq .d (.seq .d (.seq .d (.cut [6,12,14,15] [⟨14,[], .own 3 (.int .i64)⟩,⟨15,[3], .own 21 (.int .i32)⟩] (.keep [0,1,5,6,12,13,14,15,60,61,62,63,64,66] true) (.seq .d (.seq .d (.seq (.mode false) .d))))))))))),⟨[(11,F11.c),(12,F12.c),(49,F49.c),(69,F69.c),(71,F71.c),(114,F114.c)],gl,false⟩,[(67,(.seq .d (.seq .d (.seq .d (.seq .d (.seq .d (.cut [6,8] [] (.seq .d (.blk (.loop [0,1,2,6,8,37,38,39] [⟨2,[0], .own 3 (.int .i64)⟩,⟨2,[3,3], .own 21 (.int .i32)⟩] (.seq .d (.seq .d (.cut [0,1,2,6,8,37,38,39] [] (.blk (.seq .d (.seq .d (.seq .d (.cut [0,1,2,6,8,11,12,14,15,37,38,39] [⟨15,[], .own 21 (.int .i32)⟩] .d (.cut [0,1,2,6,8,16,37,38,39] [] (.keep [0,1,2,6,8,11,12,14,15,16,37,38,39,65,66,67,68,69,70,71] true) .d)))))) .d)))))) .d))))))),(70,(.seq .d (.cut [2,7] [] .d .d)))],f23⟩
def t21(f g:LB)(k:LI)(n m a b h p u o v w y:Int)(aa:LI)(ab:Int)(ad:LI)(ac:LX):S:=⟨[(0,vb f),(1,vs g),(2, .fn 70 [.ptr 0 [], .ptr 1 [], .ptr 2 [], .ptr 3 []]),(6, .ptr 4 []),(8, .ptr 5 []),(37, .own 6),(38,vi (Ac k)),(39,vi ab)],[.box 33 (.own 8), .box 3 (vi m), .box 74 (.agg [vi a,vi b]), .box 24 (.agg [vi a,vi b,vi h, .own 9]), .box 32 (.agg [vi 0,vi 0,vi 0,vi 0,vi 0]), .box 35 (.agg [.agg [vi p,vi u,vi o,vi v,vi w],vi y, .own 10]),Ai 3 k, .box 24 (.agg [vi 0,vi 0,vi 0, .nils]),Ai 3 ad,Aw 21 ac,Ai 3 aa],[[(0,vb f),(1,vs g),(5, .ptr 1 []),(6, .ptr 7 []),(12,vi n),(13, .ptr 2 []),(14, .ptr 0 []),(15, .ptr 3 []),(61,vb f),(62,vs g),(63, .fn 70 [.ptr 0 [], .ptr 1 [], .ptr 2 [], .ptr 3 []])]]⟩
def z21:Nat→S→Option R_:=H.i P_ [r,r,r,r,r,r,r,l,(call 3 67),r,r,r,r,r,l,r,d]
def x40(a b h ak:Int)(an:LI)(ah:LX):Option R_:=H.e P_ [r,r,r,r,r,r,r,r] ⟨[(6, .ptr 0 []),(12,vi ak),(14, .ptr 1 []),(15, .ptr 2 [])],[.box 24 (.agg [vi 0,vi 0,vi 0, .nils]), .box 33 (.own 3), .box 24 (.agg [vi a,vi b,vi h, .own 4]),Ai 3 an,Aw 21 ah],[]⟩
def x39(f g:LB)(n p u o v w y m a b h:Int)(aa ad:LI)(ac:LX):Option R_:=H.e P_ [r,r,r,r,r,r,r,l,(call 3 67),r,r,r,r,r,r] ⟨[(6, .ptr 0 []),(8, .ptr 1 [])],[.box 32 (.agg [vi 0,vi 0,vi 0,vi 0,vi 0]), .box 35 (.agg [.agg [vi p,vi u,vi o,vi v,vi w],vi y, .own 7]), .box 3 (vi m), .box 24 (.agg [vi 0,vi 0,vi 0, .nils]), .box 74 (.agg [vi a,vi b]), .box 33 (.own 8), .box 24 (.agg [vi a,vi b,vi h, .own 9]),Ai 3 aa,Ai 3 ad,Aw 21 ac],[[(0,vb f),(1,vs g),(5, .ptr 2 []),(6, .ptr 3 []),(12,vi n),(13, .ptr 4 []),(14, .ptr 5 []),(15, .ptr 6 []),(61,vb f),(62,vs g),(63, .fn 70 [.ptr 5 [], .ptr 2 [], .ptr 4 [], .ptr 6 []])]]⟩
def x37(kn21:K_)(f g:LB)(k:LI)(n m a b h p u o v w y:Int)(aa:LI)(ab:Int)(ai:LI)(aj:LX):Option R_:=H.e P_ [r,r,r,r,r,r,r,l,(call 3 67),r,r,r,r,r,l,r,d,(lp kn21),r,r,r] ⟨[(0,vb f),(1,vs g),(2, .fn 70 [.ptr 0 [], .ptr 1 [], .ptr 2 [], .ptr 3 []]),(6, .ptr 4 []),(8, .ptr 5 []),(37, .own 6),(38,vi (Ac k)),(39,vi ab)],[.box 33 (.own 8), .box 3 (vi m), .box 74 (.agg [vi a,vi b]), .box 24 (.agg [vi a,vi b,vi h, .own 9]), .box 32 (.agg [vi 0,vi 0,vi 0,vi 0,vi 0]), .box 35 (.agg [.agg [vi p,vi u,vi o,vi v,vi w],vi y, .own 10]),Ai 3 k, .box 24 (.agg [vi 0,vi 0,vi 0, .nils]),Ai 3 ai,Aw 21 aj,Ai 3 aa],[[(0,vb f),(1,vs g),(5, .ptr 1 []),(6, .ptr 7 []),(12,vi n),(13, .ptr 2 []),(14, .ptr 0 []),(15, .ptr 3 []),(61,vb f),(62,vs g),(63, .fn 70 [.ptr 0 [], .ptr 1 [], .ptr 2 [], .ptr 3 []])]]⟩
def x36(kn21:K_)(f g:LB)(k:LI)(n m a b h p u o v w y:Int)(aa:LI)(ab ao:Int)(ai:LI)(aj:LX):Option R_:=H.e P_ [r,r,r,r,r,r,r,l,(call 3 67),r,r,r,r,r,l,r,d,(lp kn21),r,r,l,d,r,r,r,r,r] ⟨[(0,vb f),(1,vs g),(2, .fn 70 [.ptr 0 [], .ptr 1 [], .ptr 2 [], .ptr 3 []]),(6, .ptr 4 []),(8, .ptr 5 []),(16,vi ao),(37, .own 6),(38,vi (Ac k)),(39,vi ab)],[.box 33 (.own 8), .box 3 (vi m), .box 74 (.agg [vi a,vi b]), .box 24 (.agg [vi a,vi b,vi h, .own 9]), .box 32 (.agg [vi 0,vi 0,vi 0,vi 0,vi 0]), .box 35 (.agg [.agg [vi p,vi u,vi o,vi v,vi w],vi y, .own 10]),Ai 3 k, .box 24 (.agg [vi 0,vi 0,vi 0, .nils]),Ai 3 ai,Aw 21 aj,Ai 3 aa],[[(0,vb f),(1,vs g),(5, .ptr 1 []),(6, .ptr 7 []),(12,vi n),(13, .ptr 2 []),(14, .ptr 0 []),(15, .ptr 3 []),(61,vb f),(62,vs g),(63, .fn 70 [.ptr 0 [], .ptr 1 [], .ptr 2 [], .ptr 3 []])]]⟩
def x34(kn21:K_)(f g:LB)(k:LI)(n a b h m p u o v w y:Int)(aa:LI)(ab af ae:Int)(al ag ac:LX)(am:LI):Option R_:=H.e P_ [r,r,r,r,r,r,r,l,(call 3 67),r,r,r,r,r,l,r,d,(lp kn21),r,r,l,d,r,r,r,r,l,(call 6 70),r,r] ⟨[(2, .own 0),(7, .ptr 1 [])],[Aw 21 al, .box 24 (.agg [vi a,vi b,vi h, .own 10]), .box 33 (.own 11), .box 3 (vi m), .box 74 (.agg [vi a,vi b]), .box 32 (.agg [vi 0,vi 0,vi 0,vi 0,vi 0]), .box 35 (.agg [.agg [vi p,vi u,vi o,vi v,vi w],vi y, .own 12]),Aw 21 ag,Ai 3 k, .box 24 (.agg [vi 0,vi 0,vi 0, .nils]),Aw 21 ac,Ai 3 am,Ai 3 aa],[[(0,vb f),(1,vs g),(2, .fn 70 [.ptr 2 [], .ptr 3 [], .ptr 4 [], .ptr 1 []]),(6, .ptr 5 []),(8, .ptr 6 []),(11,vi ab),(12,vi af),(14,vi ae),(15, .own 7),(37, .own 8),(38,vi (Ac k)),(39,vi ab),(65, .fn 70 [.ptr 2 [], .ptr 3 [], .ptr 4 [], .ptr 1 []]),(66,vi ab),(67,vi af),(68, .own 7),(69,vi ae),(70,vt (geq ae (0:Int)))],[(0,vb f),(1,vs g),(5, .ptr 3 []),(6, .ptr 9 []),(12,vi n),(13, .ptr 4 []),(14, .ptr 2 []),(15, .ptr 1 []),(61,vb f),(62,vs g),(63, .fn 70 [.ptr 2 [], .ptr 3 [], .ptr 4 [], .ptr 1 []])]]⟩
def x35(kn21:K_)(f g:LB)(k:LI)(n a b h m p u o v w y:Int)(aa:LI)(ab af ae:Int)(ag ac:LX)(ap:LI):Option R_:=H.e P_ [r,r,r,r,r,r,r,l,(call 3 67),r,r,r,r,r,l,r,d,(lp kn21),r,r,l,d,r,r,r,r,l,(call 6 70),r,r] ⟨[(2, .own 0),(7, .ptr 1 [])],[Aw 21 ag, .box 24 (.agg [vi a,vi b,vi h, .own 9]), .box 33 (.own 10), .box 3 (vi m), .box 74 (.agg [vi a,vi b]), .box 32 (.agg [vi 0,vi 0,vi 0,vi 0,vi 0]), .box 35 (.agg [.agg [vi p,vi u,vi o,vi v,vi w],vi y, .own 11]),Ai 3 k, .box 24 (.agg [vi 0,vi 0,vi 0, .nils]),Aw 21 ac,Ai 3 ap,Ai 3 aa],[[(0,vb f),(1,vs g),(2, .fn 70 [.ptr 2 [], .ptr 3 [], .ptr 4 [], .ptr 1 []]),(6, .ptr 5 []),(8, .ptr 6 []),(11,vi ab),(12,vi af),(14,vi ae),(15, .own 0),(37, .own 7),(38,vi (Ac k)),(39,vi ab),(65, .fn 70 [.ptr 2 [], .ptr 3 [], .ptr 4 [], .ptr 1 []]),(66,vi ab),(67,vi af),(68, .own 0),(69,vi ae),(70,vt (geq ae (0:Int)))],[(0,vb f),(1,vs g),(5, .ptr 3 []),(6, .ptr 8 []),(12,vi n),(13, .ptr 4 []),(14, .ptr 2 []),(15, .ptr 1 []),(61,vb f),(62,vs g),(63, .fn 70 [.ptr 2 [], .ptr 3 [], .ptr 4 [], .ptr 1 []])]]⟩
def x33(kn21:K_)(f g:LB)(k:LI)(n m a b h p u o v w y:Int)(aa:LI)(ab af ae:Int)(ad:LI)(ac ag:LX):Option R_:=H.e P_ [r,r,r,r,r,r,r,l,(call 3 67),r,r,r,r,r,l,r,d,(lp kn21),r,r,l,d,r,r,r,r] ⟨[(0,vb f),(1,vs g),(2, .fn 70 [.ptr 0 [], .ptr 1 [], .ptr 2 [], .ptr 3 []]),(6, .ptr 4 []),(8, .ptr 5 []),(11,vi ab),(12,vi af),(14,vi ae),(15, .own 6),(37, .own 7),(38,vi (Ac k)),(39,vi ab)],[.box 33 (.own 9), .box 3 (vi m), .box 74 (.agg [vi a,vi b]), .box 24 (.agg [vi a,vi b,vi h, .own 10]), .box 32 (.agg [vi 0,vi 0,vi 0,vi 0,vi 0]), .box 35 (.agg [.agg [vi p,vi u,vi o,vi v,vi w],vi y, .own 11]),Aw 21 ag,Ai 3 k, .box 24 (.agg [vi 0,vi 0,vi 0, .nils]),Ai 3 ad,Aw 21 ac,Ai 3 aa],[[(0,vb f),(1,vs g),(5, .ptr 1 []),(6, .ptr 8 []),(12,vi n),(13, .ptr 2 []),(14, .ptr 0 []),(15, .ptr 3 []),(61,vb f),(62,vs g),(63, .fn 70 [.ptr 0 [], .ptr 1 [], .ptr 2 [], .ptr 3 []])]]⟩
def x21(f g:LB)(k:LI)(n m a b h p u o v w y:Int)(aa:LI)(ab:Int)(ad:LI)(ac:LX):Option R_:=H.e P_ [r,r,r,r,r,r,r,l,(call 3 67),r,r,r,r,r,l,r,d] (t21 f g k n m a b h p u o v w y aa ab ad ac)
theorem e40:x40=Gl:=Eq.trans (b:=Za) (by kernel_rfl) (by rw[Atu];rfl)
theorem e39:x39=Ani:=Eq.trans (b:=Amw x40) (by kernel_rfl) (by simp only[e40]<;>rfl)
theorem e37(kn21:K_)(f g:LB)(k:LI)(n m a b h p u o v w y:Int)(aa:LI):x37 kn21 f g k n m a b h p u o v w y aa=Ab9 (fun ab ad ac=>kn21 (t21 f g k n m a b h p u o v w y aa ab ad ac)) f g k n m a b h p u o v w y aa:=by kernel_rfl
theorem e36(kn21:K_)(f g:LB)(k:LI)(n m a b h p u o v w y:Int)(aa:LI):x36 kn21 f g k n m a b h p u o v w y aa=Ku (fun ab ad ac=>kn21 (t21 f g k n m a b h p u o v w y aa ab ad ac)) f g k n m a b h p u o v w y aa:=Eq.trans (b:=Adx x40 (x37 kn21 f g k n m a b h p u o v w y aa) f g k n m a b h p u o v w y aa) (by kernel_rfl) (by simp only[e40,e37]<;>rfl)
theorem e34(kn21:K_)(f g:LB)(k:LI)(n m a b h p u o v w y:Int)(aa:LI):x34 kn21 f g k n a b h m p u o v w y aa=Aby (fun ab ad ac=>kn21 (t21 f g k n m a b h p u o v w y aa ab ad ac)) f g k n a b h m p u o v w y aa:=Eq.trans (b:=Abz (x36 kn21 f g k n m a b h p u o v w y aa) f g k n a b h m p u o v w y aa) (by kernel_rfl) (by simp only[e36]<;>rfl)
theorem e35(kn21:K_)(f g:LB)(k:LI)(n m a b h p u o v w y:Int)(aa:LI):x35 kn21 f g k n a b h m p u o v w y aa=Uo (fun ab ad ac=>kn21 (t21 f g k n m a b h p u o v w y aa ab ad ac)) f g k n a b h m p u o v w y aa:=Eq.trans (b:=Um (x36 kn21 f g k n m a b h p u o v w y aa) f g k n a b h m p u o v w y aa) (by kernel_rfl) (by simp only[e36]<;>rfl)
theorem e33(kn21:K_)(f g:LB)(k:LI)(n m a b h p u o v w y:Int)(aa:LI):x33 kn21 f g k n m a b h p u o v w y aa=Ul (fun ab ad ac=>kn21 (t21 f g k n m a b h p u o v w y aa ab ad ac)) f g k n m a b h p u o v w y aa:=Eq.trans (b:=Un (x36 kn21 f g k n m a b h p u o v w y aa) (x34 kn21 f g k n a b h m p u o v w y aa) (x35 kn21 f g k n a b h m p u o v w y aa) f g k n m a b h p u o v w y aa) (by kernel_rfl) (by simp only[e36,e34,e35]<;>rfl)
theorem i21(f g:LB)(k:LI)(n m a b h p u o v w y:Int)(aa:LI):∀(q:Nat) (ab:Int) (ad:LI) (ac:LX),z21 q (t21 f g k n m a b h p u o v w y aa ab ad ac)=Hv f g k n m a b h p u o v w y aa q ab ad ac:=
 ind (fun _ _ _=>by kernel_rfl) fun q ih ab ad ac=>Eq.trans (b:=Up x40 (x33 (z21 q) f g k n m a b h p u o v w y aa) x39 f g k n m a b h p u o v w y aa ab ad ac) (by kernel_rfl) (by simp only[e40,e33,e39,ih]<;>rfl)
theorem e21:x21=Acm:=by funext f g k n m a b h p u o v w y aa ab ad ac;exact Eq.trans (by kernel_rfl) ((i21 f g k n m a b h p u o v w y aa Ct ab ad ac).trans (by rw[Aq];rfl))
noncomputable def F:=u3 Fs
theorem rn x:H.u P_ x=F x:=Eq.trans (b:=u3 (Ae1 x40 x21) x) (by kernel_rfl) (by simp only[e40,e21]<;>rfl)
noncomputable def c:Con:=⟨H.p,H.r,F⟩
theorem ok:ConOk P_ gl 23 c:=cr H func23 (.cons F11.ok (.cons F12.ok (.cons F49.ok (.cons F69.ok (.cons F71.ok (.cons F114.ok .nil)))))) (AnsOk.cons ent67 (AnsOk.cons ent70 AnsOk.nil)) rn
end F23
namespace F24
abbrev R_:=Bool
noncomputable def H:Hd:=⟨[Sl,Sl],[Sz],(.seq .d (.seq .d (.cut [] [] (.seq .d (.blk (.loop [0,1,5] [] .d))) .d))),⟨[],gl,false⟩,[],f24⟩
def t4(a b:LI)(f:Int):S:=⟨[(0,vl a),(1,vl b),(5,vi f)],[],[]⟩
def z4:Nat→S→Option R_:=H.i P_ [r,r,l,r,d]
def x6:Option R_:=H.e P_ [r,r,r] ⟨[],[],[]⟩
def x4(a b:LI)(f:Int):Option R_:=H.e P_ [r,r,l,r,d] (t4 a b f)
theorem e6:x6=Xy:=by kernel_rfl
theorem i4(a b:LI):∀(q:Nat) (f:Int),z4 q (t4 a b f)=Ei a b q f:=
 ind (fun _=>by kernel_rfl) fun q ih f=>Eq.trans (b:=Jr x6 (fun f=>(z4 q) (t4 a b f)) a b f) (by kernel_rfl) (by simp only[e6,ih]<;>rfl)
theorem e4:x4=Xv:=by funext a b f;exact Eq.trans (by kernel_rfl) ((i4 a b Ct f).trans (by rw[Aq];rfl))
noncomputable def F:=u2 Ap
theorem rn x:H.u P_ x=F x:=Eq.trans (b:=u2 (Ou x4) x) (by kernel_rfl) (by simp only[e4]<;>rfl)
noncomputable def c:Con:=⟨H.p,H.r,F⟩
theorem ok:ConOk P_ gl 24 c:=co H func24 .nil rn
end F24
namespace F72
abbrev R_:=Bool
noncomputable def H:Hd:=⟨[Sw,Sw],[Sz],(.seq .d (.seq .d (.cut [] [] (.seq .d (.blk (.loop [0,1,5] [] .d))) .d))),⟨[],gl,false⟩,[],f72⟩
def t4(a b:LX)(f:Int):S:=⟨[(0,vw a),(1,vw b),(5,vi f)],[],[]⟩
def z4:Nat→S→Option R_:=H.i P_ [r,r,l,r,d]
def x6:Option R_:=H.e P_ [r,r,r] ⟨[],[],[]⟩
def x4(a b:LX)(f:Int):Option R_:=H.e P_ [r,r,l,r,d] (t4 a b f)
theorem e6:x6=Age:=by kernel_rfl
theorem i4(a b:LX):∀(q:Nat) (f:Int),z4 q (t4 a b f)=Hg a b q f:=
 ind (fun _=>by kernel_rfl) fun q ih f=>Eq.trans (b:=Of x6 (fun f=>(z4 q) (t4 a b f)) a b f) (by kernel_rfl) (by simp only[e6,ih]<;>rfl)
theorem e4:x4=Ahu:=by funext a b f;exact Eq.trans (by kernel_rfl) ((i4 a b Ct f).trans (by rw[Aq];rfl))
noncomputable def F:=u2 Uj
theorem rn x:H.u P_ x=F x:=Eq.trans (b:=u2 (Vj x4) x) (by kernel_rfl) (by simp only[e4]<;>rfl)
noncomputable def c:Con:=⟨H.p,H.r,F⟩
theorem ok:ConOk P_ gl 72 c:=co H func72 .nil rn
end F72
namespace F25
noncomputable def H:Hd:=⟨[.agg [Si,Si,Si,Sw], .agg [Si,Si,Si,Sw]],[Sz], .d,⟨[(72,F72.c)],gl,false⟩,[],f25⟩
noncomputable def F:=u8 Bj
theorem rn x:H.u P_ x=F x:=by kernel_rfl
noncomputable def c:Con:=⟨H.p,H.r,F⟩
theorem ok:ConOk P_ gl 25 c:=co H func25 (.cons F72.ok .nil) rn
end F25
namespace F66
noncomputable def H:Hd:=⟨[Sb,Si,Sl,Sw],[Sz], .d,⟨[(23,F23.c),(24,F24.c),(25,F25.c)],gl,false⟩,[],f66⟩
noncomputable def F:=u4 Cv
theorem rn x:H.u P_ x=F x:=by kernel_rfl
noncomputable def c:Con:=⟨H.p,H.r,F⟩
theorem ok:ConOk P_ gl 66 c:=co H func66 (.cons F23.ok (.cons F24.ok (.cons F25.ok .nil))) rn
end F66
namespace F21
noncomputable def H:Hd:=⟨[],[Sz], .d,⟨[(22,F22.c),(23,F23.c),(24,F24.c),(65,F65.c),(66,F66.c)],gl,false⟩,[],f21⟩
noncomputable def F(x:Unit):=Rf
theorem rn x:H.u P_ x=F x:=by kernel_rfl
noncomputable def c:Con:=⟨H.p,H.r,F⟩
theorem ok:ConOk P_ gl 21 c:=co H func21 (.cons F22.ok (.cons F23.ok (.cons F24.ok (.cons F65.ok (.cons F66.ok .nil))))) rn
end F21
namespace F36
noncomputable def H:Hd:=⟨[.agg [Si,Si,Si,Sw]],[.agg [Si,Si]], .d,⟨[],gl,false⟩,[],f36⟩
noncomputable def F:=u4 Gy
theorem rn x:H.u P_ x=F x:=by kernel_rfl
noncomputable def c:Con:=⟨H.p,H.r,F⟩
theorem ok:ConOk P_ gl 36 c:=co H func36 .nil rn
end F36
namespace F119
noncomputable def H:Hd:=⟨[Si],[Si], .d,⟨[],gl,false⟩,[],f119⟩
noncomputable def F:=Gg
theorem rn x:H.u P_ x=F x:=by kernel_rfl
noncomputable def c:Con:=⟨H.p,H.r,F⟩
theorem ok:ConOk P_ gl 119 c:=co H func119 .nil rn
end F119
namespace F80
noncomputable def H:Hd:=⟨[.agg [Si,Si]],[Si], .d,⟨[(119,F119.c)],gl,false⟩,[],f80⟩
noncomputable def F:=u2 Ck
theorem rn x:H.u P_ x=F x:=by kernel_rfl
noncomputable def c:Con:=⟨H.p,H.r,F⟩
theorem ok:ConOk P_ gl 80 c:=co H func80 (.cons F119.ok .nil) rn
end F80
namespace F81
abbrev R_:=Int
noncomputable def H:Hd:=⟨[Si,Sw],[Si],(.seq .d (.seq .d (.seq .d (.seq .d (.cut [] [] (.seq .d (.blk (.loop [1,5,6] [] .d))) .d))))),⟨[(119,F119.c)],gl,false⟩,[],f81⟩
def t4(a:LX)(b f:Int):S:=⟨[(1,vw a),(5,vi b),(6,vi f)],[],[]⟩
def z4:Nat→S→Option R_:=H.i P_ [r,r,r,r,l,r,d]
def x6:Option R_:=H.e P_ [r,r,r,r,r] ⟨[],[],[]⟩
def x4(a:LX)(b f:Int):Option R_:=H.e P_ [r,r,r,r,l,r,d] (t4 a b f)
theorem e6:x6=Aem:=by kernel_rfl
theorem i4(a:LX)(b:Int):∀(q:Nat) (f:Int),z4 q (t4 a b f)=As a b q f:=
 ind (fun _=>by kernel_rfl) fun q ih f=>Eq.trans (b:=Cd x6 (fun f=>(z4 q) (t4 a b f)) a b f) (by kernel_rfl) (by simp only[e6,ih]<;>rfl)
theorem e4:x4=Aer:=by funext a b f;exact Eq.trans (by kernel_rfl) ((i4 a b Ct f).trans (by rw[Aq];rfl))
noncomputable def F:=u2 cadenzaref18_Check
theorem rn x:H.u P_ x=F x:=Eq.trans (b:=u2 (Cx x4) x) (by kernel_rfl) (by simp only[e4]<;>rfl)
noncomputable def c:Con:=⟨H.p,H.r,F⟩
theorem ok:ConOk P_ gl 81 c:=co H func81 (.cons F119.ok .nil) rn
end F81
namespace F35
noncomputable def H:Hd:=⟨[.agg [Si,Si],Sw],[Si], .d,⟨[(80,F80.c),(81,F81.c)],gl,false⟩,[],f35⟩
noncomputable def F:=u3 Bw
theorem rn x:H.u P_ x=F x:=by kernel_rfl
noncomputable def c:Con:=⟨H.p,H.r,F⟩
theorem ok:ConOk P_ gl 35 c:=co H func35 (.cons F80.ok (.cons F81.ok .nil)) rn
end F35
namespace F82
noncomputable def H:Hd:=⟨[.agg [Si,Si],Si],[Si], .d,⟨[(80,F80.c)],gl,false⟩,[],f82⟩
noncomputable def F:=u3 Cw
theorem rn x:H.u P_ x=F x:=by kernel_rfl
noncomputable def c:Con:=⟨H.p,H.r,F⟩
theorem ok:ConOk P_ gl 82 c:=co H func82 (.cons F80.ok .nil) rn
end F82
namespace F153
noncomputable def H:Hd:=⟨[Si],[Si,Si], .d,⟨[],gl,false⟩,[],f153⟩
noncomputable def F:=Oh
theorem rn x:H.u P_ x=F x:=by kernel_rfl
noncomputable def c:Con:=⟨H.p,H.r,F⟩
theorem ok:ConOk P_ gl 153 c:=co H func153 .nil rn
end F153
namespace F120
abbrev R_:=(LI×Int)
noncomputable def H:Hd:=⟨[Si,Si],[Ol 3,Si],(.seq .d (.seq .d (.seq .d (.seq .d (.cut [8] [] (.blk (.loop [1,6,8] [⟨8,[], .own 3 (.int .i64)⟩] .d)) .d))))),⟨[(153,F153.c)],gl,false⟩,[],f120⟩
def t4(b f:Int)(a:LI):S:=⟨[(1,vi f),(6,vi b),(8, .own 0)],[Ai 3 a],[]⟩
def z4:Nat→S→Option R_:=H.i P_ [r,r,r,r,l,d]
def x6(a:LI):Option R_:=H.e P_ [r,r,r,r,r] ⟨[(8, .own 0)],[Ai 3 a],[]⟩
def x4(b f:Int)(a:LI):Option R_:=H.e P_ [r,r,r,r,l,d] (t4 b f a)
theorem e6:x6=Xc:=by kernel_rfl
theorem i4(b:Int):∀(q:Nat) (f:Int) (a:LI),z4 q (t4 b f a)=Ib b q f a:=
 ind (fun _ _=>by kernel_rfl) fun q ih f a=>Eq.trans (b:=Pq x6 (fun f a=>(z4 q) (t4 b f a)) b f a) (by kernel_rfl) (by simp only[e6,ih]<;>rfl)
theorem e4:x4=Wy:=by funext b f a;exact Eq.trans (by kernel_rfl) ((i4 b Ct f a).trans (by rw[Aq];rfl))
noncomputable def F:=u2 Wd
theorem rn x:H.u P_ x=F x:=Eq.trans (b:=u2 (Pr x4) x) (by kernel_rfl) (by simp only[e4]<;>rfl)
noncomputable def c:Con:=⟨H.p,H.r,F⟩
theorem ok:ConOk P_ gl 120 c:=co H func120 (.cons F153.ok .nil) rn
end F120
namespace F83
noncomputable def H:Hd:=⟨[Si,Si],[Si,Si], .d,⟨[(120,F120.c)],gl,false⟩,[],f83⟩
noncomputable def F:=u2 Jf
theorem rn x:H.u P_ x=F x:=by kernel_rfl
noncomputable def c:Con:=⟨H.p,H.r,F⟩
theorem ok:ConOk P_ gl 83 c:=co H func83 (.cons F120.ok .nil) rn
end F83
namespace F37
noncomputable def H:Hd:=⟨[.agg [Si,Si,Si,Sw],Si],[Sz], .d,⟨[(36,F36.c),(82,F82.c),(83,F83.c)],gl,false⟩,[],f37⟩
noncomputable def F:=u5 Acb
theorem rn x:H.u P_ x=F x:=by kernel_rfl
noncomputable def c:Con:=⟨H.p,H.r,F⟩
theorem ok:ConOk P_ gl 37 c:=co H func37 (.cons F36.ok (.cons F82.ok (.cons F83.ok .nil))) rn
end F37
namespace F9
noncomputable def H:Hd:=⟨[.agg [Si,Si,Si,Sw]],[Si], .d,⟨[(35,F35.c),(36,F36.c),(37,F37.c)],gl,false⟩,[],f9⟩
noncomputable def F:=u4 Cj
theorem rn x:H.u P_ x=F x:=by kernel_rfl
noncomputable def c:Con:=⟨H.p,H.r,F⟩
theorem ok:ConOk P_ gl 9 c:=co H func9 (.cons F35.ok (.cons F36.ok (.cons F37.ok .nil))) rn
end F9
namespace F58
noncomputable def H:Hd:=⟨[Si],[Si], .d,⟨[],gl,false⟩,[],f58⟩
noncomputable def F:=Nz
theorem rn x:H.u P_ x=F x:=by kernel_rfl
noncomputable def c:Con:=⟨H.p,H.r,F⟩
theorem ok:ConOk P_ gl 58 c:=co H func58 .nil rn
end F58
namespace F16
abbrev R_:=LI
noncomputable def H:Hd:=⟨[Si,Si],[Ol 3],(.seq .d (.seq .d (.cut [5] [] (.seq .d (.blk (.loop [0,5,6] [⟨5,[], .own 3 (.int .i64)⟩] .d))) .d))),⟨[(58,F58.c)],gl,false⟩,[],f16⟩
def t4(b f:Int)(a:LI):S:=⟨[(0,vi b),(5, .own 0),(6,vi f)],[Ai 3 a],[]⟩
def z4:Nat→S→Option R_:=H.i P_ [r,r,l,r,d]
def x6(a:LI):Option R_:=H.e P_ [r,r,r] ⟨[(5, .own 0)],[Ai 3 a],[]⟩
def x4(b f:Int)(a:LI):Option R_:=H.e P_ [r,r,l,r,d] (t4 b f a)
theorem e6:x6=Im:=by kernel_rfl
theorem i4(b:Int):∀(q:Nat) (f:Int) (a:LI),z4 q (t4 b f a)=Dn b q f a:=
 ind (fun _ _=>by kernel_rfl) fun q ih f a=>Eq.trans (b:=Gm x6 (fun f a=>(z4 q) (t4 b f a)) b f a) (by kernel_rfl) (by simp only[e6,ih]<;>rfl)
theorem e4:x4=To:=by funext b f a;exact Eq.trans (by kernel_rfl) ((i4 b Ct f a).trans (by rw[Aq];rfl))
noncomputable def F:=u2 Gw
theorem rn x:H.u P_ x=F x:=Eq.trans (b:=u2 (Ua x4) x) (by kernel_rfl) (by simp only[e4]<;>rfl)
noncomputable def c:Con:=⟨H.p,H.r,F⟩
theorem ok:ConOk P_ gl 16 c:=co H func16 (.cons F58.ok .nil) rn
end F16
namespace F26
noncomputable def H:Hd:=⟨[.agg [Si,Si,Si,Sw],Sw],[.agg [Si,Si,Si,Sw]], .d,⟨[],gl,false⟩,[],f26⟩
noncomputable def F:=u5 Bz
theorem rn x:H.u P_ x=F x:=by kernel_rfl
noncomputable def c:Con:=⟨H.p,H.r,F⟩
theorem ok:ConOk P_ gl 26 c:=co H func26 .nil rn
end F26
namespace F5
def Jd(h:Bool)(u b g f:Int)(a:LX)(o:LI)(v w y:Int)(af:LI)(bg aa:LX):Option Bool:=
if(h&&(geq u 0))then
(Ap af o).bind fun da=>
(fun fc:Option Bool=>
both (
fc) [
bo (
fc)]) (
if da then
(Bz b g f a bg).bind fun(db,n,dc,dd)=>
(Bj v w y aa db n dc dd).bind fun bu=>
some bu
else
some false)
else
(fun fd:Option Bool=>
both (
fd) [
bo (
fd)]) (
if false then
(Bz b g f a bg).bind fun(de,df,bm,dg)=>
(Bj v w y aa de df bm dg).bind fun dh=>
some dh
else
some false)
theorem Aa8: @Jd= @Gf:=by
  unfold Jd Gf
  try simp only[Ane,Aca,Adr]
  all_goals
    repeat (refine funext fun _=>?_)
    repeat' first
      |with_reducible rfl
      |with_reducible refine Jw ?_ ?_
      |with_reducible refine Ke ?_ ?_ ?_
      |with_reducible refine Ju ?_ ?_ ?_ ?_
      |((with_reducible refine Ok ?_ ?_);focus (intro h;first|(subst h;rfl)|(simp only[h];rfl)|(simp[Cg,Ac,h];done)))
      |with_reducible refine Oa fun x=>?_
      |with_reducible refine Vp (fun _=>?_) (fun _=>?_)
      |(refine Fm (fun h=>by simp only[h,Oe,Dk,De,ite_self]) (fun x h=>?_);(try simp only[h,Dk]))
      |(refine Hj (fun h=>?_) (fun h=>?_)<;>simp only[h,if_true,if_false,Bool.false_eq_true])
def Jp(j14:Bool→Int→Int→Int→Int→LX→LI→Int→Int→Int→LI→LX→LX→Option Bool)(h:Bool)(u k b aj g f:Int)(a:LX)(m o:LI)(v w y:Int)(af:LI)(aa:LX):Option Bool:=
if(geq (Ac m) 1)then
some (h&&(geq u 6))
else
both (
both (
(Bv a 0 (Ar k b)).bind fun bk=>
both (
(Cg ([]:LX) bk).bind fun bv=>
(Bv a (Ar (Ad k aj) b) (Ac a)).bind fun bw=>
(Cg bv bw).bind fun bg=>
j14 h u b g f a o v w y af bg aa) [
(Bv a (Ar (Ad k aj) b) (Ac a)).bind fun bq=>
(Cg ([]:LX) bk).bind fun br=>
(Cg br bq).bind fun bg=>
j14 h u b g f a o v w y af bg aa]) [
(Bv a (Ar (Ad k aj) b) (Ac a)).bind fun bk=>
(Bv a 0 (Ar k b)).bind fun bq=>
(Cg ([]:LX) bq).bind fun br=>
(Cg br bk).bind fun bg=>
j14 h u b g f a o v w y af bg aa]) [
(Bv a 0 (Ar k b)).bind fun bk=>
(fun fe:Option Bool=>
both (
both (
(Cg ([]:LX) bk).bind fun bv=>
(Bv a (Ar (Ad k aj) b) (Ac a)).bind fun bw=>
(Cg bv bw).bind fun bg=>
j14 h u b g f a o v w y af bg aa) [
fe]) [
fe]) (
(Bv a (Ar (Ad k aj) b) (Ac a)).bind fun bq=>
(Cg ([]:LX) bk).bind fun br=>
(Cg br bq).bind fun bg=>
j14 h u b g f a o v w y af bg aa),
(Bv a (Ar (Ad k aj) b) (Ac a)).bind fun bk=>
(fun gf:Option Bool=>
bo (
gf)) (
(Bv a 0 (Ar k b)).bind fun bq=>
(Cg ([]:LX) bq).bind fun br=>
(Cg br bk).bind fun bg=>
j14 h u b g f a o v w y af bg aa)]
theorem Aa3: @Jp= @Gh:=by
  unfold Jp Gh
  try simp only[Ane,Aca,Adr]
  all_goals
    repeat (refine funext fun _=>?_)
    repeat' first
      |with_reducible rfl
      |with_reducible refine Jw ?_ ?_
      |with_reducible refine Ke ?_ ?_ ?_
      |with_reducible refine Ju ?_ ?_ ?_ ?_
      |((with_reducible refine Ok ?_ ?_);focus (intro h;first|(subst h;rfl)|(simp only[h];rfl)|(simp[Cg,Ac,h];done)))
      |with_reducible refine Oa fun x=>?_
      |with_reducible refine Vp (fun _=>?_) (fun _=>?_)
      |(refine Fm (fun h=>by simp only[h,Oe,Dk,De,ite_self]) (fun x h=>?_);(try simp only[h,Dk]))
      |(refine Hj (fun h=>?_) (fun h=>?_)<;>simp only[h,if_true,if_false,Bool.false_eq_true])
def Jc(j13:Bool→Int→Int→Int→Int→Int→Int→LX→LI→LI→Int→Int→Int→LI→LX→Option Bool)(h:Bool)(u k b aj g f:Int)(a:LX)(m o:LI)(au av aw v w y:Int)(af:LI)(bd al aa:LX):Option Bool:=
(fun ff:Option Bool=>
both (
ff) [
bo (
ff)]) (
(Bz b g f a bd).bind fun(am,an,ao,ai)=>
(Bj au av aw al am an ao ai).bind fun di=>
if(!di)then
some false
else
j13 h u k b aj g f a m o v w y af aa)
theorem Aa4: @Jc= @Gi:=by
  unfold Jc Gi
  try simp only[Ane,Aca,Adr]
  all_goals
    repeat (refine funext fun _=>?_)
    repeat' first
      |with_reducible rfl
      |with_reducible refine Jw ?_ ?_
      |with_reducible refine Ke ?_ ?_ ?_
      |with_reducible refine Ju ?_ ?_ ?_ ?_
      |((with_reducible refine Ok ?_ ?_);focus (intro h;first|(subst h;rfl)|(simp only[h];rfl)|(simp[Cg,Ac,h];done)))
      |with_reducible refine Oa fun x=>?_
      |with_reducible refine Vp (fun _=>?_) (fun _=>?_)
      |(refine Fm (fun h=>by simp only[h,Oe,Dk,De,ite_self]) (fun x h=>?_);(try simp only[h,Dk]))
      |(refine Hj (fun h=>?_) (fun h=>?_)<;>simp only[h,if_true,if_false,Bool.false_eq_true])
def Jb(h:Bool)(n b g f:Int)(a:LX)(p:LI)(ab ac ad:Int)(ag:LI)(bh ae:LX):Option Bool:=
if(h&&(geq n 0))then
(Ap ag p).bind fun dj=>
(fun fg:Option Bool=>
both (
fg) [
bo (
fg)]) (
if dj then
(Bz b g f a bh).bind fun(dk,dl,dm,dn)=>
(Bj ab ac ad ae dk dl dm dn).bind fun dp=>
some dp
else
some false)
else
(fun fh:Option Bool=>
both (
fh) [
bo (
fh)]) (
if false then
(Bz b g f a bh).bind fun(dq,dr,ds,dt)=>
(Bj ab ac ad ae dq dr ds dt).bind fun du=>
some du
else
some false)
theorem Aa2: @Jb= @Kk:=by
  unfold Jb Kk
  try simp only[Ane,Aca,Adr]
  all_goals
    repeat (refine funext fun _=>?_)
    repeat' first
      |with_reducible rfl
      |with_reducible refine Jw ?_ ?_
      |with_reducible refine Ke ?_ ?_ ?_
      |with_reducible refine Ju ?_ ?_ ?_ ?_
      |((with_reducible refine Ok ?_ ?_);focus (intro h;first|(subst h;rfl)|(simp only[h];rfl)|(simp[Cg,Ac,h];done)))
      |with_reducible refine Oa fun x=>?_
      |with_reducible refine Vp (fun _=>?_) (fun _=>?_)
      |(refine Fm (fun h=>by simp only[h,Oe,Dk,De,ite_self]) (fun x h=>?_);(try simp only[h,Dk]))
      |(refine Hj (fun h=>?_) (fun h=>?_)<;>simp only[h,if_true,if_false,Bool.false_eq_true])
def Jm(j20:Bool→Int→Int→Int→Int→LX→LI→Int→Int→Int→LI→LX→LX→Option Bool)(h:Bool)(n k b ak g f:Int)(a:LX)(m p:LI)(ab ac ad:Int)(ag:LI)(ae:LX):Option Bool:=
if(geq (Ac m) 1)then
some (h&&(geq n 6))
else
both (
both (
(Bv a 0 (Ar k b)).bind fun bl=>
both (
(Cg ([]:LX) bl).bind fun bx=>
(Bv a (Ar (Ad k ak) b) (Ac a)).bind fun bz=>
(Cg bx bz).bind fun bh=>
j20 h n b g f a p ab ac ad ag bh ae) [
(Bv a (Ar (Ad k ak) b) (Ac a)).bind fun bs=>
(Cg ([]:LX) bl).bind fun bt=>
(Cg bt bs).bind fun bh=>
j20 h n b g f a p ab ac ad ag bh ae]) [
(Bv a (Ar (Ad k ak) b) (Ac a)).bind fun bl=>
(Bv a 0 (Ar k b)).bind fun bs=>
(Cg ([]:LX) bs).bind fun bt=>
(Cg bt bl).bind fun bh=>
j20 h n b g f a p ab ac ad ag bh ae]) [
(Bv a 0 (Ar k b)).bind fun bl=>
(fun fi:Option Bool=>
both (
both (
(Cg ([]:LX) bl).bind fun bx=>
(Bv a (Ar (Ad k ak) b) (Ac a)).bind fun bz=>
(Cg bx bz).bind fun bh=>
j20 h n b g f a p ab ac ad ag bh ae) [
fi]) [
fi]) (
(Bv a (Ar (Ad k ak) b) (Ac a)).bind fun bs=>
(Cg ([]:LX) bl).bind fun bt=>
(Cg bt bs).bind fun bh=>
j20 h n b g f a p ab ac ad ag bh ae),
(Bv a (Ar (Ad k ak) b) (Ac a)).bind fun bl=>
(fun gg:Option Bool=>
bo (
gg)) (
(Bv a 0 (Ar k b)).bind fun bs=>
(Cg ([]:LX) bs).bind fun bt=>
(Cg bt bl).bind fun bh=>
j20 h n b g f a p ab ac ad ag bh ae)]
theorem Aa7: @Jm= @Kf:=by
  unfold Jm Kf
  try simp only[Ane,Aca,Adr]
  all_goals
    repeat (refine funext fun _=>?_)
    repeat' first
      |with_reducible rfl
      |with_reducible refine Jw ?_ ?_
      |with_reducible refine Ke ?_ ?_ ?_
      |with_reducible refine Ju ?_ ?_ ?_ ?_
      |((with_reducible refine Ok ?_ ?_);focus (intro h;first|(subst h;rfl)|(simp only[h];rfl)|(simp[Cg,Ac,h];done)))
      |with_reducible refine Oa fun x=>?_
      |with_reducible refine Vp (fun _=>?_) (fun _=>?_)
      |(refine Fm (fun h=>by simp only[h,Oe,Dk,De,ite_self]) (fun x h=>?_);(try simp only[h,Dk]))
      |(refine Hj (fun h=>?_) (fun h=>?_)<;>simp only[h,if_true,if_false,Bool.false_eq_true])
def Jk(j19:Bool→Int→Int→Int→Int→Int→Int→LX→LI→LI→Int→Int→Int→LI→LX→Option Bool)(h:Bool)(n k b ak g f:Int)(a:LX)(m p:LI)(am an ao ab ac ad:Int)(ag:LI)(be ai ae:LX):Option Bool:=
(fun fj:Option Bool=>
both (
fj) [
bo (
fj)]) (
(Bz b g f a be).bind fun(bm,dv,dw,dx)=>
(Bj am an ao ai bm dv dw dx).bind fun dy=>
if(!dy)then
some false
else
j19 h n k b ak g f a m p ab ac ad ag ae)
theorem Aa6: @Jk= @Kg:=by
  unfold Jk Kg
  try simp only[Ane,Aca,Adr]
  all_goals
    repeat (refine funext fun _=>?_)
    repeat' first
      |with_reducible rfl
      |with_reducible refine Jw ?_ ?_
      |with_reducible refine Ke ?_ ?_ ?_
      |with_reducible refine Ju ?_ ?_ ?_ ?_
      |((with_reducible refine Ok ?_ ?_);focus (intro h;first|(subst h;rfl)|(simp only[h];rfl)|(simp[Cg,Ac,h];done)))
      |with_reducible refine Oa fun x=>?_
      |with_reducible refine Vp (fun _=>?_) (fun _=>?_)
      |(refine Fm (fun h=>by simp only[h,Oe,Dk,De,ite_self]) (fun x h=>?_);(try simp only[h,Dk]))
      |(refine Hj (fun h=>?_) (fun h=>?_)<;>simp only[h,if_true,if_false,Bool.false_eq_true])
abbrev R_:=Bool
abbrev K_:=S→Option R_
noncomputable def H:Hd:=⟨[.agg [Si,Si,Si,Sw],Ss,Si,Sc],[Sz],(.seq .d (.seq .d (.seq .d (.seq .d (.seq .d (.seq .d (.seq .d (.seq .d (.seq .d (.seq .d (.seq (.blk (.loop [1,2,4,9,10,12,14,15,16] [] (.cut [1,2,4,9,10,12,14,15,16] [] .d .d))) (.seq .d (.seq .d (.seq .d (.cut [4,9,14,15,16,17,19,22,23,24] [] .d (.seq .d (.seq .d (.cut [4,9,14,17,19,22,23,24,25,26,27] [] (.seq .d (.blk (.loop [4,9,14,17,19,22,23,24,25,26,27,28] [] .d))) (.cut [4,9,14,17,22,23,24,25,26] [] (.seq (.mode false) .d) (.seq .d (.cut [4,9,17,22,23,24,29] [] (.mode false) (.seq (.mode false) .d)))))))))))))))))))))),⟨[(9,F9.c),(10,F10.c),(11,F11.c),(16,F16.c),(21,F21.c),(22,F22.c),(23,F23.c),(24,F24.c),(25,F25.c),(26,F26.c)],gl,false⟩,[],f5⟩
def t10(h:Bool)(u k b aj g f:Int)(a:LX)(m o:LI)(au av aw v w y:Int)(af:LI)(al aa:LX)(bi:Int)(bd:LX):S:=⟨[(4, .ptr 0 []),(9,vt h),(14, .own 1),(17, .own 2),(19, .ptr 3 []),(22, .ptr 4 []),(23, .own 5),(24,vi u),(25,vi (Ar k b)),(26,vi (Ar (Ad k aj) b)),(27, .own 6),(28,vi bi)],[.box 24 (.agg [vi b,vi g,vi f,vw a]),Ai 3 m,Ai 3 o, .box 24 (.agg [vi au,vi av,vi aw, .own 7]), .box 24 (.agg [vi v,vi w,vi y, .own 8]),Ai 3 af,Aw 21 bd,Aw 21 al,Aw 21 aa],[]⟩
def z10:Nat→S→Option R_:=H.i P_ [r,r,r,r,r,r,r,r,r,r,r,r,r,r,r,r,r,l,r,d]
def t16(h:Bool)(n k b ak g f:Int)(a:LX)(m p:LI)(am an ao ab ac ad:Int)(ag:LI)(ai ae:LX)(bj:Int)(be:LX):S:=⟨[(4, .ptr 0 []),(9,vt h),(14, .own 1),(17, .own 2),(19, .ptr 3 []),(22, .ptr 4 []),(23, .own 5),(24,vi n),(25,vi (Ar k b)),(26,vi (Ar (Ad k ak) b)),(27, .own 6),(28,vi bj)],[.box 24 (.agg [vi b,vi g,vi f,vw a]),Ai 3 m,Ai 3 p, .box 24 (.agg [vi am,vi an,vi ao, .own 7]), .box 24 (.agg [vi ab,vi ac,vi ad, .own 8]),Ai 3 ag,Aw 21 be,Aw 21 ai,Aw 21 ae],[]⟩
def z16:Nat→S→Option R_:=H.i P_ [r,r,r,r,r,r,r,r,r,r,r,r,r,r,r,r,r,l,r,d]
def t5(ap:LB)(h:Bool)(b g f:Int)(a:LX)(ar:LB)(ay az ba bb bc aq:Int)(m ax:LI)(bf ah k:Int):S:=⟨[(1,vs ap),(2,vi bf),(4, .ptr 0 []),(9,vt h),(10, .own 1),(12, .ptr 2 []),(14, .own 3),(15,vi ah),(16,vi k)],[.box 24 (.agg [vi b,vi g,vi f,vw a]),Ab 5 ar, .box 35 (.agg [.agg [vi ay,vi az,vi ba,vi bb,vi bc],vi aq, .own 4]),Ai 3 m,Ai 3 ax],[]⟩
def z5:Nat→S→Option R_:=H.i P_ [r,r,r,r,r,r,r,r,r,r,l,d]
def x7(kn5:K_)(ap:LB)(h:Bool)(b g f:Int)(a:LX)(ar:LB)(ay az ba bb bc aq:Int)(m ax:LI)(bf ah k:Int):Option R_:=H.e P_ [r,r,r,r,r,r,r,r,r,r,l,d,(lp kn5),r] ⟨[(1,vs ap),(2,vi bf),(4, .ptr 0 []),(9,vt h),(10, .own 1),(12, .ptr 2 []),(14, .own 3),(15,vi ah),(16,vi k)],[.box 24 (.agg [vi b,vi g,vi f,vw a]),Ab 5 ar, .box 35 (.agg [.agg [vi ay,vi az,vi ba,vi bb,vi bc],vi aq, .own 4]),Ai 3 m,Ai 3 ax],[]⟩
def x14(h:Bool)(u b g f:Int)(a:LX)(o:LI)(v w y:Int)(af:LI)(bg aa:LX):Option R_:=H.e P_ [r,r,r,r,r,r,r,r,r,r,r,r,r,r,r,r,r,r,r,r,r] ⟨[(4, .ptr 0 []),(9,vt h),(17, .own 1),(22, .ptr 2 []),(23, .own 3),(24,vi u),(29, .own 4)],[.box 24 (.agg [vi b,vi g,vi f,vw a]),Ai 3 o, .box 24 (.agg [vi v,vi w,vi y, .own 5]),Ai 3 af,Aw 21 bg,Aw 21 aa],[]⟩
def x13(h:Bool)(u k b aj g f:Int)(a:LX)(m o:LI)(v w y:Int)(af:LI)(aa:LX):Option R_:=H.e P_ [r,r,r,r,r,r,r,r,r,r,r,r,r,r,r,r,r,r,r] ⟨[(4, .ptr 0 []),(9,vt h),(14, .own 1),(17, .own 2),(22, .ptr 3 []),(23, .own 4),(24,vi u),(25,vi (Ar k b)),(26,vi (Ar (Ad k aj) b))],[.box 24 (.agg [vi b,vi g,vi f,vw a]),Ai 3 m,Ai 3 o, .box 24 (.agg [vi v,vi w,vi y, .own 5]),Ai 3 af,Aw 21 aa],[]⟩
def x12(h:Bool)(u k b aj g f:Int)(a:LX)(m o:LI)(au av aw v w y:Int)(af:LI)(bd al aa:LX):Option R_:=H.e P_ [r,r,r,r,r,r,r,r,r,r,r,r,r,r,r,r,r,r] ⟨[(4, .ptr 0 []),(9,vt h),(14, .own 1),(17, .own 2),(19, .ptr 3 []),(22, .ptr 4 []),(23, .own 5),(24,vi u),(25,vi (Ar k b)),(26,vi (Ar (Ad k aj) b)),(27, .own 6)],[.box 24 (.agg [vi b,vi g,vi f,vw a]),Ai 3 m,Ai 3 o, .box 24 (.agg [vi au,vi av,vi aw, .own 7]), .box 24 (.agg [vi v,vi w,vi y, .own 8]),Ai 3 af,Aw 21 bd,Aw 21 al,Aw 21 aa],[]⟩
def x10(h:Bool)(u k b aj g f:Int)(a:LX)(m o:LI)(au av aw v w y:Int)(af:LI)(al aa:LX)(bi:Int)(bd:LX):Option R_:=H.e P_ [r,r,r,r,r,r,r,r,r,r,r,r,r,r,r,r,r,l,r,d] (t10 h u k b aj g f a m o au av aw v w y af al aa bi bd)
def x9(h:Bool)(ah k u b g f:Int)(a:LX)(m o:LI)(au av aw v w y:Int)(af:LI)(al aa:LX):Option R_:=H.e P_ [r,r,r,r,r,r,r,r,r,r,r,r,r,r,r] ⟨[(4, .ptr 0 []),(9,vt h),(14, .own 1),(15,vi ah),(16,vi k),(17, .own 2),(19, .ptr 3 []),(22, .ptr 4 []),(23, .own 5),(24,vi u)],[.box 24 (.agg [vi b,vi g,vi f,vw a]),Ai 3 m,Ai 3 o, .box 24 (.agg [vi au,vi av,vi aw, .own 6]), .box 24 (.agg [vi v,vi w,vi y, .own 7]),Ai 3 af,Aw 21 al,Aw 21 aa],[]⟩
def x20(h:Bool)(n b g f:Int)(a:LX)(p:LI)(ab ac ad:Int)(ag:LI)(bh ae:LX):Option R_:=H.e P_ [r,r,r,r,r,r,r,r,r,r,r,r,r,r,r,r,r,r,r,r,r] ⟨[(4, .ptr 0 []),(9,vt h),(17, .own 1),(22, .ptr 2 []),(23, .own 3),(24,vi n),(29, .own 4)],[.box 24 (.agg [vi b,vi g,vi f,vw a]),Ai 3 p, .box 24 (.agg [vi ab,vi ac,vi ad, .own 5]),Ai 3 ag,Aw 21 bh,Aw 21 ae],[]⟩
def x19(h:Bool)(n k b ak g f:Int)(a:LX)(m p:LI)(ab ac ad:Int)(ag:LI)(ae:LX):Option R_:=H.e P_ [r,r,r,r,r,r,r,r,r,r,r,r,r,r,r,r,r,r,r] ⟨[(4, .ptr 0 []),(9,vt h),(14, .own 1),(17, .own 2),(22, .ptr 3 []),(23, .own 4),(24,vi n),(25,vi (Ar k b)),(26,vi (Ar (Ad k ak) b))],[.box 24 (.agg [vi b,vi g,vi f,vw a]),Ai 3 m,Ai 3 p, .box 24 (.agg [vi ab,vi ac,vi ad, .own 5]),Ai 3 ag,Aw 21 ae],[]⟩
def x18(h:Bool)(n k b ak g f:Int)(a:LX)(m p:LI)(am an ao ab ac ad:Int)(ag:LI)(be ai ae:LX):Option R_:=H.e P_ [r,r,r,r,r,r,r,r,r,r,r,r,r,r,r,r,r,r] ⟨[(4, .ptr 0 []),(9,vt h),(14, .own 1),(17, .own 2),(19, .ptr 3 []),(22, .ptr 4 []),(23, .own 5),(24,vi n),(25,vi (Ar k b)),(26,vi (Ar (Ad k ak) b)),(27, .own 6)],[.box 24 (.agg [vi b,vi g,vi f,vw a]),Ai 3 m,Ai 3 p, .box 24 (.agg [vi am,vi an,vi ao, .own 7]), .box 24 (.agg [vi ab,vi ac,vi ad, .own 8]),Ai 3 ag,Aw 21 be,Aw 21 ai,Aw 21 ae],[]⟩
def x16(h:Bool)(n k b ak g f:Int)(a:LX)(m p:LI)(am an ao ab ac ad:Int)(ag:LI)(ai ae:LX)(bj:Int)(be:LX):Option R_:=H.e P_ [r,r,r,r,r,r,r,r,r,r,r,r,r,r,r,r,r,l,r,d] (t16 h n k b ak g f a m p am an ao ab ac ad ag ai ae bj be)
def x15(h:Bool)(ah k n b g f:Int)(a:LX)(m p:LI)(am an ao ab ac ad:Int)(ag:LI)(ai ae:LX):Option R_:=H.e P_ [r,r,r,r,r,r,r,r,r,r,r,r,r,r,r] ⟨[(4, .ptr 0 []),(9,vt h),(14, .own 1),(15,vi ah),(16,vi k),(17, .own 2),(19, .ptr 3 []),(22, .ptr 4 []),(23, .own 5),(24,vi n)],[.box 24 (.agg [vi b,vi g,vi f,vw a]),Ai 3 m,Ai 3 p, .box 24 (.agg [vi am,vi an,vi ao, .own 6]), .box 24 (.agg [vi ab,vi ac,vi ad, .own 7]),Ai 3 ag,Aw 21 ai,Aw 21 ae],[]⟩
def x5(ap:LB)(h:Bool)(b g f:Int)(a:LX)(ar:LB)(ay az ba bb bc aq:Int)(m ax:LI)(bf ah k:Int):Option R_:=H.e P_ [r,r,r,r,r,r,r,r,r,r,l,d] (t5 ap h b g f a ar ay az ba bb bc aq m ax bf ah k)
theorem e7(kn5:K_)(ap:LB)(h:Bool)(b g f:Int)(a:LX)(ar:LB)(ay az ba bb bc aq:Int)(m ax:LI):x7 kn5 ap h b g f a ar ay az ba bb bc aq m ax=Kz (fun bf ah k=>kn5 (t5 ap h b g f a ar ay az ba bb bc aq m ax bf ah k)) ap h b g f a ar ay az ba bb bc aq m ax:=by kernel_rfl
theorem e14:x14=Kc:=Eq.trans (b:=Jd) (by kernel_rfl) (by rw[Aa8];rfl)
theorem e13:x13=Jv:=Eq.trans (b:=Jp x14) (by kernel_rfl) (by rw[Aa3];simp only[e14]<;>rfl)
theorem e12:x12=Du:=Eq.trans (b:=Jc x13) (by kernel_rfl) (by rw[Aa4];simp only[e13]<;>rfl)
theorem i10(h:Bool)(u k b aj g f:Int)(a:LX)(m o:LI)(au av aw v w y:Int)(af:LI)(al aa:LX):∀(q:Nat) (bi:Int) (bd:LX),z10 q (t10 h u k b aj g f a m o au av aw v w y af al aa bi bd)=Bi h u k b aj g f a m o au av aw v w y af al aa q bi bd:=
 ind (fun _ _=>by kernel_rfl) fun q ih bi bd=>Eq.trans (b:=Gj x12 (fun bi bd=>(z10 q) (t10 h u k b aj g f a m o au av aw v w y af al aa bi bd)) h u k b aj g f a m o au av aw v w y af al aa bi bd) (by kernel_rfl) (by simp only[e12,ih]<;>rfl)
theorem e10:x10=Jy:=by funext h u k b aj g f a m o au av aw v w y af al aa bi bd;exact Eq.trans (by kernel_rfl) ((i10 h u k b aj g f a m o au av aw v w y af al aa Ct bi bd).trans (by rw[Aq];rfl))
theorem e9:x9=Bn:=Eq.trans (b:=Lb x10) (by kernel_rfl) (by simp only[e10]<;>rfl)
theorem e20:x20=Qy:=Eq.trans (b:=Jb) (by kernel_rfl) (by rw[Aa2];rfl)
theorem e19:x19=Qw:=Eq.trans (b:=Jm x20) (by kernel_rfl) (by rw[Aa7];simp only[e20]<;>rfl)
theorem e18:x18=Rc:=Eq.trans (b:=Jk x19) (by kernel_rfl) (by rw[Aa6];simp only[e19]<;>rfl)
theorem i16(h:Bool)(n k b ak g f:Int)(a:LX)(m p:LI)(am an ao ab ac ad:Int)(ag:LI)(ai ae:LX):∀(q:Nat) (bj:Int) (be:LX),z16 q (t16 h n k b ak g f a m p am an ao ab ac ad ag ai ae bj be)=Cz h n k b ak g f a m p am an ao ab ac ad ag ai ae q bj be:=
 ind (fun _ _=>by kernel_rfl) fun q ih bj be=>Eq.trans (b:=Qz x18 (fun bj be=>(z16 q) (t16 h n k b ak g f a m p am an ao ab ac ad ag ai ae bj be)) h n k b ak g f a m p am an ao ab ac ad ag ai ae bj be) (by kernel_rfl) (by simp only[e18,ih]<;>rfl)
theorem e16:x16=Kb:=by funext h n k b ak g f a m p am an ao ab ac ad ag ai ae bj be;exact Eq.trans (by kernel_rfl) ((i16 h n k b ak g f a m p am an ao ab ac ad ag ai ae Ct bj be).trans (by rw[Aq];rfl))
theorem e15:x15=Gk:=Eq.trans (b:=Rb x16) (by kernel_rfl) (by simp only[e16]<;>rfl)
theorem i5(ap:LB)(h:Bool)(b g f:Int)(a:LX)(ar:LB)(ay az ba bb bc aq:Int)(m ax:LI):∀(q:Nat) (bf ah k:Int),z5 q (t5 ap h b g f a ar ay az ba bb bc aq m ax bf ah k)=Dd ap h b g f a ar ay az ba bb bc aq m ax q bf ah k:=
 ind (fun _ _ _=>by kernel_rfl) fun q ih bf ah k=>Eq.trans (b:=Gt (x7 (z5 q) ap h b g f a ar ay az ba bb bc aq m ax) x9 x15 ap h b g f a ar ay az ba bb bc aq m ax bf ah k) (by kernel_rfl) (by simp only[e7,e9,e15,ih]<;>rfl)
theorem e5:x5=Le:=by funext ap h b g f a ar ay az ba bb bc aq m ax bf ah k;exact Eq.trans (by kernel_rfl) ((i5 ap h b g f a ar ay az ba bb bc aq m ax Ct bf ah k).trans (by rw[Aq];rfl))
noncomputable def F:=u7 Il
theorem rn x:H.u P_ x=F x:=Eq.trans (b:=u7 (Lg x5) x) (by kernel_rfl) (by simp only[e5]<;>rfl)
noncomputable def c:Con:=⟨H.p,H.r,F⟩
theorem ok:ConOk P_ gl 5 c:=co H func5 (.cons F9.ok (.cons F10.ok (.cons F11.ok (.cons F16.ok (.cons F21.ok (.cons F22.ok (.cons F23.ok (.cons F24.ok (.cons F25.ok (.cons F26.ok .nil)))))))))) rn
end F5
end
end Go.Proofs.YtidigmkmfmopgaaGreatDoor
