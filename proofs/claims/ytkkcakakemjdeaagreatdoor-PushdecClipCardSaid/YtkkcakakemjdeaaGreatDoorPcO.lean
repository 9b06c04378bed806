/- A part of the proof of a statement of this seat (see the text that ends in Proof): PcOk. No conditions of its own. -/
import Derived.Test.YtkkcakakemjdeaaGreatDoorPcBB
import Derived.Test.YtkkcakakemjdeaaGreatDoorPcPA
import Derived.Test.YtkkcakakemjdeaaGreatDoorPcHA
import Derived.Test.YtkkcakakemjdeaaGreatDoorProg
import Derived.KernelRfl
set_option linter.unusedVariables false
set_option linter.unusedSimpArgs false
set_option maxRecDepth 10000
namespace Go.Proofs.YtkkcakakemjdeaaGreatDoor
open Go Go.Lv Go.Pl Go.Rx Go.Rx.PS
noncomputable section
def g0:List Value:=[.int .i64 2, .int .i64 2, .int .i64 2, .int .i64 4, .int .i64 4]
def g1:List Value:=[.bool true, .int .i64 0]
def g2:List Value:=[.bool false, .int .i64 0]
def g3:List Value:=[.int .u8 0, .int .u8 1, .int .u8 56, .int .u8 2, .int .u8 57, .int .u8 49, .int .u8 28, .int .u8 3, .int .u8 61, .int .u8 58, .int .u8 42, .int .u8 50, .int .u8 38, .int .u8 29, .int .u8 17, .int .u8 4, .int .u8 62, .int .u8 47, .int .u8 59, .int .u8 36, .int .u8 45, .int .u8 43, .int .u8 51, .int .u8 22, .int .u8 53, .int .u8 39, .int .u8 33, .int .u8 30, .int .u8 24, .int .u8 18, .int .u8 12, .int .u8 5, .int .u8 63, .int .u8 55, .int .u8 48, .int .u8 27, .int .u8 60, .int .u8 41, .int .u8 37, .int .u8 16, .int .u8 46, .int .u8 35, .int .u8 44, .int .u8 21, .int .u8 52, .int .u8 32, .int .u8 23, .int .u8 11, .int .u8 54, .int .u8 26, .int .u8 40, .int .u8 15, .int .u8 34, .int .u8 20, .int .u8 31, .int .u8 10, .int .u8 25, .int .u8 14, .int .u8 19, .int .u8 9, .int .u8 13, .int .u8 8, .int .u8 7, .int .u8 6]
def gl:List (Nat×List Value):=[(0,g0),(1,g1),(2,g2),(3,g3)]
theorem mixed:Tryz.prog.follows .mixedOrders=true:=by kernel_rfl
noncomputable abbrev P_:=Tryz.prog
theorem cr(H:Hd){f:Nat}{F:LTy (shL H.p)→Option (LTy (shL H.r))}(hf:P_.funcs[f]? =some H.f)(hT:Adv P_ H.T)(hA:∀p∈H.s,Ent P_ p.1)(h:∀x,H.u P_ x=F x)(hb:okH H=true:=by kernel_rfl):ConOk P_ H.T.gl f ⟨H.p,H.r,F⟩:=Hd.con mixed H hf hT hA hb h
theorem co(H:Hd){f:Nat}{F:LTy (shL H.p)→Option (LTy (shL H.r))}(hf:P_.funcs[f]? =some H.f)(hT:Adv P_ H.T)(h:∀x,H.u P_ x=F x)(hb:(H.s.isEmpty&&okH H)=true:=by kernel_rfl):ConOk P_ H.T.gl f ⟨H.p,H.r,F⟩:=Hd.Cji mixed H hf hT hb h
theorem ent35:Ent Tryz.prog 35:=Ent.mk Tryz.func35 (by kernel_rfl) rfl
theorem ent43:Ent Tryz.prog 43:=Ent.mk Tryz.func43 (by kernel_rfl) rfl
theorem ent44:Ent Tryz.prog 44:=Ent.mk Tryz.func44 (by kernel_rfl) rfl
theorem ent90:Ent Tryz.prog 90:=Ent.mk Tryz.func90 (by kernel_rfl) rfl
theorem ent109:Ent Tryz.prog 109:=Ent.mk Tryz.func109 (by kernel_rfl) rfl
theorem ent119:Ent Tryz.prog 119:=Ent.mk Tryz.func119 (by kernel_rfl) rfl
theorem ent148:Ent Tryz.prog 148:=Ent.mk Tryz.func148 (by kernel_rfl) rfl
theorem ent149:Ent Tryz.prog 149:=Ent.mk Tryz.func149 (by kernel_rfl) rfl
theorem ent150:Ent Tryz.prog 150:=Ent.mk Tryz.func150 (by kernel_rfl) rfl
theorem ent158:Ent Tryz.prog 158:=Ent.mk Tryz.func158 (by kernel_rfl) rfl
theorem ent161:Ent Tryz.prog 161:=Ent.mk Tryz.func161 (by kernel_rfl) rfl
theorem ent165:Ent Tryz.prog 165:=Ent.mk Tryz.func165 (by kernel_rfl) rfl
theorem ent166:Ent Tryz.prog 166:=Ent.mk Tryz.func166 (by kernel_rfl) rfl
theorem ent167:Ent Tryz.prog 167:=Ent.mk Tryz.func167 (by kernel_rfl) rfl
theorem ent170:Ent Tryz.prog 170:=Ent.mk Tryz.func170 (by kernel_rfl) rfl
theorem ent177:Ent Tryz.prog 177:=Ent.mk Tryz.func177 (by kernel_rfl) rfl
theorem ent187:Ent Tryz.prog 187:=Ent.mk Tryz.func187 (by kernel_rfl) rfl
theorem ent190:Ent Tryz.prog 190:=Ent.mk Tryz.func190 (by kernel_rfl) rfl
theorem ent193:Ent Tryz.prog 193:=Ent.mk Tryz.func193 (by kernel_rfl) rfl
theorem ent196:Ent Tryz.prog 196:=Ent.mk Tryz.func196 (by kernel_rfl) rfl
theorem ent208:Ent Tryz.prog 208:=Ent.mk Tryz.func208 (by kernel_rfl) rfl
theorem ent209:Ent Tryz.prog 209:=Ent.mk Tryz.func209 (by kernel_rfl) rfl
theorem ent214:Ent Tryz.prog 214:=Ent.mk Tryz.func214 (by kernel_rfl) rfl
abbrev u2{A B R:Type}(f:A→B→R)(x:A×B):=f x.1 x.2
abbrev u3{A B C R:Type}(f:A→B→C→R):=u2 fun a=>u2 (f a)
abbrev u4{A B C D R:Type}(f:A→B→C→D→R):=u2 fun a=>u3 (f a)
abbrev u5{A B C D E R:Type}(f:A→B→C→D→E→R):=u2 fun a=>u4 (f a)
abbrev u6{A B C D E F R:Type}(f:A→B→C→D→E→F→R):=u2 fun a=>u5 (f a)
abbrev u7{A B C D E F G R:Type}(f:A→B→C→D→E→F→G→R):=u2 fun a=>u6 (f a)
abbrev u8{A B C D E F G H R:Type}(f:A→B→C→D→E→F→G→H→R):=u2 fun a=>u7 (f a)
abbrev u9{A B C D E F G H I R:Type}(f:A→B→C→D→E→F→G→H→I→R):=u2 fun a=>u8 (f a)
abbrev u10{A B C D E F G H I J R:Type}(f:A→B→C→D→E→F→G→H→I→J→R):=u2 fun a=>u9 (f a)
abbrev u11{A B C D E F G H I J K R:Type}(f:A→B→C→D→E→F→G→H→I→J→K→R):=u2 fun a=>u10 (f a)
abbrev u12{A B C D E F G H I J K L R:Type}(f:A→B→C→D→E→F→G→H→I→J→K→L→R):=u2 fun a=>u11 (f a)
abbrev u13{A B C D E F G H I J K L M R:Type}(f:A→B→C→D→E→F→G→H→I→J→K→L→M→R):=u2 fun a=>u12 (f a)
open Go.Proofs.Tryz
namespace F157
noncomputable def H:Hd:=⟨[.agg [Si,Si,Si,Sw]],[.agg [Si,Si]], .d,⟨[],gl,false⟩,[],f157⟩
noncomputable def F:=u4 Ay3
theorem rn x:H.u P_ x=F x:=by kernel_rfl
noncomputable def c:Con:=⟨H.p,H.r,F⟩
theorem ok:ConOk P_ gl 157 c:=co H func157 .nil rn
end F157
namespace F100
abbrev R_:=(Int32×Int32×Int)
noncomputable def H:Hd:=⟨[Si],[Sx,Sx,Si],(.seq .d (.seq (.seq .d (.blk (.cut [0,7] [] .d .d))) .d)),⟨[],gl,false⟩,[],f100⟩
def x2(a:Int)(b:Bool):Option R_:=H.e P_ [r,l,r,d,r] ⟨[(0,vi a),(7,vt b)],[],[]⟩
theorem e2:x2=At9:=by kernel_rfl
noncomputable def F:=Af3
theorem rn x:H.u P_ x=F x:=Eq.trans (b:=Aty x2 x) (by kernel_rfl) (by simp only[e2]<;>rfl)
noncomputable def c:Con:=⟨H.p,H.r,F⟩
theorem ok:ConOk P_ gl 100 c:=co H func100 .nil rn
end F100
namespace F94
noncomputable def H:Hd:=⟨[.agg [Si,Si]],[Si], .d,⟨[(100,F100.c)],gl,false⟩,[],f94⟩
noncomputable def F:=u2 Rr
theorem rn x:H.u P_ x=F x:=by kernel_rfl
noncomputable def c:Con:=⟨H.p,H.r,F⟩
theorem ok:ConOk P_ gl 94 c:=co H func94 (.cons F100.ok .nil) rn
end F94
namespace F50
noncomputable def H:Hd:=⟨[Si],[Si,Si], .d,⟨[],gl,false⟩,[],f50⟩
noncomputable def F:=Abg
theorem rn x:H.u P_ x=F x:=by kernel_rfl
noncomputable def c:Con:=⟨H.p,H.r,F⟩
theorem ok:ConOk P_ gl 50 c:=co H func50 .nil rn
end F50
namespace F49
noncomputable def H:Hd:=⟨[Si,Si],[Si,Si], .d,⟨[(50,F50.c)],gl,false⟩,[],f49⟩
noncomputable def F:=u2 Rv
theorem rn x:H.u P_ x=F x:=by kernel_rfl
noncomputable def c:Con:=⟨H.p,H.r,F⟩
theorem ok:ConOk P_ gl 49 c:=co H func49 (.cons F50.ok .nil) rn
end F49
namespace F182
noncomputable def H:Hd:=⟨[.agg [Si,Si,Si,Sw],Si],[Si], .d,⟨[(49,F49.c),(94,F94.c),(157,F157.c)],gl,false⟩,[],f182⟩
noncomputable def F:=u5 Bk6
theorem rn x:H.u P_ x=F x:=by kernel_rfl
noncomputable def c:Con:=⟨H.p,H.r,F⟩
theorem ok:ConOk P_ gl 182 c:=co H func182 (.cons F49.ok (.cons F94.ok (.cons F157.ok .nil))) rn
end F182
namespace F47
abbrev R_:=Int
noncomputable def H:Hd:=⟨[Si,Sw],[Si],(.seq .d (.seq .d (.seq .d (.seq .d (.cut [] [] (.seq .d (.blk (.loop [5,6,22,23,24] [] .d))) .d))))),⟨[(100,F100.c)],gl,false⟩,[],f47⟩
def t4(b f:Int32)(a:LX)(g:Int):S:=⟨[(5,vx b),(6,vx f),(22,vw a),(23,vi (Ac a)),(24,vi g)],[],[]⟩
def z4:Nat→S→Option R_:=H.i P_ [r,r,r,r,l,r,d]
def x6:Option R_:=H.e P_ [r,r,r,r,r] ⟨[],[],[]⟩
def x4(b f:Int32)(a:LX)(g:Int):Option R_:=H.e P_ [r,r,r,r,l,r,d] (t4 b f a g)
theorem e6:x6=Ato:=by kernel_rfl
theorem i4(b f:Int32)(a:LX):∀(q:Nat) (g:Int),z4 q (t4 b f a g)=Pd b f a q g:=
 ind (fun _=>by kernel_rfl) fun q ih g=>Eq.trans (b:=Acz x6 (fun g=>(z4 q) (t4 b f a g)) b f a g) (by kernel_rfl) (by simp only[e6,ih]<;>rfl)
theorem e4:x4=Aug:=by funext b f a g;exact Eq.trans (by kernel_rfl) ((i4 b f a Dh g).trans (by rw[Ax];rfl))
noncomputable def F:=u2 Vk
theorem rn x:H.u P_ x=F x:=Eq.trans (b:=u2 (Aly x4) x) (by kernel_rfl) (by simp only[e4]<;>rfl)
noncomputable def c:Con:=⟨H.p,H.r,F⟩
theorem ok:ConOk P_ gl 47 c:=co H func47 (.cons F100.ok .nil) rn
end F47
namespace F154
noncomputable def H:Hd:=⟨[.agg [Si,Si,Si,Sw]],[Si], .d,⟨[(47,F47.c),(182,F182.c)],gl,false⟩,[],f154⟩
noncomputable def F:=u4 Aew
theorem rn x:H.u P_ x=F x:=by kernel_rfl
noncomputable def c:Con:=⟨H.p,H.r,F⟩
theorem ok:ConOk P_ gl 154 c:=co H func154 (.cons F47.ok (.cons F182.ok .nil)) rn
end F154
namespace F115
def Ahg(j2:LB→Int→Int→Int→LX→Option (Int×Int×Int×Int×Int×Int))(a b f:Int)(g:LX)(h:LB):Option (Int×Int×Int×Int×Int×Int):=
(Aew a b f g).bind fun k=>
if(Ay k 0)then
some (0,0,0,0,0,k)
else
if(Eb (Ac h) 64)then
some (0,0,0,0,0,2)
else
(Jm (Ay a 0)).bind fun _=>
bo (
j2 h a b f g)
theorem Ay2: @Ahg= @Akh:=by
  unfold Ahg Akh
  simp only[Ar2,Ahl,Ah5]
abbrev R_:=(Int×Int×Int×Int×Int×Int)
noncomputable def H:Hd:=⟨[.agg [Si,Si,Si,Sw],Ss],[.agg [Si,Si,Si,Si,Si],Si],(.seq .d (.seq .d (.seq .d (.cut [1,4,7] [] .d .d)))),⟨[(154,F154.c)],gl,false⟩,[],f115⟩
def x2(h:LB)(a b f:Int)(g:LX):Option R_:=H.e P_ [r,r,r,r] ⟨[(1,vs h),(4, .ptr 0 []),(7, .ptr 1 [])],[.box 26 (.agg [vi 0,vi 0,vi 0,vi 0,vi 0]), .box 26 (.agg [vi 1,vi a,vi b,vi f,vi (Cn (Ac g) a)])],[]⟩
theorem e2:x2=Auw:=by kernel_rfl
noncomputable def F:=u5 Bc1
theorem rn x:H.u P_ x=F x:=Eq.trans (b:=u5 (Ahg x2) x) (by kernel_rfl) (by unfold F;rw[Ay2];simp only[e2]<;>rfl)
noncomputable def c:Con:=⟨H.p,H.r,F⟩
theorem ok:ConOk P_ gl 115 c:=co H func115 (.cons F154.ok .nil) rn
end F115
namespace F135
abbrev R_:=(UInt64×Int)
abbrev K_:=S→Option R_
noncomputable def H:Hd:=⟨[Sq,Sb],[Sq,Si],(.seq .d (.seq .d (.cut [4,5] [] (.keep [0,1,4,5,9,10,11,12] true) .d))),⟨[],gl,false⟩,[(165,(.seq .d (.cut [1] [] (.seq .d (.blk (.loop [0,1,9,10,11] [] .d))) .d))),(166,(.seq .d (.seq .d (.cut [1] [] (.seq .d (.blk (.loop [1,5] [] (.seq .d (.seq .d (.cut [1,5] [] (.blk (.seq .d (.seq .d (.cut [1,2,3,5] [] (.seq .d (.blk (.loop [1,2,3,5,11] [] .d))) .d)))) .d)))))) .d))))],f135⟩
def t27(a:LB)(b:UInt64)(f:LQ)(h:UInt64)(m:Int):S:=⟨[(0, .ptr 0 []),(1,vq h),(9,vb a),(10,vi (Ac a)),(11,vi m)],[.box 273 (.val (.vec 256 (.int .u64)) f)],[[(0,vq b),(1,vb a),(4,vq 0),(5,vi 0),(9, .ptr 0 []),(10,vq b),(11,vb a)]]⟩
def z27:Nat→S→Option R_:=H.i P_ [r,r,l,(call 3 165),r,l,r,d]
def t21(b:UInt64)(a:LB)(g:Int)(f:LQ)(k:UInt64)(n:Int):S:=⟨[(1, .ptr 0 []),(2,vi g),(3,vq k),(5,vi g),(11,vi n)],[.box 273 (.val (.vec 256 (.int .u64)) f)],[[(0,vq b),(1,vb a),(4,vq 0),(5,vi 0)]]⟩
def z21(kn16:K_):Nat→S→Option R_:=H.i P_ [r,r,l,(call 0 166),r,r,l,r,d,(lp kn16),r,r,l,d,r,r,l,r,d]
def t16(b:UInt64)(a:LB)(g:Int)(f:LQ):S:=⟨[(1, .ptr 0 []),(5,vi g)],[.box 273 (.val (.vec 256 (.int .u64)) f)],[[(0,vq b),(1,vb a),(4,vq 0),(5,vi 0)]]⟩
def z16:Nat→S→Option R_:=H.i P_ [r,r,l,(call 0 166),r,r,l,r,d]
def x30(h:UInt64):Option R_:=H.e P_ [r,r,r] ⟨[(4,vq h),(5,vi 0)],[],[]⟩
def x29(h b:UInt64)(a:LB)(f:LQ):Option R_:=H.e P_ [r,r,l,(call 3 165),r,r] ⟨[(1,vq h)],[.box 273 (.val (.vec 256 (.int .u64)) f)],[[(0,vq b),(1,vb a),(4,vq 0),(5,vi 0),(9, .ptr 0 []),(10,vq b),(11,vb a)]]⟩
def x27(a:LB)(b:UInt64)(f:LQ)(h:UInt64)(m:Int):Option R_:=H.e P_ [r,r,l,(call 3 165),r,l,r,d] (t27 a b f h m)
def x26(b:UInt64)(a:LB)(f:LQ):Option R_:=H.e P_ [r,r,l,(call 0 166),r,r,r] ⟨[(1, .ptr 0 [])],[.box 273 (.val (.vec 256 (.int .u64)) f)],[[(0,vq b),(1,vb a),(4,vq 0),(5,vi 0)]]⟩
def x24(kn16:K_)(b:UInt64)(a:LB)(g:Int)(o:LQ):Option R_:=H.e P_ [r,r,l,(call 0 166),r,r,l,r,d,(lp kn16),r,r,r] ⟨[(1, .ptr 0 []),(5,vi g)],[.box 273 (.val (.vec 256 (.int .u64)) o)],[[(0,vq b),(1,vb a),(4,vq 0),(5,vi 0)]]⟩
def x23(kn16:K_)(b:UInt64)(a:LB)(g:Int)(k:UInt64)(f:LQ):Option R_:=H.e P_ [r,r,l,(call 0 166),r,r,l,r,d,(lp kn16),r,r,l,d,r,r,r] ⟨[(1, .ptr 0 []),(2,vi g),(3,vq k),(5,vi g)],[.box 273 (.val (.vec 256 (.int .u64)) f)],[[(0,vq b),(1,vb a),(4,vq 0),(5,vi 0)]]⟩
def x21(kn16:K_)(b:UInt64)(a:LB)(g:Int)(f:LQ)(k:UInt64)(n:Int):Option R_:=H.e P_ [r,r,l,(call 0 166),r,r,l,r,d,(lp kn16),r,r,l,d,r,r,l,r,d] (t21 b a g f k n)
def x16(b:UInt64)(a:LB)(g:Int)(f:LQ):Option R_:=H.e P_ [r,r,l,(call 0 166),r,r,l,r,d] (t16 b a g f)
theorem e30:x30=Aj2:=by kernel_rfl
theorem e29:x29=Alu:=Eq.trans (b:=Akd x30) (by kernel_rfl) (by simp only[e30]<;>rfl)
theorem i27(a:LB)(b:UInt64)(f:LQ):∀(q:Nat) (h:UInt64) (m:Int),z27 q (t27 a b f h m)=Ps a b f q h m:=
 ind (fun _ _=>by kernel_rfl) fun q ih h m=>Eq.trans (b:=Acu x29 (fun h m=>(z27 q) (t27 a b f h m)) a b f h m) (by kernel_rfl) (by simp only[e29,ih]<;>rfl)
theorem e27:x27=Alc:=by funext a b f h m;exact Eq.trans (by kernel_rfl) ((i27 a b f Dh h m).trans (by rw[Ax];rfl))
theorem e26:x26=Adc:=Eq.trans (b:=Ajp x27) (by kernel_rfl) (by simp only[e27]<;>rfl)
theorem e24(kn16:K_)(b:UInt64)(a:LB):x24 kn16 b a=Ak5 (fun g f=>kn16 (t16 b a g f)) b a:=by kernel_rfl
theorem e23(kn16:K_)(b:UInt64)(a:LB):x23 kn16 b a=Aca (fun g f=>kn16 (t16 b a g f)) b a:=Eq.trans (b:=Akn (x24 kn16 b a) b a) (by kernel_rfl) (by simp only[e24]<;>rfl)
theorem i21(kn16:K_)(b:UInt64)(a:LB)(g:Int)(f:LQ):∀(q:Nat) (k:UInt64) (n:Int),z21 kn16 q (t21 b a g f k n)=Pk (fun g f=>kn16 (t16 b a g f)) b a g f q k n:=
 ind (fun _ _=>by kernel_rfl) fun q ih k n=>Eq.trans (b:=Abr (x23 kn16 b a) (fun k n=>(z21 kn16 q) (t21 b a g f k n)) b a g f k n) (by kernel_rfl) (by simp only[e23,ih]<;>rfl)
theorem e21(kn16:K_)(b:UInt64)(a:LB):x21 kn16 b a=Aj8 (fun g f=>kn16 (t16 b a g f)) b a:=by funext g f k n;exact Eq.trans (by kernel_rfl) ((i21 kn16 b a g f Dh k n).trans (by rw[Ax];rfl))
theorem i16(b:UInt64)(a:LB):∀(q:Nat) (g:Int) (f:LQ),z16 q (t16 b a g f)=Ma b a q g f:=
 ind (fun _ _=>by kernel_rfl) fun q ih g f=>Eq.trans (b:=Ab8 (x21 (z16 q) b a) x26 b a g f) (by kernel_rfl) (by simp only[e21,e26,ih]<;>rfl)
theorem e16:x16=Ak3:=by funext b a g f;exact Eq.trans (by kernel_rfl) ((i16 b a Dh g f).trans (by rw[Ax];rfl))
noncomputable def F:=u2 Aqa
theorem rn x:H.u P_ x=F x:=Eq.trans (b:=u2 (Anc x16) x) (by kernel_rfl) (by simp only[e16]<;>rfl)
noncomputable def c:Con:=⟨H.p,H.r,F⟩
theorem ok:ConOk P_ gl 135 c:=cr H func135 .nil (AnsOk.cons ent165 (AnsOk.cons ent166 AnsOk.nil)) rn
end F135
namespace F92
noncomputable def H:Hd:=⟨[Sb],[Sq,Si], .d,⟨[(135,F135.c)],gl,false⟩,[],f92⟩
noncomputable def F:=Apf
theorem rn x:H.u P_ x=F x:=by kernel_rfl
noncomputable def c:Con:=⟨H.p,H.r,F⟩
theorem ok:ConOk P_ gl 92 c:=co H func92 (.cons F135.ok .nil) rn
end F92
namespace F93
abbrev R_:=LX
noncomputable def H:Hd:=⟨[Sq],[.lf (.vec 16 (.int .i32)) none],(.seq .d (.seq .d (.cut [2,3] [] (.seq .d (.blk (.loop [0,2,3,5] [] .d))) .d))),⟨[],gl,false⟩,[],f93⟩
def t4(f:UInt64)(b:Int)(a:LX):S:=⟨[(0,vq f),(2, .ptr 0 []),(3, .ptr 1 []),(5,vi b)],[.box 92 (.val (.vec 16 (.int .i32)) (List.replicate 16 (0:Int32))), .box 92 (.val (.vec 16 (.int .i32)) a)],[]⟩
def z4:Nat→S→Option R_:=H.i P_ [r,r,l,r,d]
def x6(a:LX):Option R_:=H.e P_ [r,r,r] ⟨[(2, .ptr 0 []),(3, .ptr 1 [])],[.box 92 (.val (.vec 16 (.int .i32)) (List.replicate 16 (0:Int32))), .box 92 (.val (.vec 16 (.int .i32)) a)],[]⟩
def x4(f:UInt64)(b:Int)(a:LX):Option R_:=H.e P_ [r,r,l,r,d] (t4 f b a)
theorem e6:x6=Bgo:=by kernel_rfl
theorem i4(f:UInt64):∀(q:Nat) (b:Int) (a:LX),z4 q (t4 f b a)=Ael f q b a:=
 ind (fun _ _=>by kernel_rfl) fun q ih b a=>Eq.trans (b:=Aqu x6 (fun b a=>(z4 q) (t4 f b a)) f b a) (by kernel_rfl) (by simp only[e6,ih]<;>rfl)
theorem e4:x4=Bg5:=by funext f b a;exact Eq.trans (by kernel_rfl) ((i4 f Dh b a).trans (by rw[Ax];rfl))
noncomputable def F:=Bmq
theorem rn x:H.u P_ x=F x:=Eq.trans (b:=Bgk x4 x) (by kernel_rfl) (by simp only[e4]<;>rfl)
noncomputable def c:Con:=⟨H.p,H.r,F⟩
theorem ok:ConOk P_ gl 93 c:=co H func93 .nil rn
end F93
namespace F45
noncomputable def H:Hd:=⟨[Ss],[.lf (.vec 16 (.int .i32)) none,Si], .d,⟨[(92,F92.c),(93,F93.c)],gl,false⟩,[],f45⟩
noncomputable def F:=Nl
theorem rn x:H.u P_ x=F x:=by kernel_rfl
noncomputable def c:Con:=⟨H.p,H.r,F⟩
theorem ok:ConOk P_ gl 45 c:=co H func45 (.cons F92.ok (.cons F93.ok .nil)) rn
end F45
namespace F192
noncomputable def H:Hd:=⟨[Sq,Sq],[Sq,Sq], .d,⟨[],gl,false⟩,[],f192⟩
noncomputable def F:=u2 Ah0
theorem rn x:H.u P_ x=F x:=by kernel_rfl
noncomputable def c:Con:=⟨H.p,H.r,F⟩
theorem ok:ConOk P_ gl 192 c:=co H func192 .nil rn
end F192
namespace F163
noncomputable def H:Hd:=⟨[Sq,Sq],[Sq,Sq], .d,⟨[(192,F192.c)],gl,false⟩,[],f163⟩
noncomputable def F:=u2 Afm
theorem rn x:H.u P_ x=F x:=by kernel_rfl
noncomputable def c:Con:=⟨H.p,H.r,F⟩
theorem ok:ConOk P_ gl 163 c:=co H func163 (.cons F192.ok .nil) rn
end F163
namespace F129
def Na(j10:LI→Option (LI))(bk8:Int→LI→Option (LI))(b:Int)(a:LI):Option (LI):=
if(Cb b (Ac a))then
both (
(vwI (Ac a) b (Ac a)).bind fun _=>
(vwI (Ac a) 0 b).bind fun _=>
bk8 (Ad b (Akp ((Ac a)-b) (Anf a 0 (b-(0:Int))).length)) (Rz a b ((Ac a)-b) (Anf a 0 (b-(0:Int))))) [
(vwI (Ac a) 0 b).bind fun _=>
(vwI (Ac a) b (Ac a)).bind fun _=>
bk8 (Ad b (Akp ((Ac a)-b) (Anf a 0 (b-(0:Int))).length)) (Rz a b ((Ac a)-b) (Anf a 0 (b-(0:Int))))]
else
j10 a
theorem Aho: @Na= @Gl:=by
  unfold Na Gl
  repeat (refine funext fun _=>?_)
  repeat' first
    |with_reducible rfl
    |with_reducible refine Mf ?_ ?_
    |with_reducible refine Mn ?_ ?_ ?_
    |with_reducible refine Mi ?_ ?_ ?_ ?_
    |((with_reducible refine Ql ?_ ?_);focus (intro h;first|(subst h;rfl)|(simp only[h];rfl)|(simp[Dg,Ac,h];done)))
    |with_reducible refine Re fun x=>?_
    |with_reducible refine Yl (fun _=>?_) (fun _=>?_)
    |(refine Gt (fun h=>by simp only[h,Qh,Ef,Ed,ite_self]) (fun x h=>?_);(try simp only[h,Ef]))
    |(refine Ja (fun h=>?_) (fun h=>?_)<;>simp only[h,if_true,if_false,Bool.false_eq_true])
abbrev R_:=LI
noncomputable def H:Hd:=⟨[Sl,Si],[Ol 3],(.seq .d (.cut [0,1] [] .d (.seq .d (.cut [0,6] [] .d (.seq .d (.seq .d (.cut [7] [] (.blk (.loop [7,8] [] (.seq .d (.blk (.mode false))))) .d))))))),⟨[(163,F163.c)],gl,true⟩,[],f129⟩
def t8(b:Int)(a:LI):S:=⟨[(7, .own 0),(8,vi b)],[Ai 3 a],[]⟩
def z8:Nat→S→Option R_:=H.i P_ [r,r,r,r,r,r,l,d]
def x10(a:LI):Option R_:=H.e P_ [r,r,r,r,r,r,r] ⟨[(7, .own 0)],[Ai 3 a],[]⟩
def x8(b:Int)(a:LI):Option R_:=H.e P_ [r,r,r,r,r,r,l,d] (t8 b a)
def x7(f:LI)(g:UInt64):Option R_:=H.e P_ [r,r,r,r] ⟨[(0,vl f),(6,vq g)],[],[]⟩
def x6(f:LI)(h:Int):Option R_:=H.e P_ [r,r] ⟨[(0,vl f),(1,vi h)],[],[]⟩
theorem e10:x10=Ij:=by kernel_rfl
theorem i8:∀(q:Nat) (b:Int) (a:LI),z8 q (t8 b a)=El q b a:=
 ind (fun _ _=>by kernel_rfl) fun q ih b a=>Eq.trans (b:=Na x10 (fun b a=>(z8 q) (t8 b a)) b a) (by kernel_rfl) (by rw[Aho];simp only[e10,ih]<;>rfl)
theorem e8:x8=Oc:=by funext b a;exact Eq.trans (by kernel_rfl) ((i8 Dh b a).trans (by rw[Ax];rfl))
theorem e7:x7=Oe:=Eq.trans (b:=Oa x8) (by kernel_rfl) (by simp only[e8]<;>rfl)
theorem e6:x6=Of:=Eq.trans (b:=Ok x7) (by kernel_rfl) (by simp only[e7]<;>rfl)
noncomputable def F:=u2 Mw
theorem rn x:H.u P_ x=F x:=Eq.trans (b:=u2 (Om x6) x) (by kernel_rfl) (by simp only[e6]<;>rfl)
noncomputable def c:Con:=⟨H.p,H.r,F⟩
theorem ok:ConOk P_ gl 129 c:=co H func129 (.cons F163.ok .nil) rn
end F129
namespace F164
abbrev R_:=LI
noncomputable def H:Hd:=⟨[.lf (.list (.list (.int .i64))) none],[Ol 3],(.seq .d (.seq .d (.cut [0,3] [] (.seq .d (.blk (.loop [0,3,9,10,11] [] .d))) (.cut [0,6] [⟨6,[], .own 3 (.int .i64)⟩] (.keep [0,3,6,23,24] true) (.cut [6] [] (.seq .d (.blk (.loop [6,25,26,27] [] .d))) .d))))),⟨[],gl,true⟩,[(193,(.seq .d (.cut [0,1] [] .d .d)))],f164⟩
def t14(a:List LI)(g:Int)(f:LI):S:=⟨[(6, .own 0),(25, .val (.list (.list (.int .i64))) a),(26,vi (Ac a)),(27,vi g)],[Ai 3 f],[]⟩
def z14:Nat→S→Option R_:=H.i P_ [r,r,r,r,l,r,d]
def t9(a:List LI)(b h:Int):S:=⟨[(0, .val (.list (.list (.int .i64))) a),(3,vi b),(9, .val (.list (.list (.int .i64))) a),(10,vi (Ac a)),(11,vi h)],[],[]⟩
def z9:Nat→S→Option R_:=H.i P_ [r,r,l,r,d]
def x16(f:LI):Option R_:=H.e P_ [r,r,r,r,r] ⟨[(6, .own 0)],[Ai 3 f],[]⟩
def x14(a:List LI)(g:Int)(f:LI):Option R_:=H.e P_ [r,r,r,r,l,r,d] (t14 a g f)
def x13(a:List LI)(k:LI):Option R_:=H.e P_ [r,r,r,r] ⟨[(0, .val (.list (.list (.int .i64))) a),(6, .own 0)],[Ai 3 k],[]⟩
def x12(b:Int)(a:List LI):Option R_:=H.e P_ [r,r,r,l,(call 1 193),r,r] ⟨[(0, .nils),(1,vi b)],[],[[(0, .val (.list (.list (.int .i64))) a),(3,vi b),(23,vi b)]]⟩
def x11(a:List LI)(b:Int):Option R_:=H.e P_ [r,r,r] ⟨[(0, .val (.list (.list (.int .i64))) a),(3,vi b)],[],[]⟩
def x9(a:List LI)(b h:Int):Option R_:=H.e P_ [r,r,l,r,d] (t9 a b h)
theorem e16:x16=Wn:=by kernel_rfl
theorem i14(a:List LI):∀(q:Nat) (g:Int) (f:LI),z14 q (t14 a g f)=Ds a q g f:=
 ind (fun _ _=>by kernel_rfl) fun q ih g f=>Eq.trans (b:=Fw x16 (fun g f=>(z14 q) (t14 a g f)) a g f) (by kernel_rfl) (by simp only[e16,ih]<;>rfl)
theorem e14:x14=Nh:=by funext a g f;exact Eq.trans (by kernel_rfl) ((i14 a Dh g f).trans (by rw[Ax];rfl))
theorem e13:x13=Il:=Eq.trans (b:=Ni x14) (by kernel_rfl) (by simp only[e14]<;>rfl)
theorem e12:x12=Nf:=Eq.trans (b:=Nk x13) (by kernel_rfl) (by simp only[e13]<;>rfl)
theorem e11:x11=Nb:=Eq.trans (b:=Nc x12) (by kernel_rfl) (by simp only[e12]<;>rfl)
theorem i9(a:List LI):∀(q:Nat) (b h:Int),z9 q (t9 a b h)=Ej a q b h:=
 ind (fun _ _=>by kernel_rfl) fun q ih b h=>Eq.trans (b:=Gk x11 (fun b h=>(z9 q) (t9 a b h)) a b h) (by kernel_rfl) (by simp only[e11,ih]<;>rfl)
theorem e9:x9=Og:=by funext a b h;exact Eq.trans (by kernel_rfl) ((i9 a Dh b h).trans (by rw[Ax];rfl))
noncomputable def F:=Mt
theorem rn x:H.u P_ x=F x:=Eq.trans (b:=Od x9 x) (by kernel_rfl) (by simp only[e9]<;>rfl)
noncomputable def c:Con:=⟨H.p,H.r,F⟩
theorem ok:ConOk P_ gl 164 c:=cr H func164 .nil (AnsOk.cons ent193 AnsOk.nil) rn
end F164
namespace F130
noncomputable def H:Hd:=⟨[Sl,Sl],[Ol 3], .d,⟨[(164,F164.c)],gl,false⟩,[],f130⟩
noncomputable def F:=u2 All
theorem rn x:H.u P_ x=F x:=by kernel_rfl
noncomputable def c:Con:=⟨H.p,H.r,F⟩
theorem ok:ConOk P_ gl 130 c:=co H func130 (.cons F164.ok .nil) rn
end F130
namespace F86
noncomputable def H:Hd:=⟨[Si,Si],[Ol 3,Si], .d,⟨[(49,F49.c),(50,F50.c),(129,F129.c),(130,F130.c)],gl,false⟩,[],f86⟩
noncomputable def F:=u2 Vv
theorem rn x:H.u P_ x=F x:=by kernel_rfl
noncomputable def c:Con:=⟨H.p,H.r,F⟩
theorem ok:ConOk P_ gl 86 c:=co H func86 (.cons F49.ok (.cons F50.ok (.cons F129.ok (.cons F130.ok .nil)))) rn
end F86
namespace F202
noncomputable def H:Hd:=⟨[.agg [Si,Si],Sw],[Si], .d,⟨[(47,F47.c),(94,F94.c)],gl,false⟩,[],f202⟩
noncomputable def F:=u3 Axc
theorem rn x:H.u P_ x=F x:=by kernel_rfl
noncomputable def c:Con:=⟨H.p,H.r,F⟩
theorem ok:ConOk P_ gl 202 c:=co H func202 (.cons F47.ok (.cons F94.ok .nil)) rn
end F202
namespace F175
noncomputable def H:Hd:=⟨[Si,Sw],[Si], .d,⟨[],gl,false⟩,[],f175⟩
noncomputable def F:=u2 Ape
theorem rn x:H.u P_ x=F x:=by kernel_rfl
noncomputable def c:Con:=⟨H.p,H.r,F⟩
theorem ok:ConOk P_ gl 175 c:=co H func175 .nil rn
end F175
namespace F176
def Km(a:LX):Option (LX):=
Bg9 a (
some ([]:LX)) (
(Dg ([]:LX) a).bind fun b=>
some b)
theorem Adh: @Km= @Eh:=by
  unfold Km Eh
  repeat (refine funext fun _=>?_)
  repeat' first
    |with_reducible rfl
    |with_reducible refine Mf ?_ ?_
    |with_reducible refine Mn ?_ ?_ ?_
    |with_reducible refine Mi ?_ ?_ ?_ ?_
    |((with_reducible refine Ql ?_ ?_);focus (intro h;first|(subst h;rfl)|(simp only[h];rfl)|(simp[Dg,Ac,h];done)))
    |with_reducible refine Re fun x=>?_
    |with_reducible refine Yl (fun _=>?_) (fun _=>?_)
    |(refine Gt (fun h=>by simp only[h,Qh,Ef,Ed,ite_self]) (fun x h=>?_);(try simp only[h,Ef]))
    |(refine Ja (fun h=>?_) (fun h=>?_)<;>simp only[h,if_true,if_false,Bool.false_eq_true])
noncomputable def H:Hd:=⟨[Sw],[Ow 21], .d,⟨[],gl,false⟩,[],f176⟩
noncomputable def F:=Eh
theorem rn x:H.u P_ x=F x:=Eq.trans (b:=Km x) (by kernel_rfl) (by rw[Adh];rfl)
noncomputable def c:Con:=⟨H.p,H.r,F⟩
theorem ok:ConOk P_ gl 176 c:=co H func176 .nil rn
end F176
namespace F203
abbrev R_:=(LX×Int)
abbrev K_:=S→Option R_
noncomputable def H:Hd:=⟨[Si,Sw],[Ow 21,Si],(.seq .d (.seq .d (.seq .d (.cut [7] [] (.seq .d (.blk (.loop [0,7,8] [] (.seq .d (.cut [0,7,8] [] (.blk (.keep [0,7,8,24,25,26,27,28,29] true)) .d))))) .d)))),⟨[(175,F175.c),(176,F176.c)],gl,true⟩,[(214,(.seq .d (.cut [0,2] [] (.seq .d (.blk (.loop [0,2,7,8] [] .d))) .d)))],f203⟩
def t17(b a h:Int)(g:LX):S:=⟨[(0, .view true 0 [] (.int .i32) a ((Ad a b)-a)),(2,vi (Ak ((Ad a b)-a) (1:Int))),(7,vi (Ak ((Ad a b)-a) (1:Int))),(8,vi h)],[Aw 21 g],[[(0,vi b),(7, .own 0),(8,vi a),(24, .own 0),(25,vi a),(26,vi a),(27,vi b),(28,vi (Ad a b)),(29, .view true 0 [] (.int .i32) a ((Ad a b)-a))]]⟩
def z17(kn12:K_):Nat→S→Option R_:=H.i P_ [r,r,r,l,r,d,(lp kn12),r,l,d,(call 6 214),r,l,r,d]
def t12(b a:Int)(f:LX):S:=⟨[(0,vi b),(7, .own 0),(8,vi a)],[Aw 21 f],[]⟩
def z12:Nat→S→Option R_:=H.i P_ [r,r,r,l,r,d]
def x22(f:LX):Option R_:=H.e P_ [r,r,r,r] ⟨[(7, .own 0)],[Aw 21 f],[]⟩
def x20(kn12:K_)(b a:Int)(k:LX):Option R_:=H.e P_ [r,r,r,l,r,d,(lp kn12),r,r] ⟨[(0,vi b),(7, .own 0),(8,vi a)],[Aw 21 k],[]⟩
def x19(kn12:K_)(b a:Int)(g:LX):Option R_:=H.e P_ [r,r,r,l,r,d,(lp kn12),r,l,d,(call 6 214),r,r] ⟨[(0, .view true 0 [] (.int .i32) a ((Ad a b)-a)),(2,vi (Ak ((Ad a b)-a) (1:Int)))],[Aw 21 g],[[(0,vi b),(7, .own 0),(8,vi a),(24, .own 0),(25,vi a),(26,vi a),(27,vi b),(28,vi (Ad a b)),(29, .view true 0 [] (.int .i32) a ((Ad a b)-a))]]⟩
def x17(kn12:K_)(b a h:Int)(g:LX):Option R_:=H.e P_ [r,r,r,l,r,d,(lp kn12),r,l,d,(call 6 214),r,l,r,d] (t17 b a h g)
def x12(b a:Int)(f:LX):Option R_:=H.e P_ [r,r,r,l,r,d] (t12 b a f)
theorem e22:x22=Bcw:=by kernel_rfl
theorem e20(kn12:K_)(b:Int):x20 kn12 b=Bc4 (fun a f=>kn12 (t12 b a f)) b:=by kernel_rfl
theorem e19(kn12:K_)(b:Int):x19 kn12 b=Bdx (fun a f=>kn12 (t12 b a f)) b:=Eq.trans (b:=Bd2 (x20 kn12 b) b) (by kernel_rfl) (by simp only[e20]<;>rfl)
theorem i17(kn12:K_)(b a:Int):∀(q:Nat) (h:Int) (g:LX),z17 kn12 q (t17 b a h g)=Avg (fun a f=>kn12 (t12 b a f)) b a q h g:=
 ind (fun _ _=>by kernel_rfl) fun q ih h g=>Eq.trans (b:=Bcu (x19 kn12 b) (fun h g=>(z17 kn12 q) (t17 b a h g)) b a h g) (by kernel_rfl) (by simp only[e19,ih]<;>rfl)
theorem e17(kn12:K_)(b:Int):x17 kn12 b=Bc8 (fun a f=>kn12 (t12 b a f)) b:=by funext a h g;exact Eq.trans (by kernel_rfl) ((i17 kn12 b a Dh h g).trans (by rw[Ax];rfl))
theorem i12(b:Int):∀(q:Nat) (a:Int) (f:LX),z12 q (t12 b a f)=Avb b q a f:=
 ind (fun _ _=>by kernel_rfl) fun q ih a f=>Eq.trans (b:=Bc3 (x17 (z12 q) b) x22 b a f) (by kernel_rfl) (by simp only[e17,e22,ih]<;>rfl)
theorem e12:x12=Bc6:=by funext b a f;exact Eq.trans (by kernel_rfl) ((i12 b Dh a f).trans (by rw[Ax];rfl))
noncomputable def F:=u2 Buz
theorem rn x:H.u P_ x=F x:=Eq.trans (b:=u2 (Bf2 x12) x) (by kernel_rfl) (by simp only[e12]<;>rfl)
noncomputable def c:Con:=⟨H.p,H.r,F⟩
theorem ok:ConOk P_ gl 203 c:=cr H func203 (.cons F175.ok (.cons F176.ok .nil)) (AnsOk.cons ent214 AnsOk.nil) rn
end F203
namespace F171
abbrev R_:=(Int×LX×LX×Int)
noncomputable def H:Hd:=⟨[Si, .lf (.vec 16 (.int .i32)) none],[.agg [Si, .lf (.vec 16 (.int .i32)) none, .lf (.vec 16 (.int .i32)) none],Si],(.seq .d (.seq .d (.seq (.seq .d (.blk (.cut [4,6,9,11] [] .d .d))) .d))),⟨[],gl,false⟩,[],f171⟩
def x2(a:Int)(b:LX)(f:Bool):Option R_:=H.e P_ [r,r,l,r,d,r] ⟨[(4, .ptr 0 []),(6, .ptr 1 []),(9,vi a),(11,vt f)],[.box 205 (.agg [vi 0, .val (.vec 16 (.int .i32)) (List.replicate 16 (0:Int32)), .val (.vec 16 (.int .i32)) (List.replicate 16 (0:Int32))]), .box 205 (.agg [vi 10, .val (.vec 16 (.int .i32)) b, .val (.vec 16 (.int .i32)) (List.replicate 16 (0:Int32))])],[]⟩
theorem e2:x2=Bdy:=by kernel_rfl
noncomputable def F:=u2 Azc
theorem rn x:H.u P_ x=F x:=Eq.trans (b:=u2 (Bcv x2) x) (by kernel_rfl) (by simp only[e2]<;>rfl)
noncomputable def c:Con:=⟨H.p,H.r,F⟩
theorem ok:ConOk P_ gl 171 c:=co H func171 .nil rn
end F171
namespace F142
noncomputable def H:Hd:=⟨[Si, .lf (.vec 16 (.int .i32)) none],[.agg [Si,Sx, .agg [Si, .lf (.vec 16 (.int .i32)) none, .lf (.vec 16 (.int .i32)) none]],Si], .d,⟨[(171,F171.c)],gl,false⟩,[],f142⟩
noncomputable def F:=u2 Bbl
theorem rn x:H.u P_ x=F x:=by kernel_rfl
noncomputable def c:Con:=⟨H.p,H.r,F⟩
theorem ok:ConOk P_ gl 142 c:=co H func142 (.cons F171.ok .nil) rn
end F142
namespace F172
noncomputable def H:Hd:=⟨[.agg [Si,Sx, .agg [Si, .lf (.vec 16 (.int .i32)) none, .lf (.vec 16 (.int .i32)) none]]],[Si], .d,⟨[(171,F171.c)],gl,false⟩,[],f172⟩
noncomputable def F:=u5 Uj
theorem rn x:H.u P_ x=F x:=by kernel_rfl
noncomputable def c:Con:=⟨H.p,H.r,F⟩
theorem ok:ConOk P_ gl 172 c:=co H func172 (.cons F171.ok .nil) rn
end F172
namespace F198
noncomputable def H:Hd:=⟨[Si],[Si,Si], .d,⟨[],gl,false⟩,[],f198⟩
noncomputable def F:=Aub
theorem rn x:H.u P_ x=F x:=by kernel_rfl
noncomputable def c:Con:=⟨H.p,H.r,F⟩
theorem ok:ConOk P_ gl 198 c:=co H func198 .nil rn
end F198
namespace F199
noncomputable def H:Hd:=⟨[Si,Sx],[Sx], .d,⟨[],gl,false⟩,[],f199⟩
noncomputable def F:=u2 Amc
theorem rn x:H.u P_ x=F x:=by kernel_rfl
noncomputable def c:Con:=⟨H.p,H.r,F⟩
theorem ok:ConOk P_ gl 199 c:=co H func199 .nil rn
end F199
namespace F173
noncomputable def H:Hd:=⟨[Si,Sx],[Sx,Si], .d,⟨[(198,F198.c),(199,F199.c)],gl,false⟩,[],f173⟩
noncomputable def F:=u2 Vg
theorem rn x:H.u P_ x=F x:=by kernel_rfl
noncomputable def c:Con:=⟨H.p,H.r,F⟩
theorem ok:ConOk P_ gl 173 c:=co H func173 (.cons F198.ok (.cons F199.ok .nil)) rn
end F173
namespace F211
noncomputable def H:Hd:=⟨[.agg [Si, .lf (.vec 16 (.int .i32)) none, .lf (.vec 16 (.int .i32)) none]],[Si], .d,⟨[],gl,false⟩,[],f211⟩
noncomputable def F:=u3 Ae4
theorem rn x:H.u P_ x=F x:=by kernel_rfl
noncomputable def c:Con:=⟨H.p,H.r,F⟩
theorem ok:ConOk P_ gl 211 c:=co H func211 .nil rn
end F211
namespace F200
abbrev R_:=(Int32×Int)
noncomputable def H:Hd:=⟨[.agg [Si, .lf (.vec 16 (.int .i32)) none, .lf (.vec 16 (.int .i32)) none]],[Sx,Si],(.seq .d (.seq .d (.seq .d (.cut [1,5] [] (.seq .d (.blk (.loop [1,5,18,19] [] .d))) .d)))),⟨[(211,F211.c)],gl,false⟩,[],f200⟩
def t4(b:LX)(a:Int)(f:LX)(g:Int32)(h:Int):S:=⟨[(1, .ptr 0 []),(5,vx g),(18, .val (.vec 16 (.int .i32)) b),(19,vi h)],[.box 205 (.agg [vi a, .val (.vec 16 (.int .i32)) b, .val (.vec 16 (.int .i32)) f])],[]⟩
def z4:Nat→S→Option R_:=H.i P_ [r,r,r,l,r,d]
def x6(g:Int32)(a:Int)(b f:LX):Option R_:=H.e P_ [r,r,r,r] ⟨[(1, .ptr 0 []),(5,vx g)],[.box 205 (.agg [vi a, .val (.vec 16 (.int .i32)) b, .val (.vec 16 (.int .i32)) f])],[]⟩
def x4(b:LX)(a:Int)(f:LX)(g:Int32)(h:Int):Option R_:=H.e P_ [r,r,r,l,r,d] (t4 b a f g h)
theorem e6:x6=Ant:=by kernel_rfl
theorem i4(b:LX)(a:Int)(f:LX):∀(q:Nat) (g:Int32) (h:Int),z4 q (t4 b a f g h)=Rs b a f q g h:=
 ind (fun _ _=>by kernel_rfl) fun q ih g h=>Eq.trans (b:=Afe x6 (fun g h=>(z4 q) (t4 b a f g h)) b a f g h) (by kernel_rfl) (by simp only[e6,ih]<;>rfl)
theorem e4:x4=Anr:=by funext b a f g h;exact Eq.trans (by kernel_rfl) ((i4 b a f Dh g h).trans (by rw[Ax];rfl))
noncomputable def F:=u3 Aku
theorem rn x:H.u P_ x=F x:=Eq.trans (b:=u3 (Am9 x4) x) (by kernel_rfl) (by simp only[e4]<;>rfl)
noncomputable def c:Con:=⟨H.p,H.r,F⟩
theorem ok:ConOk P_ gl 200 c:=co H func200 (.cons F211.ok .nil) rn
end F200
namespace F218
noncomputable def H:Hd:=⟨[Si],[Sx], .d,⟨[],gl,false⟩,[],f218⟩
noncomputable def F:=Aox
theorem rn x:H.u P_ x=F x:=by kernel_rfl
noncomputable def c:Con:=⟨H.p,H.r,F⟩
theorem ok:ConOk P_ gl 218 c:=co H func218 .nil rn
end F218
namespace F212
abbrev R_:=(Int×LX×LX×Int)
noncomputable def H:Hd:=⟨[.agg [Si, .lf (.vec 16 (.int .i32)) none, .lf (.vec 16 (.int .i32)) none],Sx],[.agg [Si, .lf (.vec 16 (.int .i32)) none, .lf (.vec 16 (.int .i32)) none],Si],(.seq .d (.seq .d (.seq .d (.cut [2,4] [] (.seq .d (.blk (.loop [1,2,4,19,20] [] .d))) .d)))),⟨[(211,F211.c),(218,F218.c)],gl,false⟩,[],f212⟩
def t4(h:Int32)(f:LX)(g a:Int)(b:LX):S:=⟨[(1,vx h),(2, .ptr 0 []),(4, .ptr 1 []),(19, .val (.vec 16 (.int .i32)) f),(20,vi a)],[.box 205 (.agg [vi g, .val (.vec 16 (.int .i32)) b, .val (.vec 16 (.int .i32)) f]), .box 205 (.agg [vi 0, .val (.vec 16 (.int .i32)) (List.replicate 16 (0:Int32)), .val (.vec 16 (.int .i32)) (List.replicate 16 (0:Int32))])],[]⟩
def z4:Nat→S→Option R_:=H.i P_ [r,r,r,l,r,d]
def x6(g:Int)(b f:LX):Option R_:=H.e P_ [r,r,r,r] ⟨[(2, .ptr 0 []),(4, .ptr 1 [])],[.box 205 (.agg [vi g, .val (.vec 16 (.int .i32)) b, .val (.vec 16 (.int .i32)) f]), .box 205 (.agg [vi 0, .val (.vec 16 (.int .i32)) (List.replicate 16 (0:Int32)), .val (.vec 16 (.int .i32)) (List.replicate 16 (0:Int32))])],[]⟩
def x4(h:Int32)(f:LX)(g a:Int)(b:LX):Option R_:=H.e P_ [r,r,r,l,r,d] (t4 h f g a b)
theorem e6:x6=Axq:=by kernel_rfl
theorem i4(h:Int32)(f:LX)(g:Int):∀(q:Nat) (a:Int) (b:LX),z4 q (t4 h f g a b)=Ry h f g q a b:=
 ind (fun _ _=>by kernel_rfl) fun q ih a b=>Eq.trans (b:=Aff x6 (fun a b=>(z4 q) (t4 h f g a b)) h f g a b) (by kernel_rfl) (by simp only[e6,ih]<;>rfl)
theorem e4:x4=Axe:=by funext h f g a b;exact Eq.trans (by kernel_rfl) ((i4 h f g Dh a b).trans (by rw[Ax];rfl))
noncomputable def F:=u4 Ap2
theorem rn x:H.u P_ x=F x:=Eq.trans (b:=u4 (Anh x4) x) (by kernel_rfl) (by simp only[e4]<;>rfl)
noncomputable def c:Con:=⟨H.p,H.r,F⟩
theorem ok:ConOk P_ gl 212 c:=co H func212 (.cons F211.ok (.cons F218.ok .nil)) rn
end F212
namespace F213
def An0(j2:Int32→Int→LX→LX→Option (Int×LX×LX×Int))(b:Int)(f a:LX)(g:Int32):Option (Int×LX×LX×Int):=
(Ae4 b f a).bind fun h=>
if(Ay h 0)then
some (0,(List.replicate 16 (0:Int32)),(List.replicate 16 (0:Int32)),h)
else
both (
(vwI 16 1 16).bind fun _=>
(vwI 16 0 16).bind fun _=>
j2 g b f a) [
(vwI 16 0 16).bind fun _=>
(vwI 16 1 16).bind fun _=>
j2 g b f a]
theorem Bck: @An0= @Aiu:=by
  unfold An0 Aiu
  repeat (refine funext fun _=>?_)
  repeat' first
    |with_reducible rfl
    |with_reducible refine Mf ?_ ?_
    |with_reducible refine Mn ?_ ?_ ?_
    |with_reducible refine Mi ?_ ?_ ?_ ?_
    |((with_reducible refine Ql ?_ ?_);focus (intro h;first|(subst h;rfl)|(simp only[h];rfl)|(simp[Dg,Ac,h];done)))
    |with_reducible refine Re fun x=>?_
    |with_reducible refine Yl (fun _=>?_) (fun _=>?_)
    |(refine Gt (fun h=>by simp only[h,Qh,Ef,Ed,ite_self]) (fun x h=>?_);(try simp only[h,Ef]))
    |(refine Ja (fun h=>?_) (fun h=>?_)<;>simp only[h,if_true,if_false,Bool.false_eq_true])
abbrev R_:=(Int×LX×LX×Int)
noncomputable def H:Hd:=⟨[.agg [Si, .lf (.vec 16 (.int .i32)) none, .lf (.vec 16 (.int .i32)) none],Sx],[.agg [Si, .lf (.vec 16 (.int .i32)) none, .lf (.vec 16 (.int .i32)) none],Si],(.seq .d (.seq .d (.cut [1,2,4] [] .d .d))),⟨[(211,F211.c)],gl,false⟩,[],f213⟩
def x2(g:Int32)(b:Int)(f a:LX):Option R_:=H.e P_ [r,r,r] ⟨[(1,vx g),(2, .ptr 0 []),(4, .ptr 1 [])],[.box 205 (.agg [vi b, .val (.vec 16 (.int .i32)) f, .val (.vec 16 (.int .i32)) (Rz a (1:Int) ((16:Int)-(1:Int)) (Anf a (0:Int) ((16:Int)-(0:Int))))]), .box 205 (.agg [vi 0, .val (.vec 16 (.int .i32)) (List.replicate 16 (0:Int32)), .val (.vec 16 (.int .i32)) (List.replicate 16 (0:Int32))])],[]⟩
theorem e2:x2=Apu:=by kernel_rfl
noncomputable def F:=u4 Avt
theorem rn x:H.u P_ x=F x:=Eq.trans (b:=u4 (An0 x2) x) (by kernel_rfl) (by unfold F;rw[Bck];simp only[e2]<;>rfl)
noncomputable def c:Con:=⟨H.p,H.r,F⟩
theorem ok:ConOk P_ gl 213 c:=co H func213 (.cons F211.ok .nil) rn
end F213
namespace F201
noncomputable def H:Hd:=⟨[.agg [Si, .lf (.vec 16 (.int .i32)) none, .lf (.vec 16 (.int .i32)) none],Sx,Sx],[.agg [Si, .lf (.vec 16 (.int .i32)) none, .lf (.vec 16 (.int .i32)) none]], .d,⟨[(212,F212.c),(213,F213.c)],gl,false⟩,[],f201⟩
noncomputable def F:=u5 Aqy
theorem rn x:H.u P_ x=F x:=by kernel_rfl
noncomputable def c:Con:=⟨H.p,H.r,F⟩
theorem ok:ConOk P_ gl 201 c:=co H func201 (.cons F212.ok (.cons F213.ok .nil)) rn
end F201
namespace F215
noncomputable def H:Hd:=⟨[.agg [Si, .lf (.vec 16 (.int .i32)) none, .lf (.vec 16 (.int .i32)) none],Sx],[Sx, .agg [Si, .lf (.vec 16 (.int .i32)) none, .lf (.vec 16 (.int .i32)) none],Si], .d,⟨[(200,F200.c),(201,F201.c)],gl,false⟩,[],f215⟩
noncomputable def F:=u4 Au5
theorem rn x:H.u P_ x=F x:=by kernel_rfl
noncomputable def c:Con:=⟨H.p,H.r,F⟩
theorem ok:ConOk P_ gl 215 c:=co H func215 (.cons F200.ok (.cons F201.ok .nil)) rn
end F215
namespace F204
def Aa3(a:Int)(b:Int32)(f:Int)(g h:LX)(k:Int32):Option (Int32×Int×Int32×Int×LX×LX×Int):=
(Uj a b f g h).bind fun m=>
if(Ay m 0)then
some (0,0,0,0,(List.replicate 16 (0:Int32)),(List.replicate 16 (0:Int32)),m)
else
(Vg a b).bind fun(n,y)=>
(Au5 f g h (Ak k n)).bind fun(o,p,u,v,w)=>
bo (
some (o,a,k,p,u,v,w))
theorem Atg: @Aa3= @Afi:=by
  unfold Aa3 Afi
  simp only[Ar2,Ahl,Ah5]
noncomputable def H:Hd:=⟨[.agg [Si,Sx, .agg [Si, .lf (.vec 16 (.int .i32)) none, .lf (.vec 16 (.int .i32)) none]],Sx],[Sx, .agg [Si,Sx, .agg [Si, .lf (.vec 16 (.int .i32)) none, .lf (.vec 16 (.int .i32)) none]],Si],(.seq .d (.seq .d (.seq .d (.seq .d (.seq (.mode false) .d))))),⟨[(172,F172.c),(173,F173.c),(215,F215.c)],gl,false⟩,[],f204⟩
noncomputable def F:=u6 Afi
theorem rn x:H.u P_ x=F x:=Eq.trans (b:=u6 Aa3 x) (by kernel_rfl) (by rw[Atg];rfl)
noncomputable def c:Con:=⟨H.p,H.r,F⟩
theorem ok:ConOk P_ gl 204 c:=co H func204 (.cons F172.ok (.cons F173.ok (.cons F215.ok .nil))) rn
end F204
namespace F205
noncomputable def H:Hd:=⟨[Sx],[Su], .d,⟨[],gl,false⟩,[],f205⟩
noncomputable def F:=Bkg
theorem rn x:H.u P_ x=F x:=by kernel_rfl
noncomputable def c:Con:=⟨H.p,H.r,F⟩
theorem ok:ConOk P_ gl 205 c:=co H func205 .nil rn
end F205
namespace F184
abbrev R_:=(LU×Int)
noncomputable def H:Hd:=⟨[.agg [Si,Si], .lf (.vec 16 (.int .i32)) none,Sw],[Ov 131,Si],(.seq .d (.seq .d (.seq .d (.seq .d (.seq .d (.cut [3,9,11] [] (.seq .d (.blk (.loop [3,4,9,11,36] [] .d))) (.seq .d (.cut [13] [] (.seq .d (.blk (.loop [3,11,13,49,50,51] [⟨13,[], .own 131 (.int .u32)⟩] .d))) .d)))))))),⟨[(142,F142.c),(202,F202.c),(203,F203.c),(204,F204.c),(205,F205.c)],gl,false⟩,[],f184⟩
def t10(b:LX)(a f g:Int)(o:List (Int×Int32×(Int×LX×LX×Unit)×Unit))(k:LU):S:=⟨[(3, .ptr 0 []),(11, .ptr 1 []),(13, .own 2),(49, .own 3),(50,vi (Ac b)),(51,vi g)],[.box 44 (.agg [vi a,vi f]), .box 208 (.val (.vec 6 (.cons (.int .i64) (.cons (.int .i32) (.cons (.cons (.int .i64) (.cons (.vec 16 (.int .i32)) (.cons (.vec 16 (.int .i32)) .nil))) .nil)))) o),Av 131 k,Aw 21 b],[]⟩
def z10:Nat→S→Option R_:=H.i P_ [r,r,r,r,r,r,r,l,r,d]
def t7(a f:Int)(m b:LX)(n:Int)(h:List (Int×Int32×(Int×LX×LX×Unit)×Unit)):S:=⟨[(3, .ptr 0 []),(4, .ptr 1 []),(9, .own 2),(11, .ptr 3 []),(36,vi n)],[.box 44 (.agg [vi a,vi f]), .box 92 (.val (.vec 16 (.int .i32)) m),Aw 21 b, .box 208 (.val (.vec 6 (.cons (.int .i64) (.cons (.int .i32) (.cons (.cons (.int .i64) (.cons (.vec 16 (.int .i32)) (.cons (.vec 16 (.int .i32)) .nil))) .nil)))) h)],[]⟩
def z7:Nat→S→Option R_:=H.i P_ [r,r,r,r,r,l,r,d]
def x12(k:LU):Option R_:=H.e P_ [r,r,r,r,r,r,r,r] ⟨[(13, .own 0)],[Av 131 k],[]⟩
def x10(b:LX)(a f g:Int)(o:List (Int×Int32×(Int×LX×LX×Unit)×Unit))(k:LU):Option R_:=H.e P_ [r,r,r,r,r,r,r,l,r,d] (t10 b a f g o k)
def x9(a f:Int)(b:LX)(h:List (Int×Int32×(Int×LX×LX×Unit)×Unit)):Option R_:=H.e P_ [r,r,r,r,r,r] ⟨[(3, .ptr 0 []),(9, .own 1),(11, .ptr 2 [])],[.box 44 (.agg [vi a,vi f]),Aw 21 b, .box 208 (.val (.vec 6 (.cons (.int .i64) (.cons (.int .i32) (.cons (.cons (.int .i64) (.cons (.vec 16 (.int .i32)) (.cons (.vec 16 (.int .i32)) .nil))) .nil)))) h)],[]⟩
def x7(a f:Int)(m b:LX)(n:Int)(h:List (Int×Int32×(Int×LX×LX×Unit)×Unit)):Option R_:=H.e P_ [r,r,r,r,r,l,r,d] (t7 a f m b n h)
theorem e12:x12=Akx:=by kernel_rfl
theorem i10(b:LX)(a f:Int):∀(q:Nat) (g:Int) (o:List (Int×Int32×(Int×LX×LX×Unit)×Unit)) (k:LU),z10 q (t10 b a f g o k)=Ys b a f q g o k:=
 ind (fun _ _ _=>by kernel_rfl) fun q ih g o k=>Eq.trans (b:=Ajx x12 (fun g o k=>(z10 q) (t10 b a f g o k)) b a f g o k) (by kernel_rfl) (by simp only[e12,ih]<;>rfl)
theorem e10:x10=Alh:=by funext b a f g o k;exact Eq.trans (by kernel_rfl) ((i10 b a f Dh g o k).trans (by rw[Ax];rfl))
theorem e9:x9=Ami:=Eq.trans (b:=Am6 x10) (by kernel_rfl) (by simp only[e10]<;>rfl)
theorem i7(a f:Int)(m b:LX):∀(q:Nat) (n:Int) (h:List (Int×Int32×(Int×LX×LX×Unit)×Unit)),z7 q (t7 a f m b n h)=Acy a f m b q n h:=
 ind (fun _ _=>by kernel_rfl) fun q ih n h=>Eq.trans (b:=Amq x9 (fun n h=>(z7 q) (t7 a f m b n h)) a f m b n h) (by kernel_rfl) (by simp only[e9,ih]<;>rfl)
theorem e7:x7=Amj:=by funext a f m b n h;exact Eq.trans (by kernel_rfl) ((i7 a f m b Dh n h).trans (by rw[Ax];rfl))
noncomputable def F:=u4 As5
theorem rn x:H.u P_ x=F x:=Eq.trans (b:=u4 (Amt x7) x) (by kernel_rfl) (by simp only[e7]<;>rfl)
noncomputable def c:Con:=⟨H.p,H.r,F⟩
theorem ok:ConOk P_ gl 184 c:=co H func184 (.cons F142.ok (.cons F202.ok (.cons F203.ok (.cons F204.ok (.cons F205.ok .nil))))) rn
end F184
namespace F137
noncomputable def H:Hd:=⟨[],[.agg [Si,Si,Sq,Sq]], .d,⟨[],gl,false⟩,[],f137⟩
noncomputable def F(x:Unit):=Ay5
theorem rn x:H.u P_ x=F x:=by kernel_rfl
noncomputable def c:Con:=⟨H.p,H.r,F⟩
theorem ok:ConOk P_ gl 137 c:=co H func137 .nil rn
end F137
namespace F185
abbrev R_:=((List (Int×Int×UInt64×UInt64×Unit)))
noncomputable def H:Hd:=⟨[],[.lf (.vec 6 (.cons (.int .i64) (.cons (.int .i64) (.cons (.int .u64) (.cons (.int .u64) .nil))))) none],(.seq .d (.seq .d (.cut [0,1] [] (.seq .d (.blk (.loop [0,1,3] [] .d))) .d))),⟨[(137,F137.c)],gl,false⟩,[],f185⟩
def t4(b:Int)(a:List (Int×Int×UInt64×UInt64×Unit)):S:=⟨[(0, .ptr 0 []),(1, .ptr 1 []),(3,vi b)],[.box 197 (.val (.vec 6 (.cons (.int .i64) (.cons (.int .i64) (.cons (.int .u64) (.cons (.int .u64) .nil))))) (List.replicate 6 ((0:Int),(0:Int),(0:UInt64),(0:UInt64),()))), .box 197 (.val (.vec 6 (.cons (.int .i64) (.cons (.int .i64) (.cons (.int .u64) (.cons (.int .u64) .nil))))) a)],[]⟩
def z4:Nat→S→Option R_:=H.i P_ [r,r,l,r,d]
def x6(a:List (Int×Int×UInt64×UInt64×Unit)):Option R_:=H.e P_ [r,r,r] ⟨[(0, .ptr 0 []),(1, .ptr 1 [])],[.box 197 (.val (.vec 6 (.cons (.int .i64) (.cons (.int .i64) (.cons (.int .u64) (.cons (.int .u64) .nil))))) (List.replicate 6 ((0:Int),(0:Int),(0:UInt64),(0:UInt64),()))), .box 197 (.val (.vec 6 (.cons (.int .i64) (.cons (.int .i64) (.cons (.int .u64) (.cons (.int .u64) .nil))))) a)],[]⟩
def x4(b:Int)(a:List (Int×Int×UInt64×UInt64×Unit)):Option R_:=H.e P_ [r,r,l,r,d] (t4 b a)
theorem e6:x6=Aml:=by kernel_rfl
theorem i4:∀(q:Nat) (b:Int) (a:List (Int×Int×UInt64×UInt64×Unit)),z4 q (t4 b a)=Acr q b a:=
 ind (fun _ _=>by kernel_rfl) fun q ih b a=>Eq.trans (b:=Amh x6 (fun b a=>(z4 q) (t4 b a)) b a) (by kernel_rfl) (by simp only[e6,ih]<;>rfl)
theorem e4:x4=Am4:=by funext b a;exact Eq.trans (by kernel_rfl) ((i4 Dh b a).trans (by rw[Ax];rfl))
noncomputable def F(x:Unit):=As4
theorem rn x:H.u P_ x=F x:=Eq.trans (b:=Al3 x4) (by kernel_rfl) (by simp only[e4]<;>rfl)
noncomputable def c:Con:=⟨H.p,H.r,F⟩
theorem ok:ConOk P_ gl 185 c:=co H func185 (.cons F137.ok .nil) rn
end F185
namespace F140
noncomputable def H:Hd:=⟨[.agg [Sb,Si]],[Si], .d,⟨[],gl,false⟩,[],f140⟩
noncomputable def F:=u2 Ji
theorem rn x:H.u P_ x=F x:=by kernel_rfl
noncomputable def c:Con:=⟨H.p,H.r,F⟩
theorem ok:ConOk P_ gl 140 c:=co H func140 .nil rn
end F140
namespace F168
def Akj(j4:Int→Int→UInt64→UInt64→Option Int)(a b:Int)(f g:UInt64):Option Int:=
both (
bo (
j4 a b f g)) [
j4 a b f g]
theorem Bad: @Akj= @Afo:=by
  unfold Akj Afo
  repeat (refine funext fun _=>?_)
  repeat' first
    |with_reducible rfl
    |with_reducible refine Mf ?_ ?_
    |with_reducible refine Mn ?_ ?_ ?_
    |with_reducible refine Mi ?_ ?_ ?_ ?_
    |((with_reducible refine Ql ?_ ?_);focus (intro h;first|(subst h;rfl)|(simp only[h];rfl)|(simp[Dg,Ac,h];done)))
    |with_reducible refine Re fun x=>?_
    |with_reducible refine Yl (fun _=>?_) (fun _=>?_)
    |(refine Gt (fun h=>by simp only[h,Qh,Ef,Ed,ite_self]) (fun x h=>?_);(try simp only[h,Ef]))
    |(refine Ja (fun h=>?_) (fun h=>?_)<;>simp only[h,if_true,if_false,Bool.false_eq_true])
def Aky(j3:Int→Int→UInt64→UInt64→Option Int)(a b:Int)(f g:UInt64):Option Int:=
both (
bo (
j3 a b f g)) [
j3 a b f g]
theorem Azk: @Aky= @Afp:=by
  unfold Aky Afp
  repeat (refine funext fun _=>?_)
  repeat' first
    |with_reducible rfl
    |with_reducible refine Mf ?_ ?_
    |with_reducible refine Mn ?_ ?_ ?_
    |with_reducible refine Mi ?_ ?_ ?_ ?_
    |((with_reducible refine Ql ?_ ?_);focus (intro h;first|(subst h;rfl)|(simp only[h];rfl)|(simp[Dg,Ac,h];done)))
    |with_reducible refine Re fun x=>?_
    |with_reducible refine Yl (fun _=>?_) (fun _=>?_)
    |(refine Gt (fun h=>by simp only[h,Qh,Ef,Ed,ite_self]) (fun x h=>?_);(try simp only[h,Ef]))
    |(refine Ja (fun h=>?_) (fun h=>?_)<;>simp only[h,if_true,if_false,Bool.false_eq_true])
abbrev R_:=Int
noncomputable def H:Hd:=⟨[.agg [Si,Si,Sq,Sq]],[Si],(.seq .d (.seq .d (.cut [1,3] [] (.mode false) (.cut [1,3] [] (.mode false) .d)))),⟨[],gl,false⟩,[],f168⟩
def x4(a b:Int)(f g:UInt64):Option R_:=H.e P_ [r,r,r,r] ⟨[(1, .ptr 0 []),(3, .ptr 1 [])],[.box 196 (.agg [vi a,vi b,vq f,vq g]), .box 196 (.agg [vi (Dz (Awr a (0:Int)) (24:Int)),vi (Dz (Awr b (0:Int)) (24:Int)),vq (Dz f (68719476735:UInt64)),vq (Dz g (68719476735:UInt64))])],[]⟩
def x3(a b:Int)(f g:UInt64):Option R_:=H.e P_ [r,r,r] ⟨[(1, .ptr 0 []),(3, .ptr 1 [])],[.box 196 (.agg [vi a,vi b,vq f,vq g]), .box 196 (.agg [vi (Dz (Awr a (0:Int)) (24:Int)),vi (Dz (Awr b (0:Int)) (24:Int)),vq f,vq g])],[]⟩
theorem e4:x4=An4:=by kernel_rfl
theorem e3:x3=Ans:=Eq.trans (b:=Akj x4) (by kernel_rfl) (by rw[Bad];simp only[e4]<;>rfl)
noncomputable def F:=u4 Alx
theorem rn x:H.u P_ x=F x:=Eq.trans (b:=u4 (Aky x3) x) (by kernel_rfl) (by unfold F;rw[Azk];simp only[e3]<;>rfl)
noncomputable def c:Con:=⟨H.p,H.r,F⟩
theorem ok:ConOk P_ gl 168 c:=co H func168 .nil rn
end F168
namespace F197
noncomputable def H:Hd:=⟨[.agg [Si,Si,Sq,Sq],Su],[Si,Su], .d,⟨[],gl,false⟩,[],f197⟩
noncomputable def F:=u5 Afc
theorem rn x:H.u P_ x=F x:=by kernel_rfl
noncomputable def c:Con:=⟨H.p,H.r,F⟩
theorem ok:ConOk P_ gl 197 c:=co H func197 .nil rn
end F197
namespace F136
def Mc(a:LB):Option (LB):=
Bg9 a (
some ([]:LB)) (
(Dg ([]:LB) a).bind fun b=>
some b)
theorem Af6: @Mc= @Ft:=by
  unfold Mc Ft
  repeat (refine funext fun _=>?_)
  repeat' first
    |with_reducible rfl
    |with_reducible refine Mf ?_ ?_
    |with_reducible refine Mn ?_ ?_ ?_
    |with_reducible refine Mi ?_ ?_ ?_ ?_
    |((with_reducible refine Ql ?_ ?_);focus (intro h;first|(subst h;rfl)|(simp only[h];rfl)|(simp[Dg,Ac,h];done)))
    |with_reducible refine Re fun x=>?_
    |with_reducible refine Yl (fun _=>?_) (fun _=>?_)
    |(refine Gt (fun h=>by simp only[h,Qh,Ef,Ed,ite_self]) (fun x h=>?_);(try simp only[h,Ef]))
    |(refine Ja (fun h=>?_) (fun h=>?_)<;>simp only[h,if_true,if_false,Bool.false_eq_true])
noncomputable def H:Hd:=⟨[Sb],[Ob 5], .d,⟨[],gl,false⟩,[],f136⟩
noncomputable def F:=Ft
theorem rn x:H.u P_ x=F x:=Eq.trans (b:=Mc x) (by kernel_rfl) (by rw[Af6];rfl)
noncomputable def c:Con:=⟨H.p,H.r,F⟩
theorem ok:ConOk P_ gl 136 c:=co H func136 .nil rn
end F136
namespace F216
noncomputable def H:Hd:=⟨[.agg [Sb,Si]],[.agg [Ob 5,Si]], .d,⟨[(136,F136.c)],gl,false⟩,[],f216⟩
noncomputable def F:=u2 Bbd
theorem rn x:H.u P_ x=F x:=by kernel_rfl
noncomputable def c:Con:=⟨H.p,H.r,F⟩
theorem ok:ConOk P_ gl 216 c:=co H func216 (.cons F136.ok .nil) rn
end F216
namespace F206
abbrev R_:=(LB×Int×Int)
abbrev K_:=S→Option R_
noncomputable def H:Hd:=⟨[.agg [Sb,Si],Sq,Si],[.agg [Ob 5,Si],Si],(.seq .d (.seq .d (.seq .d (.cut [3,6] [] (.keep [1,2,3,6,40,41] true) .d)))),⟨[(140,F140.c),(216,F216.c)],gl,false⟩,[(167,(.blk (.loop [0,1,2] [] (.seq .d (.blk (.cut [0,1,2] [] .d (.seq .d (.cut [0,1,2,7] [] .d .d))))))))],f206⟩
def t15(b:UInt64)(a:Int)(m:UInt64)(h f:Int)(o:LB):S:=⟨[(0, .ptr 0 []),(1,vq m),(2,vi h)],[.box 148 (.agg [.own 2,vi f]), .box 148 (.agg [.nils,vi 0]),Ab 5 o],[[(1,vq b),(2,vi a),(3, .ptr 0 []),(6, .ptr 1 []),(40,vq b),(41,vi a)]]⟩
def z15:Nat→S→Option R_:=H.i P_ [r,r,r,l,(call 2 167),d]
def t22(b:UInt64)(a:Int)(n:UInt64)(k g:Int)(p:LB):S:=⟨[(0, .ptr 0 []),(1,vq n),(2,vi k)],[.box 148 (.agg [.own 2,vi g]), .box 148 (.agg [.nils,vi 0]),Ab 5 p],[[(1,vq b),(2,vi a),(3, .ptr 0 []),(6, .ptr 1 []),(40,vq b),(41,vi a)]]⟩
def z22:Nat→S→Option R_:=H.i P_ [r,r,r,l,(call 2 167),d]
def x21(f:Int)(o:LB):Option R_:=H.e P_ [r,r,r,r] ⟨[(3, .ptr 0 []),(6, .ptr 1 [])],[.box 148 (.agg [.own 2,vi f]), .box 148 (.agg [.nils,vi 0]),Ab 5 o],[]⟩
def x19(kn15:K_)(b:UInt64)(a:Int)(m:UInt64)(h f:Int)(w:LB):Option R_:=H.e P_ [r,r,r,l,(call 2 167),d,(lp kn15),r,d,r,r,r] ⟨[(0, .ptr 0 []),(1,vq m),(2,vi h),(7,vi (Dz h (Ak (8:Int) (Dt f (7:Int)))))],[.box 148 (.agg [.own 2,vi f]), .box 148 (.agg [.nils,vi 0]),Ab 5 w],[[(1,vq b),(2,vi a),(3, .ptr 0 []),(6, .ptr 1 []),(40,vq b),(41,vi a)]]⟩
def x18(kn15:K_)(b:UInt64)(a:Int)(m:UInt64)(h f:Int)(u:LB):Option R_:=H.e P_ [r,r,r,l,(call 2 167),d,(lp kn15),r,d,r] ⟨[(0, .ptr 0 []),(1,vq m),(2,vi h)],[.box 148 (.agg [.own 2,vi f]), .box 148 (.agg [.nils,vi 0]),Ab 5 u],[[(1,vq b),(2,vi a),(3, .ptr 0 []),(6, .ptr 1 []),(40,vq b),(41,vi a)]]⟩
def x15(b:UInt64)(a:Int)(m:UInt64)(h f:Int)(o:LB):Option R_:=H.e P_ [r,r,r,l,(call 2 167),d] (t15 b a m h f o)
def x28(g:Int)(p:LB):Option R_:=H.e P_ [r,r,r,r] ⟨[(3, .ptr 0 []),(6, .ptr 1 [])],[.box 148 (.agg [.own 2,vi g]), .box 148 (.agg [.nils,vi 0]),Ab 5 p],[]⟩
def x26(kn22:K_)(b:UInt64)(a:Int)(n:UInt64)(k g:Int)(y:LB):Option R_:=H.e P_ [r,r,r,l,(call 2 167),d,(lp kn22),r,d,r,r,r] ⟨[(0, .ptr 0 []),(1,vq n),(2,vi k),(7,vi (Dz k (Ak (8:Int) (Dt g (7:Int)))))],[.box 148 (.agg [.own 2,vi g]), .box 148 (.agg [.nils,vi 0]),Ab 5 y],[[(1,vq b),(2,vi a),(3, .ptr 0 []),(6, .ptr 1 []),(40,vq b),(41,vi a)]]⟩
def x25(kn22:K_)(b:UInt64)(a:Int)(n:UInt64)(k g:Int)(v:LB):Option R_:=H.e P_ [r,r,r,l,(call 2 167),d,(lp kn22),r,d,r] ⟨[(0, .ptr 0 []),(1,vq n),(2,vi k)],[.box 148 (.agg [.own 2,vi g]), .box 148 (.agg [.nils,vi 0]),Ab 5 v],[[(1,vq b),(2,vi a),(3, .ptr 0 []),(6, .ptr 1 []),(40,vq b),(41,vi a)]]⟩
def x22(b:UInt64)(a:Int)(n:UInt64)(k g:Int)(p:LB):Option R_:=H.e P_ [r,r,r,l,(call 2 167),d] (t22 b a n k g p)
theorem e21:x21=Az4:=by kernel_rfl
theorem e19(kn15:K_)(b:UInt64)(a:Int):x19 kn15 b a=Bak (fun m h f o=>kn15 (t15 b a m h f o)) b a:=by kernel_rfl
theorem e18(kn15:K_)(b:UInt64)(a:Int):x18 kn15 b a=Ay9 (fun m h f o=>kn15 (t15 b a m h f o)) b a:=Eq.trans (b:=Bay (x19 kn15 b a) b a) (by kernel_rfl) (by simp only[e19]<;>rfl)
theorem i15(b:UInt64)(a:Int):∀(q:Nat) (m:UInt64) (h f:Int) (o:LB),z15 q (t15 b a m h f o)=Apx b a q m h f o:=
 ind (fun _ _ _ _=>by kernel_rfl) fun q ih m h f o=>Eq.trans (b:=Azw (x18 (z15 q) b a) x21 b a m h f o) (by kernel_rfl) (by simp only[e18,e21,ih]<;>rfl)
theorem e15:x15=Bao:=by funext b a m h f o;exact Eq.trans (by kernel_rfl) ((i15 b a Dh m h f o).trans (by rw[Ax];rfl))
theorem e28:x28=Azf:=by kernel_rfl
theorem e26(kn22:K_)(b:UInt64)(a:Int):x26 kn22 b a=Azi (fun n k g p=>kn22 (t22 b a n k g p)) b a:=by kernel_rfl
theorem e25(kn22:K_)(b:UInt64)(a:Int):x25 kn22 b a=Azd (fun n k g p=>kn22 (t22 b a n k g p)) b a:=Eq.trans (b:=Bag (x26 kn22 b a) b a) (by kernel_rfl) (by simp only[e26]<;>rfl)
theorem i22(b:UInt64)(a:Int):∀(q:Nat) (n:UInt64) (k g:Int) (p:LB),z22 q (t22 b a n k g p)=Ap0 b a q n k g p:=
 ind (fun _ _ _ _=>by kernel_rfl) fun q ih n k g p=>Eq.trans (b:=Ban (x25 (z22 q) b a) x28 b a n k g p) (by kernel_rfl) (by simp only[e25,e28,ih]<;>rfl)
theorem e22:x22=Bau:=by funext b a n k g p;exact Eq.trans (by kernel_rfl) ((i22 b a Dh n k g p).trans (by rw[Ax];rfl))
noncomputable def F:=u4 Avh
theorem rn x:H.u P_ x=F x:=Eq.trans (b:=u4 (Bdw x15 x22) x) (by kernel_rfl) (by simp only[e15,e22]<;>rfl)
noncomputable def c:Con:=⟨H.p,H.r,F⟩
theorem ok:ConOk P_ gl 206 c:=cr H func206 (.cons F140.ok (.cons F216.ok .nil)) (AnsOk.cons ent167 AnsOk.nil) rn
end F206
namespace F195
noncomputable def H:Hd:=⟨[Su,Si],[Sz], .d,⟨[],gl,false⟩,[],f195⟩
noncomputable def F:=u2 Aix
theorem rn x:H.u P_ x=F x:=by kernel_rfl
noncomputable def c:Con:=⟨H.p,H.r,F⟩
theorem ok:ConOk P_ gl 195 c:=co H func195 .nil rn
end F195
namespace F219
noncomputable def H:Hd:=⟨[Si],[Si,Si], .d,⟨[],gl,false⟩,[],f219⟩
noncomputable def F:=Bai
theorem rn x:H.u P_ x=F x:=by kernel_rfl
noncomputable def c:Con:=⟨H.p,H.r,F⟩
theorem ok:ConOk P_ gl 219 c:=co H func219 .nil rn
end F219
namespace F217
noncomputable def H:Hd:=⟨[.agg [Sb,Si],Si],[.agg [Ob 5,Si],Si], .d,⟨[(140,F140.c),(206,F206.c),(219,F219.c)],gl,false⟩,[],f217⟩
noncomputable def F:=u3 Bdl
theorem rn x:H.u P_ x=F x:=by kernel_rfl
noncomputable def c:Con:=⟨H.p,H.r,F⟩
theorem ok:ConOk P_ gl 217 c:=co H func217 (.cons F140.ok (.cons F206.ok (.cons F219.ok .nil))) rn
end F217
namespace F207
abbrev R_:=(LB×Int×Int)
noncomputable def H:Hd:=⟨[.agg [Sb,Si],Su,Si],[.agg [Ob 5,Si],Si],(.seq .d (.seq .d (.seq .d (.seq .d (.cut [3,6,9,10,11] [] .d .d))))),⟨[(140,F140.c),(195,F195.c),(206,F206.c),(217,F217.c)],gl,false⟩,[],f207⟩
def x2(b:LB)(f h:Int)(k:UInt32)(m:Int):Option R_:=H.e P_ [r,r,r,r,r] ⟨[(3, .ptr 0 []),(6, .ptr 1 []),(9,vi h),(10,vu k),(11,vi m)],[.box 148 (.agg [vb b,vi f]), .box 148 (.agg [.nils,vi 0])],[]⟩
theorem e2:x2=Aw1:=by kernel_rfl
noncomputable def F:=u4 Bf4
theorem rn x:H.u P_ x=F x:=Eq.trans (b:=u4 (Aw0 x2) x) (by kernel_rfl) (by simp only[e2]<;>rfl)
noncomputable def c:Con:=⟨H.p,H.r,F⟩
theorem ok:ConOk P_ gl 207 c:=co H func207 (.cons F140.ok (.cons F195.ok (.cons F206.ok (.cons F217.ok .nil)))) rn
end F207
namespace F186
def Ahq(k u n:Int)(a:UInt64)(b:UInt32)(o:UInt64)(m:LB):Option (LB×Int×Int×Int×UInt64×UInt64×Int):=
(fun af:Option (LB×Int×Int×Int×UInt64×UInt64×Int)=>
both (
bo (
af)) [
af]) (
some (m,k,u,n,(Ad a (Ak (Ae b:UInt64) (Ce a (GI.toZ (4:UInt64)).toNat))),o,0))
theorem Ayx: @Ahq= @Al1:=by
  unfold Ahq Al1
  try simp only[Ar2,Ahl,Ah5]
  all_goals
    repeat (refine funext fun _=>?_)
    repeat' first
      |with_reducible rfl
      |with_reducible refine Mf ?_ ?_
      |with_reducible refine Mn ?_ ?_ ?_
      |with_reducible refine Mi ?_ ?_ ?_ ?_
      |((with_reducible refine Ql ?_ ?_);focus (intro h;first|(subst h;rfl)|(simp only[h];rfl)|(simp[Dg,Ac,h];done)))
      |with_reducible refine Re fun x=>?_
      |with_reducible refine Yl (fun _=>?_) (fun _=>?_)
      |(refine Gt (fun h=>by simp only[h,Qh,Ef,Ed,ite_self]) (fun x h=>?_);(try simp only[h,Ef]))
      |(refine Ja (fun h=>?_) (fun h=>?_)<;>simp only[h,if_true,if_false,Bool.false_eq_true])
abbrev R_:=(LB×Int×Int×Int×UInt64×UInt64×Int)
noncomputable def H:Hd:=⟨[.agg [Sb,Si], .agg [Si,Si,Sq,Sq],Su],[.agg [Ob 5,Si], .agg [Si,Si,Sq,Sq],Si],(.seq .d (.cut [2,3,4,6,7] [] .d (.seq .d (.seq .d (.cut [2,3,4,6,7,11] [] .d (.seq .d (.cut [3,4,6,7] [] (.keep [2,3,4,6,7,65] true) (.seq (.mode false) .d)))))))),⟨[(140,F140.c),(168,F168.c),(197,F197.c),(206,F206.c),(207,F207.c)],gl,false⟩,[(170,(.seq .d (.seq .d (.seq .d (.blk (.cut [0,1,4] [] (.blk (.seq .d (.keep [0,1,4,6,18,19,20,21,22,23,24,25] true))) (.cut [] [] (.keep [0,1,4,27,28,29,30,31,32,33,34] true) .d))))))),(196, .d)],f186⟩
def x10(k u n:Int)(a:UInt64)(b:UInt32)(o:UInt64)(m:LB):Option R_:=H.e P_ [r,r,r,r,r,r,r] ⟨[(3, .ptr 0 []),(4, .ptr 1 []),(6, .ptr 2 []),(7, .ptr 3 [])],[.box 148 (.agg [.own 4,vi k]), .box 196 (.agg [vi u,vi n,vq (Ad a (Ak (Ae b:UInt64) (Ce a (GI.toZ (4:UInt64)).toNat))),vq o]), .box 148 (.agg [.nils,vi 0]), .box 196 (.agg [vi 0,vi 0,vq 0,vq 0]),Ab 5 m],[]⟩
def x9(b:UInt32)(k n:Int)(a o:UInt64)(m:LB)(u:Int):Option R_:=H.e P_ [r,r,r,r,r,r,l,(call 1 170),r,r,r,d,r,r] ⟨[],[.box 148 (.agg [.own 4,vi k]), .box 196 (.agg [vi u,vi n,vq (Ad a (Ak (Ae b:UInt64) (Ce a (GI.toZ (4:UInt64)).toNat))),vq o]), .box 148 (.agg [.nils,vi 0]), .box 196 (.agg [vi 0,vi 0,vq 0,vq 0]),Ab 5 m],[[(2,vu b),(3, .ptr 0 []),(4, .ptr 1 []),(6, .ptr 2 []),(7, .ptr 3 []),(65,vu b)]]⟩
def x8(b:UInt32)(f:Int)(a:UInt64)(k:Int)(m:LB)(n:Int)(o:UInt64):Option R_:=H.e P_ [r,r,r,r,r,r,l,(call 1 170),r,r,r,d,r] ⟨[(0, .ptr 0 []),(1,vu b),(4, .fn 196 [])],[.box 196 (.agg [vi f,vi n,vq a,vq o]), .box 148 (.agg [.own 4,vi k]), .box 148 (.agg [.nils,vi 0]), .box 196 (.agg [vi 0,vi 0,vq 0,vq 0]),Ab 5 m],[[(2,vu b),(3, .ptr 1 []),(4, .ptr 0 []),(6, .ptr 2 []),(7, .ptr 3 []),(65,vu b)]]⟩
def x7(b:UInt32)(f h:Int)(a g:UInt64)(y k:Int)(m:LB):Option R_:=H.e P_ [r,r,r,r,r] ⟨[(2,vu b),(3, .ptr 0 []),(4, .ptr 1 []),(6, .ptr 2 []),(7, .ptr 3 []),(11,vi y)],[.box 148 (.agg [.own 4,vi k]), .box 196 (.agg [vi f,vi h,vq a,vq g]), .box 148 (.agg [.nils,vi 0]), .box 196 (.agg [vi 0,vi 0,vq 0,vq 0]),Ab 5 m],[]⟩
def x6(b:UInt32)(v:LB)(w f h:Int)(a g:UInt64):Option R_:=H.e P_ [r,r] ⟨[(2,vu b),(3, .ptr 0 []),(4, .ptr 1 []),(6, .ptr 2 []),(7, .ptr 3 [])],[.box 148 (.agg [vb v,vi w]), .box 196 (.agg [vi f,vi h,vq a,vq g]), .box 148 (.agg [.nils,vi 0]), .box 196 (.agg [vi 0,vi 0,vq 0,vq 0])],[]⟩
theorem e10:x10=Atf:=Eq.trans (b:=Ahq) (by kernel_rfl) (by rw[Ayx];rfl)
theorem e9:x9=Axb:=Eq.trans (b:=Axd x10) (by kernel_rfl) (by simp only[e10]<;>rfl)
theorem e8:x8=Aw9:=Eq.trans (b:=Axk x9) (by kernel_rfl) (by simp only[e9]<;>rfl)
theorem e7:x7=Axh:=Eq.trans (b:=Axs x8) (by kernel_rfl) (by simp only[e8]<;>rfl)
theorem e6:x6=Axr:=Eq.trans (b:=Axp x7) (by kernel_rfl) (by simp only[e7]<;>rfl)
noncomputable def F:=u7 Bhv
theorem rn x:H.u P_ x=F x:=Eq.trans (b:=u7 (Axn x6) x) (by kernel_rfl) (by simp only[e6]<;>rfl)
noncomputable def c:Con:=⟨H.p,H.r,F⟩
theorem ok:ConOk P_ gl 186 c:=cr H func186 (.cons F140.ok (.cons F168.ok (.cons F197.ok (.cons F206.ok (.cons F207.ok .nil))))) (AnsOk.cons ent170 (AnsOk.cons ent196 AnsOk.nil)) rn
end F186
namespace F126
abbrev R_:=(UInt32×Int)
abbrev K_:=S→Option R_
noncomputable def H:Hd:=⟨[Su,Sb],[Su,Si],(.seq .d (.seq .d (.cut [0,1,6] [] (.keep [0,1,6,12] true) (.cut [0] [] (.seq .d (.blk (.loop [0,6,13,14,15] [] .d))) .d)))),⟨[],gl,false⟩,[(161,(.seq .d (.seq .d (.cut [1] [] (.seq .d (.blk (.loop [1,5] [] (.seq .d (.seq .d (.cut [1,5] [] (.blk (.seq .d (.seq .d (.cut [1,2,3,5] [] (.seq .d (.blk (.loop [1,2,3,5,10] [] .d))) .d)))) .d)))))) .d))))],f126⟩
def t28(a:LB)(b:LU)(h:UInt32)(m:Int):S:=⟨[(0,vu h),(6, .ptr 0 []),(13,vb a),(14,vi (Ac a)),(15,vi m)],[.box 267 (.val (.vec 256 (.int .u32)) b)],[]⟩
def z28:Nat→S→Option R_:=H.i P_ [r,r,r,l,r,d]
def t21(f:UInt32)(a:LB)(g:Int)(b:LU)(k:UInt32)(n:Int):S:=⟨[(1, .ptr 0 []),(2,vi g),(3,vu k),(5,vi g),(10,vi n)],[.box 267 (.val (.vec 256 (.int .u32)) b)],[[(0,vu f),(1,vb a)]]⟩
def z21(kn16:K_):Nat→S→Option R_:=H.i P_ [r,r,l,(call 0 161),r,r,l,r,d,(lp kn16),r,r,l,d,r,r,l,r,d]
def t16(f:UInt32)(a:LB)(g:Int)(b:LU):S:=⟨[(1, .ptr 0 []),(5,vi g)],[.box 267 (.val (.vec 256 (.int .u32)) b)],[[(0,vu f),(1,vb a)]]⟩
def z16:Nat→S→Option R_:=H.i P_ [r,r,l,(call 0 161),r,r,l,r,d]
def x30(h:UInt32):Option R_:=H.e P_ [r,r,r,r] ⟨[(0,vu h)],[],[]⟩
def x28(a:LB)(b:LU)(h:UInt32)(m:Int):Option R_:=H.e P_ [r,r,r,l,r,d] (t28 a b h m)
def x27(f:UInt32)(a:LB)(b:LU):Option R_:=H.e P_ [r,r,r] ⟨[(0,vu f),(1,vb a),(6, .ptr 0 [])],[.box 267 (.val (.vec 256 (.int .u32)) b)],[]⟩
def x26(f:UInt32)(a:LB)(b:LU):Option R_:=H.e P_ [r,r,l,(call 0 161),r,r,r] ⟨[(1, .ptr 0 [])],[.box 267 (.val (.vec 256 (.int .u32)) b)],[[(0,vu f),(1,vb a)]]⟩
def x24(kn16:K_)(f:UInt32)(a:LB)(g:Int)(o:LU):Option R_:=H.e P_ [r,r,l,(call 0 161),r,r,l,r,d,(lp kn16),r,r,r] ⟨[(1, .ptr 0 []),(5,vi g)],[.box 267 (.val (.vec 256 (.int .u32)) o)],[[(0,vu f),(1,vb a)]]⟩
def x23(kn16:K_)(f:UInt32)(a:LB)(g:Int)(k:UInt32)(b:LU):Option R_:=H.e P_ [r,r,l,(call 0 161),r,r,l,r,d,(lp kn16),r,r,l,d,r,r,r] ⟨[(1, .ptr 0 []),(2,vi g),(3,vu k),(5,vi g)],[.box 267 (.val (.vec 256 (.int .u32)) b)],[[(0,vu f),(1,vb a)]]⟩
def x21(kn16:K_)(f:UInt32)(a:LB)(g:Int)(b:LU)(k:UInt32)(n:Int):Option R_:=H.e P_ [r,r,l,(call 0 161),r,r,l,r,d,(lp kn16),r,r,l,d,r,r,l,r,d] (t21 f a g b k n)
def x16(f:UInt32)(a:LB)(g:Int)(b:LU):Option R_:=H.e P_ [r,r,l,(call 0 161),r,r,l,r,d] (t16 f a g b)
theorem e30:x30=Ajz:=by kernel_rfl
theorem i28(a:LB)(b:LU):∀(q:Nat) (h:UInt32) (m:Int),z28 q (t28 a b h m)=Pf a b q h m:=
 ind (fun _ _=>by kernel_rfl) fun q ih h m=>Eq.trans (b:=Ab2 x30 (fun h m=>(z28 q) (t28 a b h m)) a b h m) (by kernel_rfl) (by simp only[e30,ih]<;>rfl)
theorem e28:x28=Ajw:=by funext a b h m;exact Eq.trans (by kernel_rfl) ((i28 a b Dh h m).trans (by rw[Ax];rfl))
theorem e27:x27=Alb:=Eq.trans (b:=Aj0 x28) (by kernel_rfl) (by simp only[e28]<;>rfl)
theorem e26:x26=Abx:=Eq.trans (b:=Ald x27) (by kernel_rfl) (by simp only[e27]<;>rfl)
theorem e24(kn16:K_)(f:UInt32)(a:LB):x24 kn16 f a=Ajo (fun g b=>kn16 (t16 f a g b)) f a:=by kernel_rfl
theorem e23(kn16:K_)(f:UInt32)(a:LB):x23 kn16 f a=Ab9 (fun g b=>kn16 (t16 f a g b)) f a:=Eq.trans (b:=Alz (x24 kn16 f a) f a) (by kernel_rfl) (by simp only[e24]<;>rfl)
theorem i21(kn16:K_)(f:UInt32)(a:LB)(g:Int)(b:LU):∀(q:Nat) (k:UInt32) (n:Int),z21 kn16 q (t21 f a g b k n)=Pb (fun g b=>kn16 (t16 f a g b)) f a g b q k n:=
 ind (fun _ _=>by kernel_rfl) fun q ih k n=>Eq.trans (b:=Abs (x23 kn16 f a) (fun k n=>(z21 kn16 q) (t21 f a g b k n)) f a g b k n) (by kernel_rfl) (by simp only[e23,ih]<;>rfl)
theorem e21(kn16:K_)(f:UInt32)(a:LB):x21 kn16 f a=Ajt (fun g b=>kn16 (t16 f a g b)) f a:=by funext g b k n;exact Eq.trans (by kernel_rfl) ((i21 kn16 f a g b Dh k n).trans (by rw[Ax];rfl))
theorem i16(f:UInt32)(a:LB):∀(q:Nat) (g:Int) (b:LU),z16 q (t16 f a g b)=Mh f a q g b:=
 ind (fun _ _=>by kernel_rfl) fun q ih g b=>Eq.trans (b:=Acq (x21 (z16 q) f a) x26 f a g b) (by kernel_rfl) (by simp only[e21,e26,ih]<;>rfl)
theorem e16:x16=Ajm:=by funext f a g b;exact Eq.trans (by kernel_rfl) ((i16 f a Dh g b).trans (by rw[Ax];rfl))
noncomputable def F:=u2 Ap5
theorem rn x:H.u P_ x=F x:=Eq.trans (b:=u2 (Anu x16) x) (by kernel_rfl) (by simp only[e16]<;>rfl)
noncomputable def c:Con:=⟨H.p,H.r,F⟩
theorem ok:ConOk P_ gl 126 c:=cr H func126 .nil (AnsOk.cons ent161 AnsOk.nil) rn
end F126
namespace F80
noncomputable def H:Hd:=⟨[Sb],[Su,Si], .d,⟨[(126,F126.c)],gl,false⟩,[],f80⟩
noncomputable def F:=Wg
theorem rn x:H.u P_ x=F x:=by kernel_rfl
noncomputable def c:Con:=⟨H.p,H.r,F⟩
theorem ok:ConOk P_ gl 80 c:=co H func80 (.cons F126.ok .nil) rn
end F80
namespace F162
noncomputable def H:Hd:=⟨[Sq,Si],[Sz], .d,⟨[],gl,false⟩,[],f162⟩
noncomputable def F:=u2 Beo
theorem rn x:H.u P_ x=F x:=by kernel_rfl
noncomputable def c:Con:=⟨H.p,H.r,F⟩
theorem ok:ConOk P_ gl 162 c:=co H func162 .nil rn
end F162
namespace F128
abbrev R_:=(LB×Int)
noncomputable def H:Hd:=⟨[Sq,Si],[Ob 5,Si],(.seq .d (.seq .d (.seq .d (.seq .d (.cut [6] [] (.seq .d (.blk (.loop [0,6,21,22] [] .d))) .d))))),⟨[(162,F162.c)],gl,false⟩,[],f128⟩
def t4(f:UInt64)(g:LB)(b:Int)(a:LB):S:=⟨[(0,vq f),(6, .own 0),(21,vi (Ac g)),(22,vi b)],[Ab 5 a],[]⟩
def z4:Nat→S→Option R_:=H.i P_ [r,r,r,r,l,r,d]
def x6(a:LB):Option R_:=H.e P_ [r,r,r,r,r] ⟨[(6, .own 0)],[Ab 5 a],[]⟩
def x4(f:UInt64)(g:LB)(b:Int)(a:LB):Option R_:=H.e P_ [r,r,r,r,l,r,d] (t4 f g b a)
theorem e6:x6=As9:=by kernel_rfl
theorem i4(f:UInt64)(g:LB):∀(q:Nat) (b:Int) (a:LB),z4 q (t4 f g b a)=Zo f g q b a:=
 ind (fun _ _=>by kernel_rfl) fun q ih b a=>Eq.trans (b:=Ame x6 (fun b a=>(z4 q) (t4 f g b a)) f g b a) (by kernel_rfl) (by simp only[e6,ih]<;>rfl)
theorem e4:x4=Ava:=by funext f g b a;exact Eq.trans (by kernel_rfl) ((i4 f g Dh b a).trans (by rw[Ax];rfl))
noncomputable def F:=u2 Xv
theorem rn x:H.u P_ x=F x:=Eq.trans (b:=u2 (Atp x4) x) (by kernel_rfl) (by simp only[e4]<;>rfl)
noncomputable def c:Con:=⟨H.p,H.r,F⟩
theorem ok:ConOk P_ gl 128 c:=co H func128 (.cons F162.ok .nil) rn
end F128
namespace F188
abbrev R_:=LB
noncomputable def H:Hd:=⟨[.lf (.list (.list (.int .u8))) none],[Ob 5],(.seq .d (.seq .d (.cut [0,3] [] (.seq .d (.blk (.loop [0,3,9,10,11] [] .d))) (.cut [0,6] [⟨6,[], .own 5 (.int .u8)⟩] (.keep [0,3,6,23,24] true) (.cut [6] [] (.seq .d (.blk (.loop [6,25,26,27] [] .d))) .d))))),⟨[],gl,true⟩,[(208,(.seq .d (.cut [0,1] [] .d .d)))],f188⟩
def t14(a:List LB)(g:Int)(f:LB):S:=⟨[(6, .own 0),(25, .val (.list (.list (.int .u8))) a),(26,vi (Ac a)),(27,vi g)],[Ab 5 f],[]⟩
def z14:Nat→S→Option R_:=H.i P_ [r,r,r,r,l,r,d]
def t9(a:List LB)(b h:Int):S:=⟨[(0, .val (.list (.list (.int .u8))) a),(3,vi b),(9, .val (.list (.list (.int .u8))) a),(10,vi (Ac a)),(11,vi h)],[],[]⟩
def z9:Nat→S→Option R_:=H.i P_ [r,r,l,r,d]
def x16(f:LB):Option R_:=H.e P_ [r,r,r,r,r] ⟨[(6, .own 0)],[Ab 5 f],[]⟩
def x14(a:List LB)(g:Int)(f:LB):Option R_:=H.e P_ [r,r,r,r,l,r,d] (t14 a g f)
def x13(a:List LB)(k:LB):Option R_:=H.e P_ [r,r,r,r] ⟨[(0, .val (.list (.list (.int .u8))) a),(6, .own 0)],[Ab 5 k],[]⟩
def x12(b:Int)(a:List LB):Option R_:=H.e P_ [r,r,r,l,(call 1 208),r,r] ⟨[(0, .nils),(1,vi b)],[],[[(0, .val (.list (.list (.int .u8))) a),(3,vi b),(23,vi b)]]⟩
def x11(a:List LB)(b:Int):Option R_:=H.e P_ [r,r,r] ⟨[(0, .val (.list (.list (.int .u8))) a),(3,vi b)],[],[]⟩
def x9(a:List LB)(b h:Int):Option R_:=H.e P_ [r,r,l,r,d] (t9 a b h)
theorem e16:x16=Ua:=by kernel_rfl
theorem i14(a:List LB):∀(q:Nat) (g:Int) (f:LB),z14 q (t14 a g f)=Lf a q g f:=
 ind (fun _ _=>by kernel_rfl) fun q ih g f=>Eq.trans (b:=Tz x16 (fun g f=>(z14 q) (t14 a g f)) a g f) (by kernel_rfl) (by simp only[e16,ih]<;>rfl)
theorem e14:x14=Ti:=by funext a g f;exact Eq.trans (by kernel_rfl) ((i14 a Dh g f).trans (by rw[Ax];rfl))
theorem e13:x13=Tr:=Eq.trans (b:=Tw x14) (by kernel_rfl) (by simp only[e14]<;>rfl)
theorem e12:x12=Ub:=Eq.trans (b:=Ue x13) (by kernel_rfl) (by simp only[e13]<;>rfl)
theorem e11:x11=Tt:=Eq.trans (b:=Tm x12) (by kernel_rfl) (by simp only[e12]<;>rfl)
theorem i9(a:List LB):∀(q:Nat) (b h:Int),z9 q (t9 a b h)=Lt a q b h:=
 ind (fun _ _=>by kernel_rfl) fun q ih b h=>Eq.trans (b:=Vo x11 (fun b h=>(z9 q) (t9 a b h)) a b h) (by kernel_rfl) (by simp only[e11,ih]<;>rfl)
theorem e9:x9=Ul:=by funext a b h;exact Eq.trans (by kernel_rfl) ((i9 a Dh b h).trans (by rw[Ax];rfl))
noncomputable def F:=Zz
theorem rn x:H.u P_ x=F x:=Eq.trans (b:=Vx x9 x) (by kernel_rfl) (by simp only[e9]<;>rfl)
noncomputable def c:Con:=⟨H.p,H.r,F⟩
theorem ok:ConOk P_ gl 188 c:=cr H func188 .nil (AnsOk.cons ent208 AnsOk.nil) rn
end F188
namespace F156
abbrev R_:=(LB×Int)
abbrev K_:=S→Option R_
noncomputable def H:Hd:=⟨[.agg [Si,Si], .lf (.vec 16 (.int .i32)) none,Sw],[Ob 5,Si],(.seq .d (.seq .d (.seq .d (.seq .d (.seq .d (.cut [11] [] (.seq .d (.blk (.loop [3,10,11,30,31,32] [⟨11,[0], .own 5 (.int .u8)⟩] (.seq .d (.seq .d (.cut [3,10,11,30,31,32] [] (.blk (.seq .d (.seq .d (.seq .d (.seq .d (.keep [3,10,11,14,30,31,32,59] true)))))) .d)))))) .d)))))),⟨[(80,F80.c),(128,F128.c),(184,F184.c),(185,F185.c),(186,F186.c),(188,F188.c)],gl,false⟩,[(187,(.seq .d (.seq .d (.blk (.loop [0,3,7,8] [] (.seq .d (.seq .d (.seq (.blk (.seq .d (.cut [0,3,4,7,8] [] .d (.seq .d (.cut [0,3,7,8] [] .d .d))))) .d))))))))],f156⟩
def t44(a:LU)(b f h g:Int)(k:List (Int×Int×UInt64×UInt64×Unit))(m:LB)(o n:Int)(v:LB):S:=⟨[(0, .ptr 0 []),(3, .ptr 1 []),(7,vi h),(8,vi o)],[.box 148 (.agg [.own 7,vi n]), .box 148 (.agg [.own 6,vi h]), .box 44 (.agg [vi b,vi f]), .box 197 (.val (.vec 6 (.cons (.int .i64) (.cons (.int .i64) (.cons (.int .u64) (.cons (.int .u64) .nil))))) k), .box 148 (.agg [.own 6,vi h]),Av 131 a,Ab 5 m,Ab 5 v],[[(3, .ptr 2 []),(10, .ptr 3 []),(11, .ptr 0 []),(14, .ptr 4 []),(30, .own 5),(31,vi (Ac a)),(32,vi g),(59, .agg [.own 6,vi h])]]⟩
def z44(kn27:K_):Nat→S→Option R_:=H.i P_ [r,r,r,r,r,l,r,d,(lp kn27),r,r,l,d,r,r,r,r,(call 1 187),r,r,d]
def t27(a:LU)(b f g:Int)(w:List (Int×Int×UInt64×UInt64×Unit))(u:Int)(p:LB):S:=⟨[(3, .ptr 0 []),(10, .ptr 1 []),(11, .ptr 2 []),(30, .own 3),(31,vi (Ac a)),(32,vi g)],[.box 44 (.agg [vi b,vi f]), .box 197 (.val (.vec 6 (.cons (.int .i64) (.cons (.int .i64) (.cons (.int .u64) (.cons (.int .u64) .nil))))) w), .box 148 (.agg [.own 4,vi u]),Av 131 a,Ab 5 p],[]⟩
def z27:Nat→S→Option R_:=H.i P_ [r,r,r,r,r,l,r,d]
def x52(u:Int)(p:LB):Option R_:=H.e P_ [r,r,r,r,r,r] ⟨[(11, .ptr 0 [])],[.box 148 (.agg [.own 1,vi u]),Ab 5 p],[]⟩
def x50(kn27:K_)(a:LU)(b f g:Int)(k:List (Int×Int×UInt64×UInt64×Unit))(n:Int)(v:LB):Option R_:=H.e P_ [r,r,r,r,r,l,r,d,(lp kn27),r,r,r] ⟨[(3, .ptr 0 []),(10, .ptr 1 []),(11, .ptr 2 []),(30, .own 3),(31,vi (Ac a)),(32,vi g)],[.box 44 (.agg [vi b,vi f]), .box 197 (.val (.vec 6 (.cons (.int .i64) (.cons (.int .i64) (.cons (.int .u64) (.cons (.int .u64) .nil))))) k), .box 148 (.agg [.own 4,vi n]),Av 131 a,Ab 5 v],[]⟩
def x48(kn27 kn44:K_)(h:Int)(a:LU)(g b f:Int)(k:List (Int×Int×UInt64×UInt64×Unit))(m:LB)(o n:Int)(aa:LB):Option R_:=H.e P_ [r,r,r,r,r,l,r,d,(lp kn27),r,r,l,d,r,r,r,r,(call 1 187),r,r,d,(lp kn44),r,r,l,d,r,r,r,r] ⟨[(0, .ptr 0 []),(3, .ptr 1 []),(7,vi h),(8,vi o)],[.box 148 (.agg [.own 7,vi n]), .box 148 (.agg [.own 6,vi h]), .box 44 (.agg [vi b,vi f]), .box 197 (.val (.vec 6 (.cons (.int .i64) (.cons (.int .i64) (.cons (.int .u64) (.cons (.int .u64) .nil))))) k), .box 148 (.agg [.own 6,vi h]),Av 131 a,Ab 5 m,Ab 5 aa],[[(3, .ptr 2 []),(10, .ptr 3 []),(11, .ptr 0 []),(14, .ptr 4 []),(30, .own 5),(31,vi (Ac a)),(32,vi g),(59, .agg [.own 6,vi h])]]⟩
def x47(kn27 kn44:K_)(h:Int)(a:LU)(g b f:Int)(k:List (Int×Int×UInt64×UInt64×Unit))(m:LB)(o n:Int)(y:LB):Option R_:=H.e P_ [r,r,r,r,r,l,r,d,(lp kn27),r,r,l,d,r,r,r,r,(call 1 187),r,r,d,(lp kn44),r,r,l,d,r,r] ⟨[(0, .ptr 0 []),(3, .ptr 1 []),(4,vi o),(7,vi h),(8,vi o)],[.box 148 (.agg [.own 7,vi n]), .box 148 (.agg [.own 6,vi h]), .box 44 (.agg [vi b,vi f]), .box 197 (.val (.vec 6 (.cons (.int .i64) (.cons (.int .i64) (.cons (.int .u64) (.cons (.int .u64) .nil))))) k), .box 148 (.agg [.own 6,vi h]),Av 131 a,Ab 5 m,Ab 5 y],[[(3, .ptr 2 []),(10, .ptr 3 []),(11, .ptr 0 []),(14, .ptr 4 []),(30, .own 5),(31,vi (Ac a)),(32,vi g),(59, .agg [.own 6,vi h])]]⟩
def x44(kn27:K_)(a:LU)(b f h g:Int)(k:List (Int×Int×UInt64×UInt64×Unit))(m:LB)(o n:Int)(v:LB):Option R_:=H.e P_ [r,r,r,r,r,l,r,d,(lp kn27),r,r,l,d,r,r,r,r,(call 1 187),r,r,d] (t44 a b f h g k m o n v)
def x27(a:LU)(b f g:Int)(w:List (Int×Int×UInt64×UInt64×Unit))(u:Int)(p:LB):Option R_:=H.e P_ [r,r,r,r,r,l,r,d] (t27 a b f g w u p)
theorem e52:x52=Akl:=by kernel_rfl
theorem e50(kn27:K_)(a:LU)(b f:Int):x50 kn27 a b f=Akv (fun g w u p=>kn27 (t27 a b f g w u p)) a b f:=by kernel_rfl
theorem e48(kn27 kn44:K_)(a:LU)(b f h g:Int)(k:List (Int×Int×UInt64×UInt64×Unit))(m:LB):x48 kn27 kn44 h a g b f k m=Ako (fun o n v=>kn44 (t44 a b f h g k m o n v)) h a g b f k m:=by kernel_rfl
theorem e47(kn27 kn44:K_)(a:LU)(b f h g:Int)(k:List (Int×Int×UInt64×UInt64×Unit))(m:LB):x47 kn27 kn44 h a g b f k m=Akq (fun o n v=>kn44 (t44 a b f h g k m o n v)) h a g b f k m:=Eq.trans (b:=Akb (x48 kn27 kn44 h a g b f k m) h a g b f k m) (by kernel_rfl) (by simp only[e48]<;>rfl)
theorem i44(kn27:K_)(a:LU)(b f h g:Int)(k:List (Int×Int×UInt64×UInt64×Unit))(m:LB):∀(q:Nat) (o n:Int) (v:LB),z44 kn27 q (t44 a b f h g k m o n v)=Yi (fun g w u p=>kn27 (t27 a b f g w u p)) a b f h g k m q o n v:=
 ind (fun _ _ _=>by kernel_rfl) fun q ih o n v=>Eq.trans (b:=Aj9 (x47 kn27 (z44 kn27 q) h a g b f k m) (x50 kn27 a b f) a b f h g k m o n v) (by kernel_rfl) (by simp only[e47,e50,ih]<;>rfl)
theorem e44(kn27:K_)(a:LU)(b f:Int):x44 kn27 a b f=Al0 (fun g w u p=>kn27 (t27 a b f g w u p)) a b f:=by funext h g k m o n v;exact Eq.trans (by kernel_rfl) ((i44 kn27 a b f h g k m Dh o n v).trans (by rw[Ax];rfl))
theorem i27(a:LU)(b f:Int):∀(q:Nat) (g:Int) (w:List (Int×Int×UInt64×UInt64×Unit)) (u:Int) (p:LB),z27 q (t27 a b f g w u p)=Ze a b f q g w u p:=
 ind (fun _ _ _ _=>by kernel_rfl) fun q ih g w u p=>Eq.trans (b:=Aj6 (x44 (z27 q) a b f) x52 a b f g w u p) (by kernel_rfl) (by simp only[e44,e52,ih]<;>rfl)
theorem e27:x27=Ake:=by funext a b f g w u p;exact Eq.trans (by kernel_rfl) ((i27 a b f Dh g w u p).trans (by rw[Ax];rfl))
noncomputable def F:=u4 Ab0
theorem rn x:H.u P_ x=F x:=Eq.trans (b:=u4 (Am0 x27) x) (by kernel_rfl) (by simp only[e27]<;>rfl)
noncomputable def c:Con:=⟨H.p,H.r,F⟩
theorem ok:ConOk P_ gl 156 c:=cr H func156 (.cons F80.ok (.cons F128.ok (.cons F184.ok (.cons F185.ok (.cons F186.ok (.cons F188.ok .nil)))))) (AnsOk.cons ent187 AnsOk.nil) rn
end F156
theorem Bfb:ConOk Tryz.prog gl 116 Anv:=Bfe F154.ok F45.ok F86.ok F156.ok F157.ok
namespace F81
abbrev R_:=Bool
noncomputable def H:Hd:=⟨[.agg [Si,Si,Si,Si,Si]],[Sz],(.seq .d (.cut [1] [] .d .d)),⟨[],gl,false⟩,[],f81⟩
def x2(b f a g h:Int):Option R_:=H.e P_ [r,r] ⟨[(1, .ptr 0 [])],[.box 26 (.agg [vi b,vi f,vi a,vi g,vi h])],[]⟩
theorem e2:x2=Lr:=by kernel_rfl
noncomputable def F:=u5 Oj
theorem rn x:H.u P_ x=F x:=Eq.trans (b:=u5 (We x2) x) (by kernel_rfl) (by simp only[e2]<;>rfl)
noncomputable def c:Con:=⟨H.p,H.r,F⟩
theorem ok:ConOk P_ gl 81 c:=co H func81 .nil rn
end F81
namespace F82
noncomputable def H:Hd:=⟨[.agg [Si,Si,Si,Si,Si]],[Sz], .d,⟨[(49,F49.c)],gl,false⟩,[],f82⟩
noncomputable def F:=u5 Af2
theorem rn x:H.u P_ x=F x:=by kernel_rfl
noncomputable def c:Con:=⟨H.p,H.r,F⟩
theorem ok:ConOk P_ gl 82 c:=co H func82 (.cons F49.ok .nil) rn
end F82
namespace F85
noncomputable def H:Hd:=⟨[.agg [Si,Si,Si,Si,Si]],[Si], .d,⟨[(81,F81.c),(82,F82.c)],gl,false⟩,[],f85⟩
noncomputable def F:=u5 Rb
theorem rn x:H.u P_ x=F x:=by kernel_rfl
noncomputable def c:Con:=⟨H.p,H.r,F⟩
theorem ok:ConOk P_ gl 85 c:=co H func85 (.cons F81.ok (.cons F82.ok .nil)) rn
end F85
namespace F117
abbrev R_:=(LB×Int)
noncomputable def H:Hd:=⟨[.agg [Si,Si,Si,Si,Si]],[Ob 5,Si],(.seq .d (.seq .d (.seq .d (.cut [5] [] (.seq .d (.blk (.loop [5,31,32] [] .d))) .d)))),⟨[(80,F80.c),(85,F85.c),(128,F128.c)],gl,false⟩,[],f117⟩
def t4(b f g h k m:Int)(a:LB):S:=⟨[(5, .own 0),(31, .val (.vec 5 (.int .i64)) ([b,f,g,h,k]:LI)),(32,vi m)],[Ab 5 a],[]⟩
def z4:Nat→S→Option R_:=H.i P_ [r,r,r,l,r,d]
def x6(a:LB):Option R_:=H.e P_ [r,r,r,r] ⟨[(5, .own 0)],[Ab 5 a],[]⟩
def x4(b f g h k m:Int)(a:LB):Option R_:=H.e P_ [r,r,r,l,r,d] (t4 b f g h k m a)
theorem e6:x6=Arm:=by kernel_rfl
theorem i4(b f g h k:Int):∀(q:Nat) (m:Int) (a:LB),z4 q (t4 b f g h k m a)=Ahy b f g h k q m a:=
 ind (fun _ _=>by kernel_rfl) fun q ih m a=>Eq.trans (b:=Ark x6 (fun m a=>(z4 q) (t4 b f g h k m a)) b f g h k m a) (by kernel_rfl) (by simp only[e6,ih]<;>rfl)
theorem e4:x4=Ars:=by funext b f g h k m a;exact Eq.trans (by kernel_rfl) ((i4 b f g h k Dh m a).trans (by rw[Ax];rfl))
noncomputable def F:=u5 Az9
theorem rn x:H.u P_ x=F x:=Eq.trans (b:=u5 (Ar6 x4) x) (by kernel_rfl) (by simp only[e4]<;>rfl)
noncomputable def c:Con:=⟨H.p,H.r,F⟩
theorem ok:ConOk P_ gl 117 c:=co H func117 (.cons F80.ok (.cons F85.ok (.cons F128.ok .nil))) rn
end F117
namespace F127
noncomputable def H:Hd:=⟨[Ss],[Sq,Si], .d,⟨[(92,F92.c)],gl,false⟩,[],f127⟩
noncomputable def F:=Bbe
theorem rn x:H.u P_ x=F x:=by kernel_rfl
noncomputable def c:Con:=⟨H.p,H.r,F⟩
theorem ok:ConOk P_ gl 127 c:=co H func127 (.cons F92.ok .nil) rn
end F127
namespace F83
noncomputable def H:Hd:=⟨[Ss],[Ob 5,Si], .d,⟨[(127,F127.c),(128,F128.c)],gl,false⟩,[],f83⟩
noncomputable def F:=Aci
theorem rn x:H.u P_ x=F x:=by kernel_rfl
noncomputable def c:Con:=⟨H.p,H.r,F⟩
theorem ok:ConOk P_ gl 83 c:=co H func83 (.cons F127.ok (.cons F128.ok .nil)) rn
end F83
namespace F87
abbrev R_:=Int
noncomputable def H:Hd:=⟨[Sl],[Si],(.seq .d (.seq .d (.seq .d (.cut [] [] (.seq .d (.blk (.loop [3,14,15,16] [] .d))) .d)))),⟨[],gl,false⟩,[],f87⟩
def t4(a:LI)(f b:Int):S:=⟨[(3,vi f),(14,vl a),(15,vi (Ac a)),(16,vi b)],[],[]⟩
def z4:Nat→S→Option R_:=H.i P_ [r,r,r,l,r,d]
def x6:Option R_:=H.e P_ [r,r,r,r] ⟨[],[],[]⟩
def x4(a:LI)(f b:Int):Option R_:=H.e P_ [r,r,r,l,r,d] (t4 a f b)
theorem e6:x6=Aus:=by kernel_rfl
theorem i4(a:LI):∀(q:Nat) (f b:Int),z4 q (t4 a f b)=Pw a q f b:=
 ind (fun _ _=>by kernel_rfl) fun q ih f b=>Eq.trans (b:=Ac1 x6 (fun f b=>(z4 q) (t4 a f b)) a f b) (by kernel_rfl) (by simp only[e6,ih]<;>rfl)
theorem e4:x4=Ajs:=by funext a f b;exact Eq.trans (by kernel_rfl) ((i4 a Dh f b).trans (by rw[Ax];rfl))
noncomputable def F:=Nt
theorem rn x:H.u P_ x=F x:=Eq.trans (b:=Aax x4 x) (by kernel_rfl) (by simp only[e4]<;>rfl)
noncomputable def c:Con:=⟨H.p,H.r,F⟩
theorem ok:ConOk P_ gl 87 c:=co H func87 .nil rn
end F87
namespace F118
abbrev R_:=(LB×Int)
abbrev K_:=S→Option R_
noncomputable def H:Hd:=⟨[Sl],[Ob 5,Si],(.seq .d (.seq .d (.seq .d (.seq .d (.cut [5,6] [] (.seq .d (.blk (.loop [5,6,17,18,19] [⟨5,[], .own 5 (.int .u8)⟩,⟨6,[0], .own 5 (.int .u8)⟩] (.seq .d (.seq .d (.cut [5,6,17,18,19] [] (.blk (.seq .d (.keep [5,6,8,17,18,19,23,24,25] true))) .d)))))) (.seq .d (.cut [5] [] (.keep [5,6,9,33,34,35] true) .d))))))),⟨[(80,F80.c),(87,F87.c),(128,F128.c)],gl,false⟩,[(158, .d)],f118⟩
def t8(a:LI)(f:Int)(b:LB):S:=⟨[(5, .ptr 0 []),(6, .fn 158 [.ptr 0 []]),(17,vl a),(18,vi (Ac a)),(19,vi f)],[.box 22 (.own 1),Ab 5 b],[]⟩
def z8:Nat→S→Option R_:=H.i P_ [r,r,r,r,l,r,d]
def x14(g:LB):Option R_:=H.e P_ [r,r,r,r,r,r,r] ⟨[(5, .ptr 0 [])],[.box 22 (.own 1),Ab 5 g],[]⟩
def x13(b:LB):Option R_:=H.e P_ [r,r,r,r,r] ⟨[(5, .ptr 0 []),(6, .fn 158 [.ptr 0 []])],[.box 22 (.own 1),Ab 5 b],[]⟩
def x11(kn8:K_)(a:LI)(f:Int)(h:LB):Option R_:=H.e P_ [r,r,r,r,l,r,d,(lp kn8),r,r,r] ⟨[(5, .ptr 0 []),(6, .fn 158 [.ptr 0 []]),(17,vl a),(18,vi (Ac a)),(19,vi f)],[.box 22 (.own 1),Ab 5 h],[]⟩
def x8(a:LI)(f:Int)(b:LB):Option R_:=H.e P_ [r,r,r,r,l,r,d] (t8 a f b)
theorem e14:x14=Arh:=by kernel_rfl
theorem e13:x13=Ari:=Eq.trans (b:=Ar4 x14) (by kernel_rfl) (by simp only[e14]<;>rfl)
theorem e11(kn8:K_)(a:LI):x11 kn8 a=Arv (fun f b=>kn8 (t8 a f b)) a:=by kernel_rfl
theorem i8(a:LI):∀(q:Nat) (f:Int) (b:LB),z8 q (t8 a f b)=Ali a q f b:=
 ind (fun _ _=>by kernel_rfl) fun q ih f b=>Eq.trans (b:=At0 (x11 (z8 q) a) x13 a f b) (by kernel_rfl) (by simp only[e11,e13,ih]<;>rfl)
theorem e8:x8=Atv:=by funext a f b;exact Eq.trans (by kernel_rfl) ((i8 a Dh f b).trans (by rw[Ax];rfl))
noncomputable def F:=Bd4
theorem rn x:H.u P_ x=F x:=Eq.trans (b:=Ats x8 x) (by kernel_rfl) (by simp only[e8]<;>rfl)
noncomputable def c:Con:=⟨H.p,H.r,F⟩
theorem ok:ConOk P_ gl 118 c:=cr H func118 (.cons F80.ok (.cons F87.ok (.cons F128.ok .nil))) (AnsOk.cons ent158 AnsOk.nil) rn
end F118
namespace F120
noncomputable def H:Hd:=⟨[Sb],[Si], .d,⟨[],gl,false⟩,[],f120⟩
noncomputable def F:=Awy
theorem rn x:H.u P_ x=F x:=by kernel_rfl
noncomputable def c:Con:=⟨H.p,H.r,F⟩
theorem ok:ConOk P_ gl 120 c:=co H func120 .nil rn
end F120
namespace F121
abbrev R_:=LB
noncomputable def H:Hd:=⟨[.lf (.list (.list (.int .u8))) none],[Ob 5],(.seq .d (.seq .d (.cut [3] [] (.seq .d (.blk (.loop [3,6,7,8] [⟨3,[], .own 5 (.int .u8)⟩] .d))) .d))),⟨[],gl,false⟩,[],f121⟩
def t4(b:List LB)(f:Int)(a:LB):S:=⟨[(3, .own 0),(6, .val (.list (.list (.int .u8))) b),(7,vi (Ac b)),(8,vi f)],[Ab 5 a],[]⟩
def z4:Nat→S→Option R_:=H.i P_ [r,r,l,r,d]
def x6(a:LB):Option R_:=H.e P_ [r,r,r] ⟨[(3, .own 0)],[Ab 5 a],[]⟩
def x4(b:List LB)(f:Int)(a:LB):Option R_:=H.e P_ [r,r,l,r,d] (t4 b f a)
theorem e6:x6=Atd:=by kernel_rfl
theorem i4(b:List LB):∀(q:Nat) (f:Int) (a:LB),z4 q (t4 b f a)=Akf b q f a:=
 ind (fun _ _=>by kernel_rfl) fun q ih f a=>Eq.trans (b:=As7 x6 (fun f a=>(z4 q) (t4 b f a)) b f a) (by kernel_rfl) (by simp only[e6,ih]<;>rfl)
theorem e4:x4=Aux:=by funext b f a;exact Eq.trans (by kernel_rfl) ((i4 b Dh f a).trans (by rw[Ax];rfl))
noncomputable def F:=Bdb
theorem rn x:H.u P_ x=F x:=Eq.trans (b:=Atr x4 x) (by kernel_rfl) (by simp only[e4]<;>rfl)
noncomputable def c:Con:=⟨H.p,H.r,F⟩
theorem ok:ConOk P_ gl 121 c:=co H func121 .nil rn
end F121
namespace F76
abbrev R_:=(LB×Int)
abbrev K_:=S→Option R_
noncomputable def H:Hd:=⟨[.agg [Si,Si,Si,Sw],Ss],[Ob 5,Si],(.seq .d (.seq .d (.seq .d (.seq .d (.seq .d (.seq .d (.seq .d (.seq .d (.cut [8,9,10] [⟨10,[], .own 5 (.int .u8)⟩] .d (.cut [7,8,9,10,11] [] (.keep [7,8,9,10,11,46,48,49,50,51] true) .d)))))))))),⟨[(83,F83.c),(115,F115.c),(116,Anv),(117,F117.c),(118,F118.c),(120,F120.c),(121,F121.c)],gl,false⟩,[(119,(.seq .d (.seq .d (.cut [5] [] (.seq .d (.blk (.loop [1,5,11,12,13] [] (.seq .d (.seq .d (.cut [1,5,11,12,13] [] .d .d)))))) .d))))],f76⟩
def t9(a:List LB)(b f:LB)(g:Int)(h:LI):S:=⟨[(1, .fn 120 []),(5, .own 0),(11, .own 1),(12,vi (Ac a)),(13,vi g)],[Ai 3 h, .arr 22 (.list (.int .u8)) a,Ab 5 b,Ab 5 f],[[(8, .own 1),(9, .own 2),(10, .own 3)]]⟩
def z9:Nat→S→Option R_:=H.i P_ [r,r,r,r,r,r,r,r,r,l,(call 1 119),r,r,l,r,d]
def x14(k:Int)(a:List LB)(b f n:LB):Option R_:=H.e P_ [r,r,r,r,r,r,r,r,r,r] ⟨[(7,vi k),(8, .own 0),(9, .own 1),(10, .own 2),(11, .own 3)],[.arr 22 (.list (.int .u8)) a,Ab 5 b,Ab 5 f,Ab 5 n],[]⟩
def x13(h:LI)(a:List LB)(b f:LB):Option R_:=H.e P_ [r,r,r,r,r,r,r,r,r,l,(call 1 119),r,r,r] ⟨[(5, .own 0)],[Ai 3 h, .arr 22 (.list (.int .u8)) a,Ab 5 b,Ab 5 f],[[(8, .own 1),(9, .own 2),(10, .own 3)]]⟩
def x11(kn9:K_)(a:List LB)(b f:LB)(g:Int)(m:LI):Option R_:=H.e P_ [r,r,r,r,r,r,r,r,r,l,(call 1 119),r,r,l,r,d,(lp kn9),r,r,r] ⟨[(1, .fn 120 []),(5, .own 0),(11, .own 1),(12,vi (Ac a)),(13,vi g)],[Ai 3 m, .arr 22 (.list (.int .u8)) a,Ab 5 b,Ab 5 f],[[(8, .own 1),(9, .own 2),(10, .own 3)]]⟩
def x9(a:List LB)(b f:LB)(g:Int)(h:LI):Option R_:=H.e P_ [r,r,r,r,r,r,r,r,r,l,(call 1 119),r,r,l,r,d] (t9 a b f g h)
def x8(a:List LB)(b f:LB):Option R_:=H.e P_ [r,r,r,r,r,r,r,r,r] ⟨[(8, .own 0),(9, .own 1),(10, .own 2)],[.arr 22 (.list (.int .u8)) a,Ab 5 b,Ab 5 f],[]⟩
theorem e14:x14=Aro:=by kernel_rfl
theorem e13:x13=Aru:=Eq.trans (b:=Ary x14) (by kernel_rfl) (by simp only[e14]<;>rfl)
theorem e11(kn9:K_)(a:List LB)(b f:LB):x11 kn9 a b f=Arn (fun g h=>kn9 (t9 a b f g h)) a b f:=by kernel_rfl
theorem i9(a:List LB)(b f:LB):∀(q:Nat) (g:Int) (h:LI),z9 q (t9 a b f g h)=Aka a b f q g h:=
 ind (fun _ _=>by kernel_rfl) fun q ih g h=>Eq.trans (b:=Auk (x11 (z9 q) a b f) x13 a b f g h) (by kernel_rfl) (by simp only[e11,e13,ih]<;>rfl)
theorem e9:x9=At3:=by funext a b f g h;exact Eq.trans (by kernel_rfl) ((i9 a b f Dh g h).trans (by rw[Ax];rfl))
theorem e8:x8=Auf:=Eq.trans (b:=Aud x9) (by kernel_rfl) (by simp only[e9]<;>rfl)
noncomputable def F:=u5 Bcq
theorem rn x:H.u P_ x=F x:=Eq.trans (b:=u5 (Atj x8) x) (by kernel_rfl) (by simp only[e8]<;>rfl)
noncomputable def c:Con:=⟨H.p,H.r,F⟩
theorem ok:ConOk P_ gl 76 c:=cr H func76 (.cons F83.ok (.cons F115.ok (.cons Bfb (.cons F117.ok (.cons F118.ok (.cons F120.ok (.cons F121.ok .nil))))))) (AnsOk.cons ent119 AnsOk.nil) rn
end F76
namespace F68
noncomputable def H:Hd:=⟨[],[Ob 5,Sz], .d,⟨[(76,F76.c)],gl,false⟩,[],f68⟩
noncomputable def F(x:Unit):=Ajq
theorem rn x:H.u P_ x=F x:=by kernel_rfl
noncomputable def c:Con:=⟨H.p,H.r,F⟩
theorem ok:ConOk P_ gl 68 c:=co H func68 (.cons F76.ok .nil) rn
end F68
namespace F70
noncomputable def H:Hd:=⟨[Ss],[.agg [Ss,Ob 5, .agg [Si,Si,Si,Si,Si],Ol 3,Si,Ob 5,Sz,Si],Si], .d,⟨[],gl,false⟩,[],f70⟩
noncomputable def F:=Al6
theorem rn x:H.u P_ x=F x:=by kernel_rfl
noncomputable def c:Con:=⟨H.p,H.r,F⟩
theorem ok:ConOk P_ gl 70 c:=co H func70 .nil rn
end F70
namespace F75
def Ah4(a:LB):Option (LB):=
Bg9 a (
some ([]:LB)) (
(Dg ([]:LB) a).bind fun b=>
some b)
theorem Ayz: @Ah4= @Gw:=by
  unfold Ah4 Gw
  repeat (refine funext fun _=>?_)
  repeat' first
    |with_reducible rfl
    |with_reducible refine Mf ?_ ?_
    |with_reducible refine Mn ?_ ?_ ?_
    |with_reducible refine Mi ?_ ?_ ?_ ?_
    |((with_reducible refine Ql ?_ ?_);focus (intro h;first|(subst h;rfl)|(simp only[h];rfl)|(simp[Dg,Ac,h];done)))
    |with_reducible refine Re fun x=>?_
    |with_reducible refine Yl (fun _=>?_) (fun _=>?_)
    |(refine Gt (fun h=>by simp only[h,Qh,Ef,Ed,ite_self]) (fun x h=>?_);(try simp only[h,Ef]))
    |(refine Ja (fun h=>?_) (fun h=>?_)<;>simp only[h,if_true,if_false,Bool.false_eq_true])
noncomputable def H:Hd:=⟨[Sb],[Ob 5], .d,⟨[],gl,false⟩,[],f75⟩
noncomputable def F:=Gw
theorem rn x:H.u P_ x=F x:=Eq.trans (b:=Ah4 x) (by kernel_rfl) (by rw[Ayz];rfl)
noncomputable def c:Con:=⟨H.p,H.r,F⟩
theorem ok:ConOk P_ gl 75 c:=co H func75 .nil rn
end F75
namespace F114
def Oi(a:LI):Option (LI):=
Bg9 a (
some ([]:LI)) (
(Dg ([]:LI) a).bind fun b=>
some b)
theorem Ai0: @Oi= @Fc:=by
  unfold Oi Fc
  repeat (refine funext fun _=>?_)
  repeat' first
    |with_reducible rfl
    |with_reducible refine Mf ?_ ?_
    |with_reducible refine Mn ?_ ?_ ?_
    |with_reducible refine Mi ?_ ?_ ?_ ?_
    |((with_reducible refine Ql ?_ ?_);focus (intro h;first|(subst h;rfl)|(simp only[h];rfl)|(simp[Dg,Ac,h];done)))
    |with_reducible refine Re fun x=>?_
    |with_reducible refine Yl (fun _=>?_) (fun _=>?_)
    |(refine Gt (fun h=>by simp only[h,Qh,Ef,Ed,ite_self]) (fun x h=>?_);(try simp only[h,Ef]))
    |(refine Ja (fun h=>?_) (fun h=>?_)<;>simp only[h,if_true,if_false,Bool.false_eq_true])
noncomputable def H:Hd:=⟨[Sl],[Ol 3], .d,⟨[],gl,false⟩,[],f114⟩
noncomputable def F:=Fc
theorem rn x:H.u P_ x=F x:=Eq.trans (b:=Oi x) (by kernel_rfl) (by rw[Ai0];rfl)
noncomputable def c:Con:=⟨H.p,H.r,F⟩
theorem ok:ConOk P_ gl 114 c:=co H func114 .nil rn
end F114
namespace F74
noncomputable def H:Hd:=⟨[.agg [Ss,Sb, .agg [Si,Si,Si,Si,Si],Sl,Si,Sb,Sz,Si]],[.agg [Ss,Ob 5, .agg [Si,Si,Si,Si,Si],Ol 3,Si,Ob 5,Sz,Si]], .d,⟨[(75,F75.c),(114,F114.c)],gl,false⟩,[],f74⟩
noncomputable def F:=u12 Cx
theorem rn x:H.u P_ x=F x:=by kernel_rfl
noncomputable def c:Con:=⟨H.p,H.r,F⟩
theorem ok:ConOk P_ gl 74 c:=co H func74 (.cons F75.ok (.cons F114.ok .nil)) rn
end F74
namespace F38
noncomputable def H:Hd:=⟨[.agg [Si,Si,Si,Si,Si]],[Ol 3,Si], .d,⟨[(85,F85.c),(86,F86.c)],gl,false⟩,[],f38⟩
noncomputable def F:=u5 Cu
theorem rn x:H.u P_ x=F x:=by kernel_rfl
noncomputable def c:Con:=⟨H.p,H.r,F⟩
theorem ok:ConOk P_ gl 38 c:=co H func38 (.cons F85.ok (.cons F86.ok .nil)) rn
end F38
namespace F152
noncomputable def H:Hd:=⟨[.agg [Si,Si,Si,Si,Si],Ss],[Si], .d,⟨[],gl,false⟩,[],f152⟩
noncomputable def F:=u6 Mm
theorem rn x:H.u P_ x=F x:=by kernel_rfl
noncomputable def c:Con:=⟨H.p,H.r,F⟩
theorem ok:ConOk P_ gl 152 c:=co H func152 .nil rn
end F152
namespace F112
abbrev R_:=Bool
noncomputable def H:Hd:=⟨[.agg [Ss,Sb, .agg [Si,Si,Si,Si,Si],Sl,Si,Sb,Sz,Si]],[Sz],(.seq .d (.seq .d (.seq .d (.cut [1,3] [] .d (.seq .d (.seq .d (.seq .d (.cut [1,5] [] (.seq .d (.blk (.loop [1,5,83,84,85] [] .d))) .d)))))))),⟨[(38,F38.c),(87,F87.c),(152,F152.c)],gl,false⟩,[],f112⟩
def t6(y:LI)(o p:LB)(h b f k m:Int)(g:LI)(a:Int)(n:LB)(u:Bool)(v w aa:Int):S:=⟨[(1, .ptr 0 []),(5,vi w),(83,vl y),(84,vi (Ac y)),(85,vi aa)],[.box 66 (.agg [vs o,vb p, .agg [vi h,vi b,vi f,vi k,vi m],vl g,vi a,vb n,vt u,vi v])],[]⟩
def z6:Nat→S→Option R_:=H.i P_ [r,r,r,r,r,r,r,l,r,d]
def x8(w:Int)(o p:LB)(h b f k m:Int)(g:LI)(a:Int)(n:LB)(u:Bool)(v:Int):Option R_:=H.e P_ [r,r,r,r,r,r,r,r] ⟨[(1, .ptr 0 []),(5,vi w)],[.box 66 (.agg [vs o,vb p, .agg [vi h,vi b,vi f,vi k,vi m],vl g,vi a,vb n,vt u,vi v])],[]⟩
def x6(y:LI)(o p:LB)(h b f k m:Int)(g:LI)(a:Int)(n:LB)(u:Bool)(v w aa:Int):Option R_:=H.e P_ [r,r,r,r,r,r,r,l,r,d] (t6 y o p h b f k m g a n u v w aa)
def x5(o p:LB)(h b f k m:Int)(g:LI)(a:Int)(n:LB)(u:Bool)(v:Int)(ab:LI):Option R_:=H.e P_ [r,r,r,r] ⟨[(1, .ptr 0 []),(3, .own 1)],[.box 66 (.agg [vs o,vb p, .agg [vi h,vi b,vi f,vi k,vi m],vl g,vi a,vb n,vt u,vi v]),Ai 3 ab],[]⟩
theorem e8:x8=Ahp:=by kernel_rfl
theorem i6(y:LI)(o p:LB)(h b f k m:Int)(g:LI)(a:Int)(n:LB)(u:Bool)(v:Int):∀(q:Nat) (w aa:Int),z6 q (t6 y o p h b f k m g a n u v w aa)=Nm y o p h b f k m g a n u v q w aa:=
 ind (fun _ _=>by kernel_rfl) fun q ih w aa=>Eq.trans (b:=Yg x8 (fun w aa=>(z6 q) (t6 y o p h b f k m g a n u v w aa)) y o p h b f k m g a n u v w aa) (by kernel_rfl) (by simp only[e8,ih]<;>rfl)
theorem e6:x6=Ahh:=by funext y o p h b f k m g a n u v w aa;exact Eq.trans (by kernel_rfl) ((i6 y o p h b f k m g a n u v Dh w aa).trans (by rw[Ax];rfl))
theorem e5:x5=Ahi:=Eq.trans (b:=Ahx x6) (by kernel_rfl) (by simp only[e6]<;>rfl)
noncomputable def F:=u12 Wj
theorem rn x:H.u P_ x=F x:=Eq.trans (b:=u12 (Ahr x5) x) (by kernel_rfl) (by simp only[e5]<;>rfl)
noncomputable def c:Con:=⟨H.p,H.r,F⟩
theorem ok:ConOk P_ gl 112 c:=co H func112 (.cons F38.ok (.cons F87.ok (.cons F152.ok .nil))) rn
end F112
namespace F84
noncomputable def H:Hd:=⟨[Sb,Sb],[Sz], .d,⟨[],gl,false⟩,[],f84⟩
noncomputable def F:=u2 Ge
theorem rn x:H.u P_ x=F x:=by kernel_rfl
noncomputable def c:Con:=⟨H.p,H.r,F⟩
theorem ok:ConOk P_ gl 84 c:=co H func84 .nil rn
end F84
namespace F132
noncomputable def H:Hd:=⟨[Sb,Sb],[Sz], .d,⟨[(84,F84.c)],gl,false⟩,[],f132⟩
noncomputable def F:=u2 Kn
theorem rn x:H.u P_ x=F x:=by kernel_rfl
noncomputable def c:Con:=⟨H.p,H.r,F⟩
theorem ok:ConOk P_ gl 132 c:=co H func132 (.cons F84.ok .nil) rn
end F132
namespace F189
abbrev R_:=(Int×Int)
noncomputable def H:Hd:=⟨[Sb],[Si,Si],(.seq .d (.seq .d (.seq .d (.cut [4] [] (.seq .d (.blk (.loop [4,10,11,12] [] .d))) .d)))),⟨[],gl,false⟩,[],f189⟩
def t4(a:LB)(b f:Int):S:=⟨[(4,vi b),(10,vb a),(11,vi (Ac a)),(12,vi f)],[],[]⟩
def z4:Nat→S→Option R_:=H.i P_ [r,r,r,l,r,d]
def x6(b:Int):Option R_:=H.e P_ [r,r,r,r] ⟨[(4,vi b)],[],[]⟩
def x4(a:LB)(b f:Int):Option R_:=H.e P_ [r,r,r,l,r,d] (t4 a b f)
theorem e6:x6=Aoz:=by kernel_rfl
theorem i4(a:LB):∀(q:Nat) (b f:Int),z4 q (t4 a b f)=Lq a q b f:=
 ind (fun _ _=>by kernel_rfl) fun q ih b f=>Eq.trans (b:=Wc x6 (fun b f=>(z4 q) (t4 a b f)) a b f) (by kernel_rfl) (by simp only[e6,ih]<;>rfl)
theorem e4:x4=Aey:=by funext a b f;exact Eq.trans (by kernel_rfl) ((i4 a Dh b f).trans (by rw[Ax];rfl))
noncomputable def F:=Afl
theorem rn x:H.u P_ x=F x:=Eq.trans (b:=Aet x4 x) (by kernel_rfl) (by simp only[e4]<;>rfl)
noncomputable def c:Con:=⟨H.p,H.r,F⟩
theorem ok:ConOk P_ gl 189 c:=co H func189 .nil rn
end F189
namespace F159
def Ae6(j5:LB→UInt8→UInt8→Option (Int×Int))(a:LB):Option (Int×Int):=
(Kn a ([(73:UInt8),(68:UInt8),(51:UInt8)]:LB)).bind fun n=>
if(!n)then
some (0,6)
else
if(Cb (Ac a) 10)then
some (0,24)
else
(getI a 3).bind fun f=>
(getI a 5).bind fun b=>
(fun o:Option (Int×Int)=>
(fun p:Option (Int×Int)=>
both (
both (
bo (
j5 a f b)) [
o,
o]) [
bo2 (
bo (
j5 a f b)),
p,
p]) (
both (
o) [
bo (
j5 a f b),
both (
bo (
j5 a f b)) [
j5 a f b]])) (
both (
j5 a f b) [
bo (
j5 a f b)])
theorem Awk: @Ae6= @Ye:=by
  unfold Ae6 Ye
  try simp only[Ar2,Ahl,Ah5]
  all_goals
    repeat (refine funext fun _=>?_)
    repeat' first
      |with_reducible rfl
      |with_reducible refine Mf ?_ ?_
      |with_reducible refine Mn ?_ ?_ ?_
      |with_reducible refine Mi ?_ ?_ ?_ ?_
      |((with_reducible refine Ql ?_ ?_);focus (intro h;first|(subst h;rfl)|(simp only[h];rfl)|(simp[Dg,Ac,h];done)))
      |with_reducible refine Re fun x=>?_
      |with_reducible refine Yl (fun _=>?_) (fun _=>?_)
      |(refine Gt (fun h=>by simp only[h,Qh,Ef,Ed,ite_self]) (fun x h=>?_);(try simp only[h,Ef]))
      |(refine Ja (fun h=>?_) (fun h=>?_)<;>simp only[h,if_true,if_false,Bool.false_eq_true])
abbrev R_:=(Int×Int)
noncomputable def H:Hd:=⟨[Sb],[Si,Si],(.seq .d (.seq .d (.seq .d (.cut [0,4,5] [] (.mode false) (.seq .d (.seq .d (.cut [0,5,6] [] (.cut [0,5,6,43] [] (.keep [0,5,6,7,8,31,32,33,34,35,36,37,38,39,40,41,42,43] true) .d) (.seq .d (.cut [0,5,6] [] .d .d))))))))),⟨[(84,F84.c),(132,F132.c),(189,F189.c)],gl,false⟩,[(190, .d)],f159⟩
def x8(a:LB)(b:UInt8)(h:Int):Option R_:=H.e P_ [r,r,r,r,r,r,r,r,r] ⟨[(0,vb a),(5, .ptr 0 []),(6,vi h)],[.box 5 (vc b)],[]⟩
def x7(a:LB)(g:Int)(b:UInt8):Option R_:=H.e P_ [r,r,r,r,r,r,r] ⟨[(0,vb a),(5, .ptr 0 []),(6,vi g)],[.box 5 (vc b)],[]⟩
def x6(a:LB)(g:Int)(b:UInt8)(m:Bool):Option R_:=H.e P_ [r,r,r,r,r,r,l,r] ⟨[(0,vb a),(5, .ptr 0 []),(6,vi g),(43,vt m)],[.box 5 (vc b)],[]⟩
def x5(a:LB)(f b:UInt8):Option R_:=H.e P_ [r,r,r,r] ⟨[(0,vb a),(4, .ptr 0 []),(5, .ptr 1 [])],[.box 5 (vc f), .box 5 (vc b)],[]⟩
theorem e8:x8=Yh:=by kernel_rfl
theorem e7:x7=Yb:=Eq.trans (b:=Ahs x8) (by kernel_rfl) (by simp only[e8]<;>rfl)
theorem e6:x6=Ahz:=Eq.trans (b:=Ah6 x7) (by kernel_rfl) (by simp only[e7]<;>rfl)
theorem e5:x5=Ahw:=Eq.trans (b:=Ah3 x6) (by kernel_rfl) (by simp only[e6]<;>rfl)
noncomputable def F:=Aiy
theorem rn x:H.u P_ x=F x:=Eq.trans (b:=Ae6 x5 x) (by kernel_rfl) (by unfold F;rw[Awk];simp only[e5]<;>rfl)
noncomputable def c:Con:=⟨H.p,H.r,F⟩
theorem ok:ConOk P_ gl 159 c:=cr H func159 (.cons F84.ok (.cons F132.ok (.cons F189.ok .nil))) (AnsOk.cons ent190 AnsOk.nil) rn
end F159
namespace F125
abbrev R_:=(UInt64×Int)
noncomputable def H:Hd:=⟨[Sb],[Sq,Si],(.seq .d (.seq .d (.seq .d (.cut [4] [] (.seq .d (.blk (.loop [4,15,16,17] [] .d))) .d)))),⟨[],gl,false⟩,[],f125⟩
def t4(a:LB)(b:UInt64)(f:Int):S:=⟨[(4,vq b),(15,vb a),(16,vi (Ac a)),(17,vi f)],[],[]⟩
def z4:Nat→S→Option R_:=H.i P_ [r,r,r,l,r,d]
def x6(b:UInt64):Option R_:=H.e P_ [r,r,r,r] ⟨[(4,vq b)],[],[]⟩
def x4(a:LB)(b:UInt64)(f:Int):Option R_:=H.e P_ [r,r,r,l,r,d] (t4 a b f)
theorem e6:x6=Bcs:=by kernel_rfl
theorem i4(a:LB):∀(q:Nat) (b:UInt64) (f:Int),z4 q (t4 a b f)=Zx a q b f:=
 ind (fun _ _=>by kernel_rfl) fun q ih b f=>Eq.trans (b:=Amd x6 (fun b f=>(z4 q) (t4 a b f)) a b f) (by kernel_rfl) (by simp only[e6,ih]<;>rfl)
theorem e4:x4=At1:=by funext a b f;exact Eq.trans (by kernel_rfl) ((i4 a Dh b f).trans (by rw[Ax];rfl))
noncomputable def F:=Avl
theorem rn x:H.u P_ x=F x:=Eq.trans (b:=Atn x4 x) (by kernel_rfl) (by simp only[e4]<;>rfl)
noncomputable def c:Con:=⟨H.p,H.r,F⟩
theorem ok:ConOk P_ gl 125 c:=co H func125 .nil rn
end F125
namespace F79
noncomputable def H:Hd:=⟨[Sb,Si,Si],[Sq,Si], .d,⟨[(125,F125.c)],gl,false⟩,[],f79⟩
noncomputable def F:=u3 Aoq
theorem rn x:H.u P_ x=F x:=by kernel_rfl
noncomputable def c:Con:=⟨H.p,H.r,F⟩
theorem ok:ConOk P_ gl 79 c:=co H func79 (.cons F125.ok .nil) rn
end F79
namespace F134
abbrev R_:=LB
noncomputable def H:Hd:=⟨[Si,Si,Sq],[Ob 5],(.seq .d (.seq .d (.cut [7] [] (.seq .d (.blk (.loop [7,20,21,22] [] .d))) .d))),⟨[(128,F128.c)],gl,false⟩,[],f134⟩
def t4(a b:Int)(f:UInt64)(h:Int)(g:LB):S:=⟨[(7, .own 0),(20, .own 1),(21,vi (Ac ([(2000:UInt64),(Ae (Ad a (32:Int)):UInt64),(Ae b:UInt64),f,(0:UInt64),(0:UInt64)]:LQ))),(22,vi h)],[Ab 5 g, .arr 128 (.int .u64) ([(2000:UInt64),(Ae (Ad a (32:Int)):UInt64),(Ae b:UInt64),f,(0:UInt64),(0:UInt64)]:LQ)],[]⟩
def z4:Nat→S→Option R_:=H.i P_ [r,r,l,r,d]
def x6(g:LB):Option R_:=H.e P_ [r,r,r] ⟨[(7, .own 0)],[Ab 5 g],[]⟩
def x4(a b:Int)(f:UInt64)(h:Int)(g:LB):Option R_:=H.e P_ [r,r,l,r,d] (t4 a b f h g)
theorem e6:x6=Ayb:=by kernel_rfl
theorem i4(a b:Int)(f:UInt64):∀(q:Nat) (h:Int) (g:LB),z4 q (t4 a b f h g)=Yy a b f q h g:=
 ind (fun _ _=>by kernel_rfl) fun q ih h g=>Eq.trans (b:=Ara x6 (fun h g=>(z4 q) (t4 a b f h g)) a b f h g) (by kernel_rfl) (by simp only[e6,ih]<;>rfl)
theorem e4:x4=Ay0:=by funext a b f h g;exact Eq.trans (by kernel_rfl) ((i4 a b f Dh h g).trans (by rw[Ax];rfl))
noncomputable def F:=u3 Av4
theorem rn x:H.u P_ x=F x:=Eq.trans (b:=u3 (Ax9 x4) x) (by kernel_rfl) (by simp only[e4]<;>rfl)
noncomputable def c:Con:=⟨H.p,H.r,F⟩
theorem ok:ConOk P_ gl 134 c:=co H func134 (.cons F128.ok .nil) rn
end F134
namespace F133
noncomputable def H:Hd:=⟨[Sb,Sq],[.agg [Si,Si],Sz], .d,⟨[(79,F79.c),(84,F84.c),(134,F134.c)],gl,false⟩,[],f133⟩
noncomputable def F:=u2 Ajk
theorem rn x:H.u P_ x=F x:=by kernel_rfl
noncomputable def c:Con:=⟨H.p,H.r,F⟩
theorem ok:ConOk P_ gl 133 c:=co H func133 (.cons F79.ok (.cons F84.ok (.cons F134.ok .nil))) rn
end F133
namespace F160
noncomputable def H:Hd:=⟨[Sb],[Si,Si], .d,⟨[(84,F84.c),(132,F132.c),(133,F133.c),(134,F134.c)],gl,false⟩,[],f160⟩
noncomputable def F:=Awd
theorem rn x:H.u P_ x=F x:=by kernel_rfl
noncomputable def c:Con:=⟨H.p,H.r,F⟩
theorem ok:ConOk P_ gl 160 c:=co H func160 (.cons F84.ok (.cons F132.ok (.cons F133.ok (.cons F134.ok .nil)))) rn
end F160
namespace F123
noncomputable def H:Hd:=⟨[Sb],[Si,Si], .d,⟨[(159,F159.c),(160,F160.c)],gl,false⟩,[],f123⟩
noncomputable def F:=Uq
theorem rn x:H.u P_ x=F x:=by kernel_rfl
noncomputable def c:Con:=⟨H.p,H.r,F⟩
theorem ok:ConOk P_ gl 123 c:=co H func123 (.cons F159.ok (.cons F160.ok .nil)) rn
end F123
theorem Abo:ConOk Tryz.prog gl 35 Ru:=Bf6 ent35 F123.ok
namespace F151
noncomputable def H:Hd:=⟨[Si],[.agg [Sz,Si]], .d,⟨[],gl,false⟩,[],f151⟩
noncomputable def F:=Ah
theorem rn x:H.u P_ x=F x:=by kernel_rfl
noncomputable def c:Con:=⟨H.p,H.r,F⟩
theorem ok:ConOk P_ gl 151 c:=co H func151 .nil rn
end F151
namespace F124
noncomputable def H:Hd:=⟨[Ss,Ss],[Sz], .d,⟨[],gl,false⟩,[],f124⟩
noncomputable def F:=u2 Fv
theorem rn x:H.u P_ x=F x:=by kernel_rfl
noncomputable def c:Con:=⟨H.p,H.r,F⟩
theorem ok:ConOk P_ gl 124 c:=co H func124 .nil rn
end F124
namespace F78
noncomputable def H:Hd:=⟨[Ss,Ss],[Sz], .d,⟨[(124,F124.c)],gl,false⟩,[],f78⟩
noncomputable def F:=u2 Hx
theorem rn x:H.u P_ x=F x:=by kernel_rfl
noncomputable def c:Con:=⟨H.p,H.r,F⟩
theorem ok:ConOk P_ gl 78 c:=co H func78 (.cons F124.ok .nil) rn
end F78
namespace F179
abbrev R_:=Bool
noncomputable def H:Hd:=⟨[Sb],[Sz],(.seq .d (.cut [] [] (.seq .d (.blk (.loop [0,5,6] [] .d))) .d)),⟨[(78,F78.c)],gl,false⟩,[],f179⟩
def t4(a:LB)(b:Int):S:=⟨[(0,vb a),(5, .val (.vec 2 .str) ([([73,68,51]:LB),([65,80,69,84,65,71,69,88]:LB)]:List LB)),(6,vi b)],[],[]⟩
def z4:Nat→S→Option R_:=H.i P_ [r,l,r,d]
def x6:Option R_:=H.e P_ [r,r] ⟨[],[],[]⟩
def x4(a:LB)(b:Int):Option R_:=H.e P_ [r,l,r,d] (t4 a b)
theorem e6:x6=Arq:=by kernel_rfl
theorem i4(a:LB):∀(q:Nat) (b:Int),z4 q (t4 a b)=If a q b:=
 ind (fun _=>by kernel_rfl) fun q ih b=>Eq.trans (b:=Rk x6 (fun b=>(z4 q) (t4 a b)) a b) (by kernel_rfl) (by simp only[e6,ih]<;>rfl)
theorem e4:x4=Ahn:=by funext a b;exact Eq.trans (by kernel_rfl) ((i4 a Dh b).trans (by rw[Ax];rfl))
noncomputable def F:=Ns
theorem rn x:H.u P_ x=F x:=Eq.trans (b:=Ahj x4 x) (by kernel_rfl) (by simp only[e4]<;>rfl)
noncomputable def c:Con:=⟨H.p,H.r,F⟩
theorem ok:ConOk P_ gl 179 c:=co H func179 (.cons F78.ok .nil) rn
end F179
namespace F36
abbrev R_:=(Int×Int×Int×Int×Int×Int)
noncomputable def H:Hd:=⟨[Sb],[.agg [Si,Si,Si,Si,Si],Si],(.seq .d (.seq .d (.seq .d (.seq .d (.seq .d (.seq .d (.seq .d (.cut [2,8] [] (.seq .d (.blk (.loop [0,2,8,9,44,45] [] .d))) .d)))))))),⟨[(78,F78.c),(79,F79.c),(80,F80.c),(81,F81.c),(82,F82.c)],gl,false⟩,[],f36⟩
def t4(b:LB)(g f:Int)(a:LI):S:=⟨[(0,vb b),(2, .ptr 0 []),(8, .ptr 1 []),(9,vi g),(44, .val (.vec 5 (.int .i64)) ([(2:Int),(2:Int),(2:Int),(4:Int),(4:Int)]:LI)),(45,vi f)],[.box 26 (.agg [vi 0,vi 0,vi 0,vi 0,vi 0]), .box 134 (.val (.vec 5 (.int .i64)) a)],[]⟩
def z4:Nat→S→Option R_:=H.i P_ [r,r,r,r,r,r,r,l,r,d]
def x6(a:LI):Option R_:=H.e P_ [r,r,r,r,r,r,r,r] ⟨[(2, .ptr 0 []),(8, .ptr 1 [])],[.box 26 (.agg [vi 0,vi 0,vi 0,vi 0,vi 0]), .box 134 (.val (.vec 5 (.int .i64)) a)],[]⟩
def x4(b:LB)(g f:Int)(a:LI):Option R_:=H.e P_ [r,r,r,r,r,r,r,l,r,d] (t4 b g f a)
theorem e6:x6=Ac6:=by kernel_rfl
theorem i4(b:LB):∀(q:Nat) (g f:Int) (a:LI),z4 q (t4 b g f a)=Lz b q g f a:=
 ind (fun _ _ _=>by kernel_rfl) fun q ih g f a=>Eq.trans (b:=Ack x6 (fun g f a=>(z4 q) (t4 b g f a)) b g f a) (by kernel_rfl) (by simp only[e6,ih]<;>rfl)
theorem e4:x4=Aa2:=by funext b g f a;exact Eq.trans (by kernel_rfl) ((i4 b Dh g f a).trans (by rw[Ax];rfl))
noncomputable def F:=Jr
theorem rn x:H.u P_ x=F x:=Eq.trans (b:=Akw x4 x) (by kernel_rfl) (by simp only[e4]<;>rfl)
noncomputable def c:Con:=⟨H.p,H.r,F⟩
theorem ok:ConOk P_ gl 36 c:=co H func36 (.cons F78.ok (.cons F79.ok (.cons F80.ok (.cons F81.ok (.cons F82.ok .nil))))) rn
end F36
namespace F37
noncomputable def H:Hd:=⟨[Sb,Ss],[Sz,Si], .d,⟨[(83,F83.c),(84,F84.c)],gl,false⟩,[],f37⟩
noncomputable def F:=u2 Lk
theorem rn x:H.u P_ x=F x:=by kernel_rfl
noncomputable def c:Con:=⟨H.p,H.r,F⟩
theorem ok:ConOk P_ gl 37 c:=co H func37 (.cons F83.ok (.cons F84.ok .nil)) rn
end F37
namespace F39
abbrev R_:=(LI×Int)
noncomputable def H:Hd:=⟨[Sb,Si],[Ol 3,Si],(.seq .d (.seq .d (.seq .d (.seq .d (.seq .d (.seq .d (.cut [10] [] (.seq .d (.blk (.loop [0,10,48,49] [] .d))) .d))))))),⟨[(79,F79.c),(80,F80.c),(87,F87.c)],gl,false⟩,[],f39⟩
def t4(b:LB)(f:LI)(g:Int)(a:LI):S:=⟨[(0,vb b),(10, .own 0),(48,vi (Ac f)),(49,vi g)],[Ai 3 a],[]⟩
def z4:Nat→S→Option R_:=H.i P_ [r,r,r,r,r,r,l,r,d]
def x6(a:LI):Option R_:=H.e P_ [r,r,r,r,r,r,r] ⟨[(10, .own 0)],[Ai 3 a],[]⟩
def x4(b:LB)(f:LI)(g:Int)(a:LI):Option R_:=H.e P_ [r,r,r,r,r,r,l,r,d] (t4 b f g a)
theorem e6:x6=Afh:=by kernel_rfl
theorem i4(b:LB)(f:LI):∀(q:Nat) (g:Int) (a:LI),z4 q (t4 b f g a)=Rw b f q g a:=
 ind (fun _ _=>by kernel_rfl) fun q ih g a=>Eq.trans (b:=Afk x6 (fun g a=>(z4 q) (t4 b f g a)) b f g a) (by kernel_rfl) (by simp only[e6,ih]<;>rfl)
theorem e4:x4=Ann:=by funext b f g a;exact Eq.trans (by kernel_rfl) ((i4 b f Dh g a).trans (by rw[Ax];rfl))
noncomputable def F:=u2 Yq
theorem rn x:H.u P_ x=F x:=Eq.trans (b:=u2 (Anl x4) x) (by kernel_rfl) (by simp only[e4]<;>rfl)
noncomputable def c:Con:=⟨H.p,H.r,F⟩
theorem ok:ConOk P_ gl 39 c:=co H func39 (.cons F79.ok (.cons F80.ok (.cons F87.ok .nil))) rn
end F39
namespace F180
noncomputable def H:Hd:=⟨[.agg [Si,Si,Si,Si,Si]],[.agg [Si,Si]], .d,⟨[],gl,false⟩,[],f180⟩
noncomputable def F:=u5 Xq
theorem rn x:H.u P_ x=F x:=by kernel_rfl
noncomputable def c:Con:=⟨H.p,H.r,F⟩
theorem ok:ConOk P_ gl 180 c:=co H func180 .nil rn
end F180
namespace F95
noncomputable def H:Hd:=⟨[Sb],[Sb,Si], .d,⟨[(80,F80.c),(125,F125.c)],gl,false⟩,[],f95⟩
noncomputable def F:=Ab4
theorem rn x:H.u P_ x=F x:=by kernel_rfl
noncomputable def c:Con:=⟨H.p,H.r,F⟩
theorem ok:ConOk P_ gl 95 c:=co H func95 (.cons F80.ok (.cons F125.ok .nil)) rn
end F95
namespace F96
noncomputable def H:Hd:=⟨[Sb],[.agg [Ob 5,Si],Si], .d,⟨[(136,F136.c)],gl,false⟩,[],f96⟩
noncomputable def F:=Bmi
theorem rn x:H.u P_ x=F x:=by kernel_rfl
noncomputable def c:Con:=⟨H.p,H.r,F⟩
theorem ok:ConOk P_ gl 96 c:=co H func96 (.cons F136.ok .nil) rn
end F96
namespace F141
abbrev R_:=UInt64
noncomputable def H:Hd:=⟨[.agg [Sb,Si],Si,Si],[Sq],(.seq .d (.seq .d (.cut [7] [] (.blk (.loop [1,2,3,7,8] [] .d)) .d))),⟨[],gl,false⟩,[],f141⟩
def t4(b f:Int)(h:LB)(k:Int)(g:UInt64)(a:Int):S:=⟨[(1,vi b),(2,vi f),(3, .ptr 0 []),(7,vq g),(8,vi a)],[.box 148 (.agg [vb h,vi k])],[]⟩
def z4:Nat→S→Option R_:=H.i P_ [r,r,l,d]
def x6(g:UInt64):Option R_:=H.e P_ [r,r,r] ⟨[(7,vq g)],[],[]⟩
def x4(b f:Int)(h:LB)(k:Int)(g:UInt64)(a:Int):Option R_:=H.e P_ [r,r,l,d] (t4 b f h k g a)
theorem e6:x6=Bdv:=by kernel_rfl
theorem i4(b f:Int)(h:LB)(k:Int):∀(q:Nat) (g:UInt64) (a:Int),z4 q (t4 b f h k g a)=Agw b f h k q g a:=
 ind (fun _ _=>by kernel_rfl) fun q ih g a=>Eq.trans (b:=At6 x6 (fun g a=>(z4 q) (t4 b f h k g a)) b f h k g a) (by kernel_rfl) (by simp only[e6,ih]<;>rfl)
theorem e4:x4=Bc2:=by funext b f h k g a;exact Eq.trans (by kernel_rfl) ((i4 b f h k Dh g a).trans (by rw[Ax];rfl))
noncomputable def F:=u4 Azg
theorem rn x:H.u P_ x=F x:=Eq.trans (b:=u4 (Bdu x4) x) (by kernel_rfl) (by simp only[e4]<;>rfl)
noncomputable def c:Con:=⟨H.p,H.r,F⟩
theorem ok:ConOk P_ gl 141 c:=co H func141 .nil rn
end F141
namespace F138
abbrev R_:=(LB×Int×Int)
abbrev K_:=S→Option R_
noncomputable def H:Hd:=⟨[.agg [Sb,Si],Si,Si],[.agg [Ob 5,Si],Si],(.seq .d (.seq .d (.seq .d (.seq .d (.cut [6,8] [] (.seq .d (.blk (.loop [2,3,6,8,9] [⟨8,[0], .own 5 (.int .u8)⟩] (.seq .d (.cut [2,3,6,8,9] [] (.blk (.seq .d (.keep [2,3,6,8,9,10,39,40,41,42,43] true))) .d))))) .d))))),⟨[(140,F140.c),(141,F141.c)],gl,false⟩,[(167,(.blk (.loop [0,1,2] [] (.seq .d (.blk (.cut [0,1,2] [] .d (.seq .d (.cut [0,1,2,7] [] .d .d))))))))],f138⟩
def t44(a:Int)(g:LB)(f b:Int)(k n:UInt64)(m h:Int)(u:LB):S:=⟨[(0, .ptr 0 []),(1,vq n),(2,vi m)],[.box 148 (.agg [.own 3,vi h]), .box 148 (.agg [vb g,vi f]), .box 148 (.agg [.nils,vi 0]),Ab 5 u],[[(2,vi a),(3, .ptr 1 []),(6, .ptr 2 []),(8, .ptr 0 []),(9,vi b),(10,vi (Dz (64:Int) (Ak a b))),(39, .agg [vb g,vi f]),(40,vi b),(41,vi (Dz (64:Int) (Ak a b))),(42,vq k),(43,vi (Dz (64:Int) (Ak a b)))]]⟩
def z44(kn27:K_):Nat→S→Option R_:=H.i P_ [r,r,r,r,l,r,d,(lp kn27),r,l,d,r,(call 5 167),d]
def t27(a:Int)(g:LB)(f b o:Int)(p:LB):S:=⟨[(2,vi a),(3, .ptr 0 []),(6, .ptr 1 []),(8, .ptr 2 []),(9,vi b)],[.box 148 (.agg [vb g,vi f]), .box 148 (.agg [.nils,vi 0]), .box 148 (.agg [.own 3,vi o]),Ab 5 p],[]⟩
def z27:Nat→S→Option R_:=H.i P_ [r,r,r,r,l,r,d]
def x52(o:Int)(p:LB):Option R_:=H.e P_ [r,r,r,r,r] ⟨[(6, .ptr 0 []),(8, .ptr 1 [])],[.box 148 (.agg [.nils,vi 0]), .box 148 (.agg [.own 2,vi o]),Ab 5 p],[]⟩
def x50(kn27:K_)(a:Int)(g:LB)(f b h:Int)(u:LB):Option R_:=H.e P_ [r,r,r,r,l,r,d,(lp kn27),r,r] ⟨[(2,vi a),(3, .ptr 0 []),(6, .ptr 1 []),(8, .ptr 2 []),(9,vi b)],[.box 148 (.agg [vb g,vi f]), .box 148 (.agg [.nils,vi 0]), .box 148 (.agg [.own 3,vi h]),Ab 5 u],[]⟩
def x48(kn27 kn44:K_)(a b:Int)(g:LB)(f:Int)(k n:UInt64)(m h:Int)(w:LB):Option R_:=H.e P_ [r,r,r,r,l,r,d,(lp kn27),r,l,d,r,(call 5 167),d,(lp kn44),r,d,r,r,r] ⟨[(0, .ptr 0 []),(1,vq n),(2,vi m),(7,vi (Dz m (Ak (8:Int) (Dt h (7:Int)))))],[.box 148 (.agg [.own 3,vi h]), .box 148 (.agg [vb g,vi f]), .box 148 (.agg [.nils,vi 0]),Ab 5 w],[[(2,vi a),(3, .ptr 1 []),(6, .ptr 2 []),(8, .ptr 0 []),(9,vi b),(10,vi (Dz (64:Int) (Ak a b))),(39, .agg [vb g,vi f]),(40,vi b),(41,vi (Dz (64:Int) (Ak a b))),(42,vq k),(43,vi (Dz (64:Int) (Ak a b)))]]⟩
def x47(kn27 kn44:K_)(a b:Int)(g:LB)(f:Int)(k n:UInt64)(m h:Int)(v:LB):Option R_:=H.e P_ [r,r,r,r,l,r,d,(lp kn27),r,l,d,r,(call 5 167),d,(lp kn44),r,d,r] ⟨[(0, .ptr 0 []),(1,vq n),(2,vi m)],[.box 148 (.agg [.own 3,vi h]), .box 148 (.agg [vb g,vi f]), .box 148 (.agg [.nils,vi 0]),Ab 5 v],[[(2,vi a),(3, .ptr 1 []),(6, .ptr 2 []),(8, .ptr 0 []),(9,vi b),(10,vi (Dz (64:Int) (Ak a b))),(39, .agg [vb g,vi f]),(40,vi b),(41,vi (Dz (64:Int) (Ak a b))),(42,vq k),(43,vi (Dz (64:Int) (Ak a b)))]]⟩
def x44(kn27:K_)(a:Int)(g:LB)(f b:Int)(k n:UInt64)(m h:Int)(u:LB):Option R_:=H.e P_ [r,r,r,r,l,r,d,(lp kn27),r,l,d,r,(call 5 167),d] (t44 a g f b k n m h u)
def x27(a:Int)(g:LB)(f b o:Int)(p:LB):Option R_:=H.e P_ [r,r,r,r,l,r,d] (t27 a g f b o p)
theorem e52:x52=Aqp:=by kernel_rfl
theorem e50(kn27:K_)(a:Int)(g:LB)(f:Int):x50 kn27 a g f=Ai3 (fun b o p=>kn27 (t27 a g f b o p)) a g f:=by kernel_rfl
theorem e48(kn27 kn44:K_)(a:Int)(g:LB)(f b:Int)(k:UInt64):x48 kn27 kn44 a b g f k=Aq0 (fun n m h u=>kn44 (t44 a g f b k n m h u)) a b g f k:=by kernel_rfl
theorem e47(kn27 kn44:K_)(a:Int)(g:LB)(f b:Int)(k:UInt64):x47 kn27 kn44 a b g f k=Aiw (fun n m h u=>kn44 (t44 a g f b k n m h u)) a b g f k:=Eq.trans (b:=Aq4 (x48 kn27 kn44 a b g f k) a b g f k) (by kernel_rfl) (by simp only[e48]<;>rfl)
theorem i44(kn27:K_)(a:Int)(g:LB)(f b:Int)(k:UInt64):∀(q:Nat) (n:UInt64) (m h:Int) (u:LB),z44 kn27 q (t44 a g f b k n m h u)=Nn (fun b o p=>kn27 (t27 a g f b o p)) a g f b k q n m h u:=
 ind (fun _ _ _ _=>by kernel_rfl) fun q ih n m h u=>Eq.trans (b:=Aja (x47 kn27 (z44 kn27 q) a b g f k) (x50 kn27 a g f) a g f b k n m h u) (by kernel_rfl) (by simp only[e47,e50,ih]<;>rfl)
theorem e44(kn27:K_)(a:Int)(g:LB)(f:Int):x44 kn27 a g f=Aqo (fun b o p=>kn27 (t27 a g f b o p)) a g f:=by funext b k n m h u;exact Eq.trans (by kernel_rfl) ((i44 kn27 a g f b k Dh n m h u).trans (by rw[Ax];rfl))
theorem i27(a:Int)(g:LB)(f:Int):∀(q:Nat) (b o:Int) (p:LB),z27 q (t27 a g f b o p)=Wk a g f q b o p:=
 ind (fun _ _ _=>by kernel_rfl) fun q ih b o p=>Eq.trans (b:=Apy (x44 (z27 q) a g f) x52 a g f b o p) (by kernel_rfl) (by simp only[e44,e52,ih]<;>rfl)
theorem e27:x27=Arf:=by funext a g f b o p;exact Eq.trans (by kernel_rfl) ((i27 a g f Dh b o p).trans (by rw[Ax];rfl))
noncomputable def F:=u4 Atq
theorem rn x:H.u P_ x=F x:=Eq.trans (b:=u4 (Auz x27) x) (by kernel_rfl) (by simp only[e27]<;>rfl)
noncomputable def c:Con:=⟨H.p,H.r,F⟩
theorem ok:ConOk P_ gl 138 c:=cr H func138 (.cons F140.ok (.cons F141.ok .nil)) (AnsOk.cons ent167 AnsOk.nil) rn
end F138
namespace F98
noncomputable def H:Hd:=⟨[.agg [Sb,Si],Si,Si],[Sq,Si], .d,⟨[(140,F140.c),(141,F141.c)],gl,false⟩,[],f98⟩
noncomputable def F:=u4 Acb
theorem rn x:H.u P_ x=F x:=by kernel_rfl
noncomputable def c:Con:=⟨H.p,H.r,F⟩
theorem ok:ConOk P_ gl 98 c:=co H func98 (.cons F140.ok (.cons F141.ok .nil)) rn
end F98
namespace F210
noncomputable def H:Hd:=⟨[Sq],[Si], .d,⟨[],gl,false⟩,[],f210⟩
noncomputable def F:=Fx
theorem rn x:H.u P_ x=F x:=by kernel_rfl
noncomputable def c:Con:=⟨H.p,H.r,F⟩
theorem ok:ConOk P_ gl 210 c:=co H func210 .nil rn
end F210
namespace F194
def Aln(j6:Int→UInt64→Int→LB→Int→Option (Int×Int×Int))(g:LB)(b a:Int):Option (Int×Int×Int):=
(Ji g b).bind fun m=>
if(Ay m 0)then
some (0,0,m)
else
if(Cb a 0)then
some (0,0,2)
else
if(Ls a b)then
some (0,0,24)
else
(fun n:Option (Int×Int×Int)=>
(fun o:Option (Int×Int×Int)=>
bo2 (
o)) (
bo (
n))) (
(Acb g b a (Dz 48 (Ak b a))).bind fun(k,h)=>
j6 h k a g b)
theorem Azj: @Aln= @Xw:=by
  unfold Aln Xw
  simp only[Ar2,Ahl,Ah5]
abbrev R_:=(Int×Int×Int)
noncomputable def H:Hd:=⟨[.agg [Sb,Si],Si],[Si,Si,Si],(.seq .d (.seq .d (.seq .d (.seq .d (.seq .d (.cut [3,5,6,8,9] [] (.keep [2,3,5,6,8,9,22,23,24,25,26,27,28,29] false) (.seq .d (.seq .d (.cut [] [] (.blk (.seq (.blk (.seq (.blk (.cut [] [] (.cut [3,4,5] [] (.cut [3,4,5,36] [] (.keep [3,4,5,8,36,37,38,39,40] true) .d) .d) .d)) .d)) .d)) .d))))))))),⟨[(98,F98.c),(140,F140.c),(210,F210.c)],gl,false⟩,[(209, .d)],f194⟩
def x10:Option R_:=H.e P_ [r,r,r,r,r,r,r,r,r] ⟨[],[],[]⟩
def x9:Option R_:=H.e P_ [r,r,r,r,r,r,r,r,l,d,l,d,l,d,r] ⟨[],[],[]⟩
def x8(f a:Int):Option R_:=H.e P_ [r,r,r,r,r,r,r,r,l,d,l,d,l,d,l,r] ⟨[(3, .ptr 0 []),(4,vi f),(5,vi 0)],[.box 3 (vi a)],[]⟩
def x7(f b a:Int):Option R_:=H.e P_ [r,r,r,r,r,r,r,r,l,d,l,d,l,d,l,l,r] ⟨[(3, .ptr 0 []),(4,vi f),(5,vi 0),(36,vt (Cb f (Dz (48:Int) (Ak b a))))],[.box 3 (vi a)],[]⟩
def x6(h:Int)(k:UInt64)(a:Int)(g:LB)(b:Int):Option R_:=H.e P_ [r,r,r,r,r,r] ⟨[(3, .ptr 0 []),(5,vi 0),(6,vi h),(8, .fn 209 [.ptr 1 [], .ptr 0 []]),(9,vq k)],[.box 3 (vi a), .box 148 (.agg [vb g,vi b])],[]⟩
theorem e10:x10=Au8:=by kernel_rfl
theorem e9:x9=Aw3:=Eq.trans (b:=Aw7 x10) (by kernel_rfl) (by simp only[e10]<;>rfl)
theorem e8:x8=Anx:=Eq.trans (b:=Anz x9) (by kernel_rfl) (by simp only[e9]<;>rfl)
theorem e7:x7=Ana:=Eq.trans (b:=Anq x8) (by kernel_rfl) (by simp only[e8]<;>rfl)
theorem e6:x6=An1:=Eq.trans (b:=Am8 x7) (by kernel_rfl) (by simp only[e7]<;>rfl)
noncomputable def F:=u3 Ae9
theorem rn x:H.u P_ x=F x:=Eq.trans (b:=u3 (Aln x6) x) (by kernel_rfl) (by unfold F;rw[Azj];simp only[e6]<;>rfl)
noncomputable def c:Con:=⟨H.p,H.r,F⟩
theorem ok:ConOk P_ gl 194 c:=cr H func194 (.cons F98.ok (.cons F140.ok (.cons F210.ok .nil))) (AnsOk.cons ent209 AnsOk.nil) rn
end F194
namespace F169
abbrev R_:=(UInt32×Int×Int)
noncomputable def H:Hd:=⟨[.agg [Sb,Si],Si,Si],[Su,Si,Si],(.seq .d (.seq .d (.seq .d (.seq .d (.seq .d (.seq .d (.cut [2,3,7,10,11] [] .d .d))))))),⟨[(98,F98.c),(140,F140.c),(194,F194.c),(195,F195.c)],gl,false⟩,[],f169⟩
def x2(a b f:Int)(g:LB)(h k:Int):Option R_:=H.e P_ [r,r,r,r,r,r,r] ⟨[(2,vi a),(3, .ptr 0 []),(7,vi b),(10,vi f),(11,vi k)],[.box 148 (.agg [vb g,vi h])],[]⟩
theorem e2:x2=Ai7:=by kernel_rfl
noncomputable def F:=u4 Awh
theorem rn x:H.u P_ x=F x:=Eq.trans (b:=u4 (Ap8 x2) x) (by kernel_rfl) (by simp only[e2]<;>rfl)
noncomputable def c:Con:=⟨H.p,H.r,F⟩
theorem ok:ConOk P_ gl 169 c:=co H func169 (.cons F98.ok (.cons F140.ok (.cons F194.ok (.cons F195.ok .nil)))) rn
end F169
namespace F139
abbrev R_:=(UInt32×Int×Int×Int×UInt64×UInt64×Int)
noncomputable def H:Hd:=⟨[.agg [Sb,Si],Si, .agg [Si,Si,Sq,Sq]],[Su,Si, .agg [Si,Si,Sq,Sq],Si],(.seq .d (.cut [1,3,5,8] [] .d (.seq .d (.seq .d (.cut [5,6,7,8] [] .d (.cut [5,6,7,8] [] (.keep [5,6,7,8,81] true) .d)))))),⟨[(98,F98.c),(140,F140.c),(168,F168.c),(169,F169.c),(197,F197.c)],gl,false⟩,[(170,(.seq .d (.seq .d (.seq .d (.blk (.cut [0,1,4] [] (.blk (.seq .d (.keep [0,1,4,6,18,19,20,21,22,23,24,25] true))) (.cut [] [] (.keep [0,1,4,27,28,29,30,31,32,33,34] true) .d))))))),(196, .d)],f139⟩
def x10(f:UInt32)(k w m:Int)(a n:UInt64):Option R_:=H.e P_ [r,r,r,r,r,r] ⟨[(5, .ptr 0 []),(6,vu f),(7,vi k),(8, .ptr 1 [])],[.box 196 (.agg [vi w,vi m,vq (Ad a (Ak (Ae f:UInt64) (Ce a (GI.toZ (4:UInt64)).toNat))),vq n]), .box 196 (.agg [vi 0,vi 0,vq 0,vq 0])],[]⟩
def x9(f:UInt32)(k m:Int)(a n:UInt64)(w:Int):Option R_:=H.e P_ [r,r,r,r,r,l,(call 1 170),r,r,r,d,r,r] ⟨[],[.box 196 (.agg [vi w,vi m,vq (Ad a (Ak (Ae f:UInt64) (Ce a (GI.toZ (4:UInt64)).toNat))),vq n]), .box 196 (.agg [vi 0,vi 0,vq 0,vq 0])],[[(5, .ptr 0 []),(6,vu f),(7,vi k),(8, .ptr 1 []),(81,vu f)]]⟩
def x8(f:UInt32)(k b:Int)(a:UInt64)(m:Int)(n:UInt64):Option R_:=H.e P_ [r,r,r,r,r,l,(call 1 170),r,r,r,d,r] ⟨[(0, .ptr 0 []),(1,vu f),(4, .fn 196 [])],[.box 196 (.agg [vi b,vi m,vq a,vq n]), .box 196 (.agg [vi 0,vi 0,vq 0,vq 0])],[[(5, .ptr 0 []),(6,vu f),(7,vi k),(8, .ptr 1 []),(81,vu f)]]⟩
def x7(b h:Int)(a g:UInt64)(f:UInt32)(k:Int):Option R_:=H.e P_ [r,r,r,r,r] ⟨[(5, .ptr 0 []),(6,vu f),(7,vi k),(8, .ptr 1 [])],[.box 196 (.agg [vi b,vi h,vq a,vq g]), .box 196 (.agg [vi 0,vi 0,vq 0,vq 0])],[]⟩
def x6(p:Int)(u:LB)(v b h:Int)(a g:UInt64):Option R_:=H.e P_ [r,r] ⟨[(1,vi p),(3, .ptr 0 []),(5, .ptr 1 []),(8, .ptr 2 [])],[.box 148 (.agg [vb u,vi v]), .box 196 (.agg [vi b,vi h,vq a,vq g]), .box 196 (.agg [vi 0,vi 0,vq 0,vq 0])],[]⟩
theorem e10:x10=Ani:=by kernel_rfl
theorem e9:x9=Aqr:=Eq.trans (b:=Ap3 x10) (by kernel_rfl) (by simp only[e10]<;>rfl)
theorem e8:x8=Abm:=Eq.trans (b:=Apw x9) (by kernel_rfl) (by simp only[e9]<;>rfl)
theorem e7:x7=Aiz:=Eq.trans (b:=Apl x8) (by kernel_rfl) (by simp only[e8]<;>rfl)
theorem e6:x6=Ard:=Eq.trans (b:=Aq2 x7) (by kernel_rfl) (by simp only[e7]<;>rfl)
noncomputable def F:=u7 Aeo
theorem rn x:H.u P_ x=F x:=Eq.trans (b:=u7 (Aqk x6) x) (by kernel_rfl) (by simp only[e6]<;>rfl)
noncomputable def c:Con:=⟨H.p,H.r,F⟩
theorem ok:ConOk P_ gl 139 c:=cr H func139 (.cons F98.ok (.cons F140.ok (.cons F168.ok (.cons F169.ok (.cons F197.ok .nil))))) (AnsOk.cons ent170 (AnsOk.cons ent196 AnsOk.nil)) rn
end F139
namespace F97
def Xo(j21:Int→Int→Int→UInt32→Int→(List (Int×Int×UInt64×UInt64×Unit))→LU→Int→Int→UInt64→UInt64→Option (LU×Int×Int))(j24:Int→LU→Option (LU×Int×Int))(a f:Int)(g:LB)(b k h:Int)(n:List (Int×Int×UInt64×UInt64×Unit))(m:LU):Option (LU×Int×Int):=
if(Cb h (Bd f a))then
(Atq g b k (Dz (Ad k 81) b)).bind fun(ah,ae,af)=>
if(Ay af 0)then
some (([]:LU),0,af)
else
(Jm (Ay a 0)).bind fun _=>
(getI n (Gs h a)).bind fun _=>
(fun ai:Option (LU×Int×Int)=>
both (
both (
(getI n (Gs h a)).bind fun p=>
(fun ao:Option (LU×Int×Int)=>
bo (
ao)) (
(Aeo ah ae 0 p.1 p.2.1 p.2.2.1 p.2.2.2.1).bind fun(w,v,aa,ab,ac,ad,y)=>
j21 k h y w v n m aa ab ac ad)) [
ai]) [
(getI n (Gs h a)).bind fun p=>
(fun aj:Option (LU×Int×Int)=>
both (
bo (
aj)) [
aj]) (
(Aeo ah ae 0 p.1 p.2.1 p.2.2.1 p.2.2.2.1).bind fun(w,v,aa,ab,ac,ad,y)=>
j21 k h y w v n m aa ab ac ad),
bo (
ai)]) (
(getI n (Gs h a)).bind fun p=>
(Aeo ah ae 0 p.1 p.2.1 p.2.2.1 p.2.2.2.1).bind fun(w,v,aa,ab,ac,ad,y)=>
j21 k h y w v n m aa ab ac ad)
else
j24 k m
theorem Apm: @Xo= @Qy:=by
  unfold Xo Qy
  try simp only[Ar2,Ahl,Ah5]
  all_goals
    repeat (refine funext fun _=>?_)
    repeat' first
      |with_reducible rfl
      |with_reducible refine Mf ?_ ?_
      |with_reducible refine Mn ?_ ?_ ?_
      |with_reducible refine Mi ?_ ?_ ?_ ?_
      |((with_reducible refine Ql ?_ ?_);focus (intro h;first|(subst h;rfl)|(simp only[h];rfl)|(simp[Dg,Ac,h];done)))
      |with_reducible refine Re fun x=>?_
      |with_reducible refine Yl (fun _=>?_) (fun _=>?_)
      |(refine Gt (fun h=>by simp only[h,Qh,Ef,Ed,ite_self]) (fun x h=>?_);(try simp only[h,Ef]))
      |(refine Ja (fun h=>?_) (fun h=>?_)<;>simp only[h,if_true,if_false,Bool.false_eq_true])
abbrev R_:=(LU×Int×Int)
abbrev K_:=S→Option R_
noncomputable def H:Hd:=⟨[Si,Si, .agg [Sb,Si]],[Ov 131,Si,Si],(.seq .d (.seq .d (.cut [0,1,5,9] [] (.seq .d (.blk (.loop [0,1,5,9,19] [] .d))) (.seq .d (.seq .d (.cut [11,12] [] (.seq .d (.blk (.loop [0,5,9,11,12,28,29] [⟨11,[], .own 131 (.int .u32)⟩] (.seq .d (.seq .d (.seq (.blk (.seq .d (.seq .d (.seq .d (.cut [0,5,9,11,12,13,15,16,17,18,28,29] [] (.mode false) (.seq .d (.cut [0,5,9,11,12,16,28,29] [] .d .d))))))) .d)))))) .d)))))),⟨[(137,F137.c),(138,F138.c),(139,F139.c)],gl,false⟩,[],f97⟩
def t16(a f:Int)(g:LB)(b k h:Int)(n:List (Int×Int×UInt64×UInt64×Unit))(m:LU):S:=⟨[(0,vi a),(5, .ptr 0 []),(9, .ptr 1 []),(11, .own 2),(12,vi k),(28,vi (Bd f a)),(29,vi h)],[.box 148 (.agg [vb g,vi b]), .box 197 (.val (.vec 6 (.cons (.int .i64) (.cons (.int .i64) (.cons (.int .u64) (.cons (.int .u64) .nil))))) n),Av 131 m],[]⟩
def z16:Nat→S→Option R_:=H.i P_ [r,r,r,r,r,l,r,d]
def t13(a f:Int)(g:LB)(b u:Int)(o:List (Int×Int×UInt64×UInt64×Unit)):S:=⟨[(0,vi a),(1,vi f),(5, .ptr 0 []),(9, .ptr 1 []),(19,vi u)],[.box 148 (.agg [vb g,vi b]), .box 197 (.val (.vec 6 (.cons (.int .i64) (.cons (.int .i64) (.cons (.int .u64) (.cons (.int .u64) .nil))))) o)],[]⟩
def z13:Nat→S→Option R_:=H.i P_ [r,r,l,r,d]
def x24(k:Int)(m:LU):Option R_:=H.e P_ [r,r,r,r,r,r] ⟨[(11, .own 0),(12,vi k)],[Av 131 m],[]⟩
def x22(kn16:K_)(a f:Int)(g:LB)(b k v:Int)(w:UInt32)(h:Int)(ag:List (Int×Int×UInt64×UInt64×Unit))(m:LU):Option R_:=H.e P_ [r,r,r,r,r,l,r,d,(lp kn16),r,r,l,d,r,r,r,r,r,r] ⟨[(0,vi a),(5, .ptr 0 []),(9, .ptr 1 []),(11, .own 2),(12,vi (Ad k v)),(16,vu w),(28,vi (Bd f a)),(29,vi h)],[.box 148 (.agg [vb g,vi b]), .box 197 (.val (.vec 6 (.cons (.int .i64) (.cons (.int .i64) (.cons (.int .u64) (.cons (.int .u64) .nil))))) ag),Av 131 m],[]⟩
def x21(kn16:K_)(a f:Int)(g:LB)(b k h y:Int)(w:UInt32)(v:Int)(n:List (Int×Int×UInt64×UInt64×Unit))(m:LU)(aa ab:Int)(ac ad:UInt64):Option R_:=H.e P_ [r,r,r,r,r,l,r,d,(lp kn16),r,r,l,d,r,r,r,r] ⟨[(0,vi a),(5, .ptr 0 []),(9, .ptr 1 []),(11, .own 2),(12,vi k),(13,vi h),(15,vi y),(16,vu w),(17,vi v),(18, .ptr 3 []),(28,vi (Bd f a)),(29,vi h)],[.box 148 (.agg [vb g,vi b]), .box 197 (.val (.vec 6 (.cons (.int .i64) (.cons (.int .i64) (.cons (.int .u64) (.cons (.int .u64) .nil))))) n),Av 131 m, .box 196 (.agg [vi aa,vi ab,vq ac,vq ad])],[]⟩
def x16(a f:Int)(g:LB)(b k h:Int)(n:List (Int×Int×UInt64×UInt64×Unit))(m:LU):Option R_:=H.e P_ [r,r,r,r,r,l,r,d] (t16 a f g b k h n m)
def x15(a f:Int)(g:LB)(b:Int)(o:List (Int×Int×UInt64×UInt64×Unit)):Option R_:=H.e P_ [r,r,r] ⟨[(0,vi a),(1,vi f),(5, .ptr 0 []),(9, .ptr 1 [])],[.box 148 (.agg [vb g,vi b]), .box 197 (.val (.vec 6 (.cons (.int .i64) (.cons (.int .i64) (.cons (.int .u64) (.cons (.int .u64) .nil))))) o)],[]⟩
def x13(a f:Int)(g:LB)(b u:Int)(o:List (Int×Int×UInt64×UInt64×Unit)):Option R_:=H.e P_ [r,r,l,r,d] (t13 a f g b u o)
theorem e24:x24=Ak8:=by kernel_rfl
theorem e22(kn16:K_)(a f:Int)(g:LB)(b:Int):x22 kn16 a f g b=Yz (fun k h n m=>kn16 (t16 a f g b k h n m)) a f g b:=by kernel_rfl
theorem e21(kn16:K_)(a f:Int)(g:LB)(b:Int):x21 kn16 a f g b=Qg (fun k h n m=>kn16 (t16 a f g b k h n m)) a f g b:=Eq.trans (b:=Qt (x22 kn16 a f g b) a f g b) (by kernel_rfl) (by simp only[e22]<;>rfl)
theorem i16(a f:Int)(g:LB)(b:Int):∀(q:Nat) (k h:Int) (n:List (Int×Int×UInt64×UInt64×Unit)) (m:LU),z16 q (t16 a f g b k h n m)=Me a f g b q k h n m:=
 ind (fun _ _ _ _=>by kernel_rfl) fun q ih k h n m=>Eq.trans (b:=Xo (x21 (z16 q) a f g b) x24 a f g b k h n m) (by kernel_rfl) (by rw[Apm];simp only[e21,e24,ih]<;>rfl)
theorem e16:x16=Akk:=by funext a f g b k h n m;exact Eq.trans (by kernel_rfl) ((i16 a f g b Dh k h n m).trans (by rw[Ax];rfl))
theorem e15:x15=Zb:=Eq.trans (b:=Ak2 x16) (by kernel_rfl) (by simp only[e16]<;>rfl)
theorem i13(a f:Int)(g:LB)(b:Int):∀(q:Nat) (u:Int) (o:List (Int×Int×UInt64×UInt64×Unit)),z13 q (t13 a f g b u o)=Yo a f g b q u o:=
 ind (fun _ _=>by kernel_rfl) fun q ih u o=>Eq.trans (b:=Akr x15 (fun u o=>(z13 q) (t13 a f g b u o)) a f g b u o) (by kernel_rfl) (by simp only[e15,ih]<;>rfl)
theorem e13:x13=Qk:=by funext a f g b u o;exact Eq.trans (by kernel_rfl) ((i13 a f g b Dh u o).trans (by rw[Ax];rfl))
noncomputable def F:=u4 Ab3
theorem rn x:H.u P_ x=F x:=Eq.trans (b:=u4 (Abe x13) x) (by kernel_rfl) (by simp only[e13]<;>rfl)
noncomputable def c:Con:=⟨H.p,H.r,F⟩
theorem ok:ConOk P_ gl 97 c:=co H func97 (.cons F137.ok (.cons F138.ok (.cons F139.ok .nil))) rn
end F97
namespace F144
noncomputable def H:Hd:=⟨[Su],[Sx], .d,⟨[],gl,false⟩,[],f144⟩
noncomputable def F:=Vy
theorem rn x:H.u P_ x=F x:=by kernel_rfl
noncomputable def c:Con:=⟨H.p,H.r,F⟩
theorem ok:ConOk P_ gl 144 c:=co H func144 .nil rn
end F144
namespace F174
noncomputable def H:Hd:=⟨[.agg [Si, .lf (.vec 16 (.int .i32)) none, .lf (.vec 16 (.int .i32)) none],Sx],[Sx, .agg [Si, .lf (.vec 16 (.int .i32)) none, .lf (.vec 16 (.int .i32)) none],Si], .d,⟨[(200,F200.c),(201,F201.c)],gl,false⟩,[],f174⟩
noncomputable def F:=u4 At4
theorem rn x:H.u P_ x=F x:=by kernel_rfl
noncomputable def c:Con:=⟨H.p,H.r,F⟩
theorem ok:ConOk P_ gl 174 c:=co H func174 (.cons F200.ok (.cons F201.ok .nil)) rn
end F174
namespace F143
def Ajn(a:Int)(b:Int32)(f:Int)(g h:LX)(o:Int32):Option (Int32×Int×Int32×Int×LX×LX×Int):=
(Uj a b f g h).bind fun k=>
if(Ay k 0)then
some (0,0,0,0,(List.replicate 16 (0:Int32)),(List.replicate 16 (0:Int32)),k)
else
(Vg a b).bind fun(m,y)=>
(At4 f g h o).bind fun(n,p,u,v,w)=>
(fun aa:Option (Int32×Int×Int32×Int×LX×LX×Int)=>
bo (
aa)) (
some ((Ad n m),a,(Ad n m),p,u,v,w))
theorem Ba3: @Ajn= @Ko:=by
  unfold Ajn Ko
  simp only[Ar2,Ahl,Ah5]
noncomputable def H:Hd:=⟨[.agg [Si,Sx, .agg [Si, .lf (.vec 16 (.int .i32)) none, .lf (.vec 16 (.int .i32)) none]],Sx],[Sx, .agg [Si,Sx, .agg [Si, .lf (.vec 16 (.int .i32)) none, .lf (.vec 16 (.int .i32)) none]],Si],(.seq .d (.seq .d (.seq .d (.seq .d (.seq (.mode false) .d))))),⟨[(172,F172.c),(173,F173.c),(174,F174.c)],gl,false⟩,[],f143⟩
noncomputable def F:=u6 Ko
theorem rn x:H.u P_ x=F x:=Eq.trans (b:=u6 Ajn x) (by kernel_rfl) (by rw[Ba3];rfl)
noncomputable def c:Con:=⟨H.p,H.r,F⟩
theorem ok:ConOk P_ gl 143 c:=co H func143 (.cons F172.ok (.cons F173.ok (.cons F174.ok .nil))) rn
end F143
namespace F145
abbrev R_:=(LX×Int)
abbrev K_:=S→Option R_
noncomputable def H:Hd:=⟨[Si,Sw],[Ow 21,Si],(.seq .d (.seq .d (.seq .d (.cut [7] [] (.seq .d (.blk (.loop [0,7,8] [] (.seq .d (.cut [0,7,8] [] (.blk (.keep [0,7,8,24,25,26,27,28,29] true)) .d))))) .d)))),⟨[(175,F175.c),(176,F176.c)],gl,true⟩,[(177,(.seq .d (.cut [0,2] [] .d (.seq .d (.blk (.loop [0,3] [] .d))))))],f145⟩
def t18(b a g:Int)(h:LX):S:=⟨[(0, .view true 0 [] (.int .i32) a ((Ad a b)-a)),(3,vi g)],[Aw 21 h],[[(0,vi b),(7, .own 0),(8,vi a),(24, .own 0),(25,vi a),(26,vi a),(27,vi b),(28,vi (Ad a b)),(29, .view true 0 [] (.int .i32) a ((Ad a b)-a))]]⟩
def z18(kn12:K_):Nat→S→Option R_:=H.i P_ [r,r,r,l,r,d,(lp kn12),r,l,d,(call 6 177),r,r,r,d]
def t12(b a:Int)(f:LX):S:=⟨[(0,vi b),(7, .own 0),(8,vi a)],[Aw 21 f],[]⟩
def z12:Nat→S→Option R_:=H.i P_ [r,r,r,l,r,d]
def x22(f:LX):Option R_:=H.e P_ [r,r,r,r] ⟨[(7, .own 0)],[Aw 21 f],[]⟩
def x20(kn12:K_)(b a:Int)(h:LX):Option R_:=H.e P_ [r,r,r,l,r,d,(lp kn12),r,r] ⟨[(0,vi b),(7, .own 0),(8,vi a)],[Aw 21 h],[]⟩
def x18(kn12:K_)(b a g:Int)(h:LX):Option R_:=H.e P_ [r,r,r,l,r,d,(lp kn12),r,l,d,(call 6 177),r,r,r,d] (t18 b a g h)
def x17(kn12:K_)(b a:Int)(k:LX):Option R_:=H.e P_ [r,r,r,l,r,d,(lp kn12),r,l,d,(call 6 177),r,r] ⟨[(0, .view true 0 [] (.int .i32) a ((Ad a b)-a)),(2,vi (Ak ((Ad a b)-a) (1:Int)))],[Aw 21 k],[[(0,vi b),(7, .own 0),(8,vi a),(24, .own 0),(25,vi a),(26,vi a),(27,vi b),(28,vi (Ad a b)),(29, .view true 0 [] (.int .i32) a ((Ad a b)-a))]]⟩
def x12(b a:Int)(f:LX):Option R_:=H.e P_ [r,r,r,l,r,d] (t12 b a f)
theorem e22:x22=Bal:=by kernel_rfl
theorem e20(kn12:K_)(b:Int):x20 kn12 b=Ap1 (fun a f=>kn12 (t12 b a f)) b:=by kernel_rfl
theorem i18(kn12:K_)(b a:Int):∀(q:Nat) (g:Int) (h:LX),z18 kn12 q (t18 b a g h)=Wh (fun a f=>kn12 (t12 b a f)) b a q g h:=
 ind (fun _ _=>by kernel_rfl) fun q ih g h=>Eq.trans (b:=Aiv (x20 kn12 b) (fun g h=>(z18 kn12 q) (t18 b a g h)) b a g h) (by kernel_rfl) (by simp only[e20,ih]<;>rfl)
theorem e18(kn12:K_)(b:Int):x18 kn12 b=Aqv (fun a f=>kn12 (t12 b a f)) b:=by funext a g h;exact Eq.trans (by kernel_rfl) ((i18 kn12 b a Dh g h).trans (by rw[Ax];rfl))
theorem e17(kn12:K_)(b:Int):x17 kn12 b=Ai1 (fun a f=>kn12 (t12 b a f)) b:=Eq.trans (b:=Aq7 (x18 kn12 b) b) (by kernel_rfl) (by simp only[e18]<;>rfl)
theorem i12(b:Int):∀(q:Nat) (a:Int) (f:LX),z12 q (t12 b a f)=Qz b q a f:=
 ind (fun _ _=>by kernel_rfl) fun q ih a f=>Eq.trans (b:=Ap9 (x17 (z12 q) b) x22 b a f) (by kernel_rfl) (by simp only[e17,e22,ih]<;>rfl)
theorem e12:x12=Aqx:=by funext b a f;exact Eq.trans (by kernel_rfl) ((i12 b Dh a f).trans (by rw[Ax];rfl))
noncomputable def F:=u2 Baz
theorem rn x:H.u P_ x=F x:=Eq.trans (b:=u2 (Aup x12) x) (by kernel_rfl) (by simp only[e12]<;>rfl)
noncomputable def c:Con:=⟨H.p,H.r,F⟩
theorem ok:ConOk P_ gl 145 c:=cr H func145 (.cons F175.ok (.cons F176.ok .nil)) (AnsOk.cons ent177 AnsOk.nil) rn
end F145
namespace F99
def Ur(j16:Int→Int32→Int→(List (Int×Int32×(Int×LX×LX×Unit)×Unit))→LX→Int→Int32→Int→LX→LX→Option (LX×Int))(j18:Int→Int→LX→Option (LX×Int))(f:LU)(a b g:Int)(h:List (Int×Int32×(Int×LX×LX×Unit)×Unit))(k:LX):Option (LX×Int):=
if(Cb g (Ac f))then
(getI f g).bind fun ag=>
(Jm (Ay a 0)).bind fun _=>
(getI h (Gs g a)).bind fun _=>
both (
(getI h (Gs g a)).bind fun m=>
both (
(Vy ag).bind fun ae=>
(fun ao:Option (LX×Int)=>
bo (
ao)) (
(Ko m.1 m.2.1 m.2.2.1.1 m.2.2.1.2.1 m.2.2.1.2.2.1 ae).bind fun(w,y,v,aa,ab,ac,u)=>
j16 g w u h k y v aa ab ac)) [
(Vy ag).bind fun ae=>
(Ko m.1 m.2.1 m.2.2.1.1 m.2.2.1.2.1 m.2.2.1.2.2.1 ae).bind fun(w,y,v,aa,ab,ac,u)=>
j16 g w u h k y v aa ab ac]) [
(Vy ag).bind fun af=>
both (
(getI h (Gs g a)).bind fun ad=>
(fun ap:Option (LX×Int)=>
bo (
ap)) (
(Ko ad.1 ad.2.1 ad.2.2.1.1 ad.2.2.1.2.1 ad.2.2.1.2.2.1 af).bind fun(w,y,v,aa,ab,ac,u)=>
j16 g w u h k y v aa ab ac)) [
(getI h (Gs g a)).bind fun ad=>
(Ko ad.1 ad.2.1 ad.2.2.1.1 ad.2.2.1.2.1 ad.2.2.1.2.2.1 af).bind fun(w,y,v,aa,ab,ac,u)=>
j16 g w u h k y v aa ab ac],
both (
(getI h (Gs g a)).bind fun m=>
(Vy ag).bind fun ae=>
(Ko m.1 m.2.1 m.2.2.1.1 m.2.2.1.2.1 m.2.2.1.2.2.1 ae).bind fun(w,y,v,aa,ab,ac,u)=>
j16 g w u h k y v aa ab ac) [
(Vy ag).bind fun af=>
(getI h (Gs g a)).bind fun ad=>
(Ko ad.1 ad.2.1 ad.2.2.1.1 ad.2.2.1.2.1 ad.2.2.1.2.2.1 af).bind fun(w,y,v,aa,ab,ac,u)=>
j16 g w u h k y v aa ab ac]]
else
j18 a b k
theorem Aos: @Ur= @Kr:=by
  unfold Ur Kr
  try simp only[Ar2,Ahl,Ah5]
  all_goals
    repeat (refine funext fun _=>?_)
    repeat' first
      |with_reducible rfl
      |with_reducible refine Mf ?_ ?_
      |with_reducible refine Mn ?_ ?_ ?_
      |with_reducible refine Mi ?_ ?_ ?_ ?_
      |((with_reducible refine Ql ?_ ?_);focus (intro h;first|(subst h;rfl)|(simp only[h];rfl)|(simp[Dg,Ac,h];done)))
      |with_reducible refine Re fun x=>?_
      |with_reducible refine Yl (fun _=>?_) (fun _=>?_)
      |(refine Gt (fun h=>by simp only[h,Qh,Ef,Ed,ite_self]) (fun x h=>?_);(try simp only[h,Ef]))
      |(refine Ja (fun h=>?_) (fun h=>?_)<;>simp only[h,if_true,if_false,Bool.false_eq_true])
abbrev R_:=(LX×Int)
abbrev K_:=S→Option R_
noncomputable def H:Hd:=⟨[.agg [Si,Si], .lf (.vec 16 (.int .i32)) none,Sv],[Ow 21,Si],(.seq .d (.seq .d (.cut [2,3,8] [] (.seq .d (.blk (.loop [2,3,4,8,20] [] .d))) (.seq .d (.cut [3,10] [] (.seq .d (.blk (.loop [3,8,10,33,34,35] [⟨10,[], .own 21 (.int .i32)⟩] (.seq .d (.seq .d (.seq (.blk (.seq .d (.seq .d (.cut [3,8,10,13,14,15,16,33,34,35] [] (.mode false) .d)))) .d)))))) .d))))),⟨[(47,F47.c),(142,F142.c),(143,F143.c),(144,F144.c),(145,F145.c)],gl,false⟩,[],f99⟩
def t13(f:LU)(a b g:Int)(h:List (Int×Int32×(Int×LX×LX×Unit)×Unit))(k:LX):S:=⟨[(3, .ptr 0 []),(8, .ptr 1 []),(10, .own 2),(33,vv f),(34,vi (Ac f)),(35,vi g)],[.box 44 (.agg [vi a,vi b]), .box 208 (.val (.vec 6 (.cons (.int .i64) (.cons (.int .i32) (.cons (.cons (.int .i64) (.cons (.vec 16 (.int .i32)) (.cons (.vec 16 (.int .i32)) .nil))) .nil)))) h),Aw 21 k],[]⟩
def z13:Nat→S→Option R_:=H.i P_ [r,r,r,r,l,r,d]
def t10(f:LU)(a b:Int)(o:LX)(p:Int)(n:List (Int×Int32×(Int×LX×LX×Unit)×Unit)):S:=⟨[(2,vv f),(3, .ptr 0 []),(4, .ptr 1 []),(8, .ptr 2 []),(20,vi p)],[.box 44 (.agg [vi a,vi b]), .box 92 (.val (.vec 16 (.int .i32)) o), .box 208 (.val (.vec 6 (.cons (.int .i64) (.cons (.int .i32) (.cons (.cons (.int .i64) (.cons (.vec 16 (.int .i32)) (.cons (.vec 16 (.int .i32)) .nil))) .nil)))) n)],[]⟩
def z10:Nat→S→Option R_:=H.i P_ [r,r,l,r,d]
def x18(a b:Int)(k:LX):Option R_:=H.e P_ [r,r,r,r,r] ⟨[(3, .ptr 0 []),(10, .own 1)],[.box 44 (.agg [vi a,vi b]),Aw 21 k],[]⟩
def x16(kn13:K_)(a:Int)(f:LU)(b g:Int)(w:Int32)(u:Int)(h:List (Int×Int32×(Int×LX×LX×Unit)×Unit))(k:LX)(y:Int)(v:Int32)(aa:Int)(ab ac:LX):Option R_:=H.e P_ [r,r,r,r,l,r,d,(lp kn13),r,r,l,d,r,r,r] ⟨[(3, .ptr 0 []),(8, .ptr 1 []),(10, .own 2),(13, .ptr 1 [.idx (Gs g a) 35]),(14,vx w),(15, .ptr 3 []),(16,vi u),(33,vv f),(34,vi (Ac f)),(35,vi g)],[.box 44 (.agg [vi a,vi b]), .box 208 (.val (.vec 6 (.cons (.int .i64) (.cons (.int .i32) (.cons (.cons (.int .i64) (.cons (.vec 16 (.int .i32)) (.cons (.vec 16 (.int .i32)) .nil))) .nil)))) h),Aw 21 k, .box 207 (.agg [vi y,vx v, .agg [vi aa, .val (.vec 16 (.int .i32)) ab, .val (.vec 16 (.int .i32)) ac]])],[]⟩
def x13(f:LU)(a b g:Int)(h:List (Int×Int32×(Int×LX×LX×Unit)×Unit))(k:LX):Option R_:=H.e P_ [r,r,r,r,l,r,d] (t13 f a b g h k)
def x12(f:LU)(a b:Int)(n:List (Int×Int32×(Int×LX×LX×Unit)×Unit)):Option R_:=H.e P_ [r,r,r] ⟨[(2,vv f),(3, .ptr 0 []),(8, .ptr 1 [])],[.box 44 (.agg [vi a,vi b]), .box 208 (.val (.vec 6 (.cons (.int .i64) (.cons (.int .i32) (.cons (.cons (.int .i64) (.cons (.vec 16 (.int .i32)) (.cons (.vec 16 (.int .i32)) .nil))) .nil)))) n)],[]⟩
def x10(f:LU)(a b:Int)(o:LX)(p:Int)(n:List (Int×Int32×(Int×LX×LX×Unit)×Unit)):Option R_:=H.e P_ [r,r,l,r,d] (t10 f a b o p n)
theorem e18:x18=Kz:=by kernel_rfl
theorem e16(kn13:K_)(f:LU)(a b:Int):x16 kn13 a f b=Xn (fun g h k=>kn13 (t13 f a b g h k)) a f b:=by kernel_rfl
theorem i13(f:LU)(a b:Int):∀(q:Nat) (g:Int) (h:List (Int×Int32×(Int×LX×LX×Unit)×Unit)) (k:LX),z13 q (t13 f a b g h k)=Ia f a b q g h k:=
 ind (fun _ _ _=>by kernel_rfl) fun q ih g h k=>Eq.trans (b:=Ur (x16 (z13 q) a f b) x18 f a b g h k) (by kernel_rfl) (by rw[Aos];simp only[e16,e18,ih]<;>rfl)
theorem e13:x13=Aik:=by funext f a b g h k;exact Eq.trans (by kernel_rfl) ((i13 f a b Dh g h k).trans (by rw[Ax];rfl))
theorem e12:x12=Xm:=Eq.trans (b:=Ah9 x13) (by kernel_rfl) (by simp only[e13]<;>rfl)
theorem i10(f:LU)(a b:Int)(o:LX):∀(q:Nat) (p:Int) (n:List (Int×Int32×(Int×LX×LX×Unit)×Unit)),z10 q (t10 f a b o p n)=Wr f a b o q p n:=
 ind (fun _ _=>by kernel_rfl) fun q ih p n=>Eq.trans (b:=Ah7 x12 (fun p n=>(z10 q) (t10 f a b o p n)) f a b o p n) (by kernel_rfl) (by simp only[e12,ih]<;>rfl)
theorem e10:x10=Oz:=by funext f a b o p n;exact Eq.trans (by kernel_rfl) ((i10 f a b o Dh p n).trans (by rw[Ax];rfl))
noncomputable def F:=u4 Rj
theorem rn x:H.u P_ x=F x:=Eq.trans (b:=u4 (Ym x10) x) (by kernel_rfl) (by simp only[e10]<;>rfl)
noncomputable def c:Con:=⟨H.p,H.r,F⟩
theorem ok:ConOk P_ gl 99 c:=co H func99 (.cons F47.ok (.cons F142.ok (.cons F143.ok (.cons F144.ok (.cons F145.ok .nil))))) rn
end F99
namespace F46
noncomputable def H:Hd:=⟨[.agg [Si,Si], .lf (.vec 16 (.int .i32)) none,Si,Sb],[Ow 21,Si], .d,⟨[(94,F94.c),(95,F95.c),(96,F96.c),(97,F97.c),(98,F98.c),(99,F99.c)],gl,false⟩,[],f46⟩
noncomputable def F:=u5 deframe_Decode
theorem rn x:H.u P_ x=F x:=by kernel_rfl
noncomputable def c:Con:=⟨H.p,H.r,F⟩
theorem ok:ConOk P_ gl 46 c:=co H func46 (.cons F94.ok (.cons F95.ok (.cons F96.ok (.cons F97.ok (.cons F98.ok (.cons F99.ok .nil)))))) rn
end F46
namespace F14
abbrev R_:=(LB×Int)
abbrev K_:=S→Option R_
noncomputable def H:Hd:=⟨[Si,Sw],[Ob 5,Si],(.seq .d (.seq .d (.seq .d (.cut [7] [] (.seq .d (.blk (.loop [0,7,17,18,19] [⟨7,[], .own 5 (.int .u8)⟩] (.seq .d (.seq .d (.cut [0,7,17,18,19] [] (.blk (.seq .d (.cut [0,7,9,17,18,19] [] .d (.seq .d (.blk (.loop [0,7,9,17,18,19,28,29] [] .d)))))) .d)))))) .d)))),⟨[(47,F47.c)],gl,false⟩,[],f14⟩
def t26(b:Int)(a:LX)(k:Int32)(f m:Int)(h:LB):S:=⟨[(0,vi b),(7, .own 0),(9,vx k),(17,vw a),(18,vi (Ac a)),(19,vi f),(28,vi (Cn b (8:Int))),(29,vi m)],[Ab 5 h],[]⟩
def z26(kn16:K_):Nat→S→Option R_:=H.i P_ [r,r,r,l,r,d,(lp kn16),r,r,l,d,r,r,r,d]
def t16(b:Int)(a:LX)(f:Int)(g:LB):S:=⟨[(0,vi b),(7, .own 0),(17,vw a),(18,vi (Ac a)),(19,vi f)],[Ab 5 g],[]⟩
def z16:Nat→S→Option R_:=H.i P_ [r,r,r,l,r,d]
def x30(g:LB):Option R_:=H.e P_ [r,r,r,r] ⟨[(7, .own 0)],[Ab 5 g],[]⟩
def x28(kn16:K_)(b:Int)(a:LX)(f:Int)(h:LB):Option R_:=H.e P_ [r,r,r,l,r,d,(lp kn16),r,r,r] ⟨[(0,vi b),(7, .own 0),(17,vw a),(18,vi (Ac a)),(19,vi f)],[Ab 5 h],[]⟩
def x26(kn16:K_)(b:Int)(a:LX)(k:Int32)(f m:Int)(h:LB):Option R_:=H.e P_ [r,r,r,l,r,d,(lp kn16),r,r,l,d,r,r,r,d] (t26 b a k f m h)
def x25(kn16:K_)(b:Int)(a:LX)(f:Int)(g:LB)(k:Int32):Option R_:=H.e P_ [r,r,r,l,r,d,(lp kn16),r,r,l,d,r,r] ⟨[(0,vi b),(7, .own 0),(9,vx k),(17,vw a),(18,vi (Ac a)),(19,vi f)],[Ab 5 g],[]⟩
def x16(b:Int)(a:LX)(f:Int)(g:LB):Option R_:=H.e P_ [r,r,r,l,r,d] (t16 b a f g)
theorem e30:x30=Arl:=by kernel_rfl
theorem e28(kn16:K_)(b:Int)(a:LX):x28 kn16 b a=Ahm (fun f g=>kn16 (t16 b a f g)) b a:=by kernel_rfl
theorem i26(kn16:K_)(b:Int)(a:LX)(k:Int32)(f:Int):∀(q:Nat) (m:Int) (h:LB),z26 kn16 q (t26 b a k f m h)=Ig (fun f g=>kn16 (t16 b a f g)) b a k f q m h:=
 ind (fun _ _=>by kernel_rfl) fun q ih m h=>Eq.trans (b:=Yf (x28 kn16 b a) (fun m h=>(z26 kn16 q) (t26 b a k f m h)) b a k f m h) (by kernel_rfl) (by simp only[e28,ih]<;>rfl)
theorem e26(kn16:K_)(b:Int)(a:LX):x26 kn16 b a=Ah2 (fun f g=>kn16 (t16 b a f g)) b a:=by funext k f m h;exact Eq.trans (by kernel_rfl) ((i26 kn16 b a k f Dh m h).trans (by rw[Ax];rfl))
theorem e25(kn16:K_)(b:Int)(a:LX):x25 kn16 b a=Kj (fun f g=>kn16 (t16 b a f g)) b a:=Eq.trans (b:=Ahk (x26 kn16 b a) b a) (by kernel_rfl) (by simp only[e26]<;>rfl)
theorem i16(b:Int)(a:LX):∀(q:Nat) (f:Int) (g:LB),z16 q (t16 b a f g)=Fp b a q f g:=
 ind (fun _ _=>by kernel_rfl) fun q ih f g=>Eq.trans (b:=Ya (x25 (z16 q) b a) x30 b a f g) (by kernel_rfl) (by simp only[e25,e30,ih]<;>rfl)
theorem e16:x16=Ar5:=by funext b a f g;exact Eq.trans (by kernel_rfl) ((i16 b a Dh f g).trans (by rw[Ax];rfl))
noncomputable def F:=u2 width_Bytes
theorem rn x:H.u P_ x=F x:=Eq.trans (b:=u2 (Alg x16) x) (by kernel_rfl) (by simp only[e16]<;>rfl)
noncomputable def c:Con:=⟨H.p,H.r,F⟩
theorem ok:ConOk P_ gl 14 c:=co H func14 (.cons F47.ok .nil) rn
end F14
namespace F181
abbrev R_:=Int
noncomputable def H:Hd:=⟨[Sl,Si],[Si],(.seq .d (.cut [] [] (.seq .d (.blk (.loop [0,1,7,8] [] .d))) .d)),⟨[],gl,false⟩,[],f181⟩
def t4(a:LI)(b f:Int):S:=⟨[(0,vl a),(1,vi b),(7,vi (Ac a)),(8,vi f)],[],[]⟩
def z4:Nat→S→Option R_:=H.i P_ [r,l,r,d]
def x6:Option R_:=H.e P_ [r,r] ⟨[],[],[]⟩
def x4(a:LI)(b f:Int):Option R_:=H.e P_ [r,l,r,d] (t4 a b f)
theorem e6:x6=Lm:=by kernel_rfl
theorem i4(a:LI)(b:Int):∀(q:Nat) (f:Int),z4 q (t4 a b f)=Bj a b q f:=
 ind (fun _=>by kernel_rfl) fun q ih f=>Eq.trans (b:=Dm x6 (fun f=>(z4 q) (t4 a b f)) a b f) (by kernel_rfl) (by simp only[e6,ih]<;>rfl)
theorem e4:x4=Gh:=by funext a b f;exact Eq.trans (by kernel_rfl) ((i4 a b Dh f).trans (by rw[Ax];rfl))
noncomputable def F:=u2 Hp
theorem rn x:H.u P_ x=F x:=Eq.trans (b:=u2 (Gm x4) x) (by kernel_rfl) (by simp only[e4]<;>rfl)
noncomputable def c:Con:=⟨H.p,H.r,F⟩
theorem ok:ConOk P_ gl 181 c:=co H func181 .nil rn
end F181
namespace F153
noncomputable def H:Hd:=⟨[Sl,Si],[Sz], .d,⟨[(181,F181.c)],gl,false⟩,[],f153⟩
noncomputable def F:=u2 Gi
theorem rn x:H.u P_ x=F x:=by kernel_rfl
noncomputable def c:Con:=⟨H.p,H.r,F⟩
theorem ok:ConOk P_ gl 153 c:=co H func153 (.cons F181.ok .nil) rn
end F153
namespace F113
noncomputable def H:Hd:=⟨[Si],[Sz], .d,⟨[(153,F153.c)],gl,false⟩,[],f113⟩
noncomputable def F:=Nz
theorem rn x:H.u P_ x=F x:=by kernel_rfl
noncomputable def c:Con:=⟨H.p,H.r,F⟩
theorem ok:ConOk P_ gl 113 c:=co H func113 (.cons F153.ok .nil) rn
end F113
namespace F73
def Yx(j28:Bool→Int→Option Int)(w ah:Int)(g a:LB)(k p o u v b:Int)(m:Bool)(n:Int)(ao:LX)(f:LI)(h:LB):Option Int:=
if(Ay ah 0)then
(Ah ah).bind fun(br,bs)=>
j28 br bs
else
(width_Bytes o ao).bind fun(bt,be)=>
if(Ay be 0)then
(Ah be).bind fun(bu,bv)=>
j28 bu bv
else
(Dg h bt).bind fun dv=>
(fun fa:Option Int=>
bo (
fa)) (
(Ba a w (Ac a)).bind fun dw=>
j28 false 0)
theorem Asq: @Yx= @Tu:=by
  unfold Yx Tu
  simp only[Ar2,Ahl,Ah5]
def Adb(j13:Bool→Int→Option Int)(j12:LB→LB→Int→Int→Int→Int→Int→Int→Bool→Int→LI→LB→Option Int)(j25:Bool→Int→Option Int)(j23:LB→LB→Int→Int→Int→Int→Int→Int→Bool→Int→LI→LB→Option Int)(j24:LB→LB→Int→Int→Int→Int→Int→Int→Bool→Int→LI→LB→Int→Option Int)(j28:Bool→Int→Option Int)(j26:Int→LB→LB→Int→Int→Int→Int→Int→Int→Bool→Int→LX→LI→LI→LB→Option Int)(j22:Bool→Option Int)(j21:Option Int)(aq ar:LB)(au av aw ax ay:Int)(az:LI)(ai:Int)(aj:LB)(ac:Bool)(y:Int):Option Int:=
if(Eb (Ac aq) 64)then
some 8
else
if((geq y 0)&&(!ac))then
(Cx aq ar au av aw ax ay az ai aj ac y).bind fun(g,a,k,p,o,u,v,f,b,h,m,n)=>
(Wj aq ar au av aw ax ay az ai aj ac y).bind fun bw=>
if bw then
if(geq k 0)then
(Gz a).bind fun(al,ba)=>
if(geq ba 24)then
j13 true 0
else
if(Ay ba 0)then
(Ah ba).bind fun(bx,bz)=>
j13 bx bz
else
(Ba a al (Ac a)).bind fun da=>
(Ns da).bind fun an=>
if an then
j13 true 0
else
(Ba a al (Ac a)).bind fun db=>
(Jr db).bind fun(ae,af,aa,ag,ab,bb)=>
if(geq bb 24)then
j13 true 0
else
if(Ay bb 0)then
(Ah bb).bind fun(dc,dd)=>
j13 dc dd
else
both (
(Ba a (Ad al 22) (Ac a)).bind fun ak=>
(fun fb:Option Int=>
bo (
fb)) (
j12 g ak ae af aa ag ab b m n f h)) [
(Ba a (Ad al 22) (Ac a)).bind fun ak=>
j12 g ak ae af aa ag ab b m n f h]
else
if(geq (Ac f) 0)then
if(geq k 2)then
if(Cb (Ac a) 8)then
j25 true 0
else
j23 g a k p o u v b m n f h
else
j24 g a k p o u v b m n f h 0
else
if(Cb b (Ac f))then
(getI f b).bind fun _=>
(getI f b).bind fun w=>
if(Cb (Ac a) w)then
j28 true 0
else
(Nl g).bind fun(ap,am)=>
if(Ay am 0)then
(Ah am).bind fun(de,df)=>
j28 de df
else
(Cu k p o u v).bind fun(ad,dg)=>
if((Ay dg 0)||(Ls b (Ac ad)))then
(Ah 8).bind fun(dh,di)=>
j28 dh di
else
j26 w g a k p o u v b m n ap ad f h
else
if(Eb (Ac a) 4000)then
(Ah 38).bind fun(dj,bf)=>
j22 ((dj==true)&&((geq bf 0)&&true))
else
j21
else
j22 false
else
if((geq (Ac ar) 0)&&(geq (Ac az) 0))then
if((((geq au 0)&&((geq av 0)&&((geq aw 0)&&((geq ax 0)&&((geq ay 0)&&true)))))&&(geq ai 0))&&(gle (Ac aj) 12000))then
if(geq y 0)then
j22 true
else
if(!ac)then
(Nz y).bind fun dk=>
j22 dk
else
j22 false
else
j22 false
else
if((false&&(geq ai 0))&&(gle (Ac aj) 12000))then
if(geq y 0)then
j22 true
else
if(!ac)then
(Nz y).bind fun dl=>
j22 dl
else
j22 false
else
j22 false
theorem Ath: @Adb= @Wb:=by
  unfold Adb Wb
  try simp only[Ar2,Ahl,Ah5]
  all_goals
    repeat (refine funext fun _=>?_)
    repeat' first
      |with_reducible rfl
      |with_reducible refine Mf ?_ ?_
      |with_reducible refine Mn ?_ ?_ ?_
      |with_reducible refine Mi ?_ ?_ ?_ ?_
      |((with_reducible refine Ql ?_ ?_);focus (intro h;first|(subst h;rfl)|(simp only[h];rfl)|(simp[Dg,Ac,h];done)))
      |with_reducible refine Re fun x=>?_
      |with_reducible refine Yl (fun _=>?_) (fun _=>?_)
      |(refine Gt (fun h=>by simp only[h,Qh,Ef,Ed,ite_self]) (fun x h=>?_);(try simp only[h,Ef]))
      |(refine Ja (fun h=>?_) (fun h=>?_)<;>simp only[h,if_true,if_false,Bool.false_eq_true])
abbrev R_:=Int
noncomputable def H:Hd:=⟨[.agg [Ss,Sb, .agg [Si,Si,Si,Si,Si],Sl,Si,Sb,Sz,Si]],[Si],(.seq .d (.seq .d (.seq .d (.cut [3] [] (.seq .d (.cond (.seq .d (.keep [3,21,22,23,24,25] false)) .d)) .d)))),⟨[(14,F14.c),(35,Ru),(36,F36.c),(37,F37.c),(38,F38.c),(39,F39.c),(45,F45.c),(46,F46.c),(74,F74.c),(112,F112.c),(113,F113.c),(151,F151.c),(152,F152.c),(179,F179.c),(180,F180.c)],gl,false⟩,[(109,(.seq .d (.cut [2] [] (.blk (.seq .d (.cond (.cut [2] [] (.keep [2,11] true) .d) (.seq .d (.cond (.cut [2] [] (.keep [2,20] true) .d) (.seq .d (.cond (.cut [2] [] (.keep [2,33] true) .d) .d))))))) .d))),(148,(.seq .d (.seq .d (.seq .d (.seq .d (.seq .d (.cut [0,2,5] [] (.mode false) .d))))))),(149,(.seq .d (.seq .d (.cut [0,2,3] [⟨0,[1], .ro (.int .u8)⟩] (.seq .d (.cond (.seq .d (.cut [0,2,3] [⟨0,[1], .ro (.int .u8)⟩,⟨9,[1], .ro (.int .u8)⟩,⟨10,[1], .ro (.int .u8)⟩,⟨15,[1], .ro (.int .u8)⟩,⟨16,[1], .ro (.int .u8)⟩,⟨18,[], .ro (.int .u8)⟩] .d (.cut [0,2,3,4,5] [] .d .d))) .d)) .d)))),(150,(.seq .d (.seq .d (.seq .d (.seq .d (.seq .d (.seq .d (.cut [0,2,3,4,6] [⟨0,[1], .ro (.int .u8)⟩,⟨9,[1], .ro (.int .u8)⟩,⟨10,[1], .ro (.int .u8)⟩,⟨13,[1], .ro (.int .u8)⟩,⟨14,[1], .ro (.int .u8)⟩,⟨19,[1], .ro (.int .u8)⟩,⟨20,[1], .ro (.int .u8)⟩,⟨22,[], .ro (.int .u8)⟩,⟨28,[1], .ro (.int .u8)⟩,⟨29,[1], .ro (.int .u8)⟩,⟨40,[1], .ro (.int .u8)⟩,⟨41,[1], .ro (.int .u8)⟩] .d (.cut [0,2,3,5,7] [] .d (.seq .d (.seq .d (.seq .d (.seq .d (.seq (.mode false) .d))))))))))))))],f73⟩
def x22(bi:Bool):Option R_:=H.e P_ [r,r,r,r] ⟨[(3,vt bi)],[],[]⟩
def x21:Option R_:=H.e P_ [r,r,r,l,r,l,r,(dcall 3 109 3 #[true,true,true,true,true,true,true,true] #[true,true,true,true,true,false,false,false]),r,r] ⟨[(2, .ptr 0 [])],[.box 166 (.agg [vt false,vi 0])],[[(3,vt false),(21, .cst (.bool true)),(23, .agg [vt true,vi 0])]]⟩
def x13(bj:Bool)(bk:Int):Option R_:=H.e P_ [r,r,r,l,r,l,r,(dcall 3 109 3 #[true,true,true,true,true,true,true,true] #[true,true,true,true,true,false,false,false]),r,l,d,r,l,r] ⟨[(2, .ptr 0 [])],[.box 166 (.agg [vt bj,vi bk])],[[(3,vt false),(21, .cst (.bool true)),(23, .agg [vt true,vi 0])]]⟩
def x12(g ak:LB)(ae af aa ag ab b:Int)(m:Bool)(n:Int)(f:LI)(h:LB):Option R_:=H.e P_ [r,r,r,l,r,l,r,(dcall 3 109 3 #[true,true,true,true,true,true,true,true] #[true,true,true,true,true,false,false,false]),r,l,d,r,l,l,(call 1 148),r,r,r,r,r,r] ⟨[(0, .ptr 0 []),(2, .ptr 1 []),(5, .ptr 2 [])],[.box 66 (.agg [vs g,vb ak, .agg [vi ae,vi af,vi aa,vi ag,vi ab], .own 4,vi b, .own 5,vt m,vi n]), .box 166 (.agg [vt false,vi 0]), .box 26 (.agg [vi ae,vi af,vi aa,vi ag,vi ab]), .box 166 (.agg [vt false,vi 0]),Ai 3 f,Ab 5 h],[[(2, .ptr 3 [])],[(3,vt false),(21, .cst (.bool true)),(23, .agg [vt true,vi 0])]]⟩
def x25(bl:Bool)(bm:Int):Option R_:=H.e P_ [r,r,r,l,r,l,r,(dcall 3 109 3 #[true,true,true,true,true,true,true,true] #[true,true,true,true,true,false,false,false]),r,l,d,r,r,r,l,r] ⟨[(2, .ptr 0 [])],[.box 166 (.agg [vt bl,vi bm])],[[(3,vt false),(21, .cst (.bool true)),(23, .agg [vt true,vi 0])]]⟩
def x24(g a:LB)(k p o u v b:Int)(m:Bool)(n:Int)(f:LI)(h:LB)(bg:Int):Option R_:=H.e P_ [r,r,r,l,r,l,r,(dcall 3 109 3 #[true,true,true,true,true,true,true,true] #[true,true,true,true,true,false,false,false]),r,l,d,r,r,r,l,l,(call 1 149),r,r,r] ⟨[(0, .ptr 0 []),(2, .ptr 1 []),(3,vi bg)],[.box 66 (.agg [vs g,vb a, .agg [vi k,vi p,vi o,vi u,vi v], .own 3,vi b, .own 4,vt m,vi n]), .box 166 (.agg [vt false,vi 0]), .box 166 (.agg [vt false,vi 0]),Ai 3 f,Ab 5 h],[[(2, .ptr 2 [])],[(3,vt false),(21, .cst (.bool true)),(23, .agg [vt true,vi 0])]]⟩
def x15(bd:Bool)(bc:Int)(g a:LB)(k p o u v b:Int)(m:Bool)(n:Int)(f:LI)(h:LB):Option R_:=H.e P_ [r,r,r,l,r,l,r,(dcall 3 109 3 #[true,true,true,true,true,true,true,true] #[true,true,true,true,true,false,false,false]),r,l,d,r,r,r,l,l,(call 1 149),r,r,l,r,l,r,r,r] ⟨[(0, .ptr 0 []),(2, .ptr 1 []),(3,vi 8),(4,vt bd),(5,vi bc)],[.box 66 (.agg [vs g,vb a, .agg [vi k,vi p,vi o,vi u,vi v], .own 3,vi b, .own 4,vt m,vi n]), .box 166 (.agg [vt false,vi 0]), .box 166 (.agg [vt false,vi 0]),Ai 3 f,Ab 5 h],[[(2, .ptr 2 [])],[(3,vt false),(21, .cst (.bool true)),(23, .agg [vt true,vi 0])]]⟩
def x23(g a:LB)(k p o u v b:Int)(m:Bool)(n:Int)(f:LI)(h:LB):Option R_:=H.e P_ [r,r,r,l,r,l,r,(dcall 3 109 3 #[true,true,true,true,true,true,true,true] #[true,true,true,true,true,false,false,false]),r,l,d,r,r,r,l,l,(call 1 149),r,r,l,r,l,r,r] ⟨[(0, .ptr 0 []),(2, .ptr 1 []),(3,vi 8)],[.box 66 (.agg [vs g,vb a, .agg [vi k,vi p,vi o,vi u,vi v], .own 3,vi b, .own 4,vt m,vi n]), .box 166 (.agg [vt false,vi 0]), .box 166 (.agg [vt false,vi 0]),Ai 3 f,Ab 5 h],[[(2, .ptr 2 [])],[(3,vt false),(21, .cst (.bool true)),(23, .agg [vt true,vi 0])]]⟩
def x28(bp:Bool)(bq:Int):Option R_:=H.e P_ [r,r,r,l,r,l,r,(dcall 3 109 3 #[true,true,true,true,true,true,true,true] #[true,true,true,true,true,false,false,false]),r,l,d,r,r,r,r,r,l,r] ⟨[(2, .ptr 0 [])],[.box 166 (.agg [vt bp,vi bq])],[[(3,vt false),(21, .cst (.bool true)),(23, .agg [vt true,vi 0])]]⟩
def x27(w ah:Int)(g a:LB)(k p o u v b:Int)(m:Bool)(n:Int)(ao:LX)(f:LI)(h:LB):Option R_:=H.e P_ [r,r,r,l,r,l,r,(dcall 3 109 3 #[true,true,true,true,true,true,true,true] #[true,true,true,true,true,false,false,false]),r,l,d,r,r,r,r,r,l,l,(call 1 150),r,r,r,r,r,r,r,r] ⟨[(0, .ptr 0 []),(2, .ptr 1 []),(3,vi w),(5,vi ah),(7, .own 2)],[.box 66 (.agg [vs g,vb a, .agg [vi k,vi p,vi o,vi u,vi v], .own 4,vi b, .own 5,vt m,vi n]), .box 166 (.agg [vt false,vi 0]),Aw 21 ao, .box 166 (.agg [vt false,vi 0]),Ai 3 f,Ab 5 h],[[(2, .ptr 3 [])],[(3,vt false),(21, .cst (.bool true)),(23, .agg [vt true,vi 0])]]⟩
def x26(w:Int)(g a:LB)(k p o u v b:Int)(m:Bool)(n:Int)(ap:LX)(ad f:LI)(h:LB):Option R_:=H.e P_ [r,r,r,l,r,l,r,(dcall 3 109 3 #[true,true,true,true,true,true,true,true] #[true,true,true,true,true,false,false,false]),r,l,d,r,r,r,r,r,l,l,(call 1 150),r,r,r,r,r,r,r] ⟨[(0, .ptr 0 []),(2, .ptr 1 []),(3,vi w),(4, .ptr 2 []),(6, .own 3)],[.box 66 (.agg [vs g,vb a, .agg [vi k,vi p,vi o,vi u,vi v], .own 5,vi b, .own 6,vt m,vi n]), .box 166 (.agg [vt false,vi 0]), .box 92 (.val (.vec 16 (.int .i32)) ap),Ai 3 ad, .box 166 (.agg [vt false,vi 0]),Ai 3 f,Ab 5 h],[[(2, .ptr 4 [])],[(3,vt false),(21, .cst (.bool true)),(23, .agg [vt true,vi 0])]]⟩
theorem e22:x22=Bc:=by kernel_rfl
theorem e21:x21=Tq:=Eq.trans (b:=Ada x22) (by kernel_rfl) (by simp only[e22]<;>rfl)
theorem e13:x13=Dl:=Eq.trans (b:=Aa1 x22) (by kernel_rfl) (by simp only[e22]<;>rfl)
theorem e12:x12=Tv:=Eq.trans (b:=Aa7 x13) (by kernel_rfl) (by simp only[e13]<;>rfl)
theorem e25:x25=Hm:=Eq.trans (b:=Ac0 x22) (by kernel_rfl) (by simp only[e22]<;>rfl)
theorem e24:x24=Ho:=Eq.trans (b:=Acf x25) (by kernel_rfl) (by simp only[e25]<;>rfl)
theorem e15:x15=Acv:=Eq.trans (b:=Aby x25 x24) (by kernel_rfl) (by simp only[e25,e24]<;>rfl)
theorem e23:x23=To:=Eq.trans (b:=Abp x15) (by kernel_rfl) (by simp only[e15]<;>rfl)
theorem e28:x28=Gd:=Eq.trans (b:=Abw x22) (by kernel_rfl) (by simp only[e22]<;>rfl)
theorem e27:x27=Aay:=Eq.trans (b:=Yx x28) (by kernel_rfl) (by rw[Asq];simp only[e28]<;>rfl)
theorem e26:x26=Tg:=Eq.trans (b:=Acl x27) (by kernel_rfl) (by simp only[e27]<;>rfl)
noncomputable def F:=u12 Hh
theorem rn x:H.u P_ x=F x:=Eq.trans (b:=u12 (Adb x13 x12 x25 x23 x24 x28 x26 x22 x21) x) (by kernel_rfl) (by unfold F;rw[Ath];simp only[e13,e12,e25,e23,e24,e28,e26,e22,e21]<;>rfl)
noncomputable def c:Con:=⟨H.p,H.r,F⟩
theorem ok:ConOk P_ gl 73 c:=cr H func73 (.cons F14.ok (.cons Abo (.cons F36.ok (.cons F37.ok (.cons F38.ok (.cons F39.ok (.cons F45.ok (.cons F46.ok (.cons F74.ok (.cons F112.ok (.cons F113.ok (.cons F151.ok (.cons F152.ok (.cons F179.ok (.cons F180.ok .nil))))))))))))))) (AnsOk.cons ent109 (AnsOk.cons ent148 (AnsOk.cons ent149 (AnsOk.cons ent150 AnsOk.nil)))) rn
end F73
namespace F108
def Abb(f g:LB)(h k m n o:Int)(p:LI)(u:Int)(v:LB)(b:Bool)(a:Int):Option (LB×LB×Int×Int×Int×Int×Int×LI×Int×LB×Bool×Int×Int):=
(Hh f g h k m n o p u v b a).bind fun w=>
if(Ay w 0)then
some (([]:LB),([]:LB),0,0,0,0,0,([]:LI),0,([]:LB),false,0,w)
else
if(Ay a 0)then
(fun bl:Option (LB×LB×Int×Int×Int×Int×Int×LI×Int×LB×Bool×Int×Int)=>
both (
both (
(Cx f g h k m n o p u v b a).bind fun(y,aa,ab,ac,ad,ae,af,ag,ah,ai,aj,ak)=>
(fun bm:Option (LB×LB×Int×Int×Int×Int×Int×LI×Int×LB×Bool×Int×Int)=>
bo (
bm)) (
some (y,aa,ab,ac,ad,ae,af,ag,ah,ai,aj,ak,a))) [
bl]) [
bl]) (
(Cx f g h k m n o p u v b a).bind fun(y,aa,ab,ac,ad,ae,af,ag,ah,ai,aj,ak)=>
some (y,aa,ab,ac,ad,ae,af,ag,ah,ai,aj,ak,a))
else
if b then
(Cx f g h k m n o p u v b a).bind fun(al,am,an,ao,ap,aq,ar,au,av,aw,ax,ay)=>
some (al,am,an,ao,ap,aq,ar,au,av,aw,ax,ay,36)
else
(Cx f g h k m n o p u v b a).bind fun(az,ba,bb,bc,bd,be,bf,bg,bh,bi,bj,bk)=>
some (az,ba,bb,bc,bd,be,bf,bg,bh,bi,bj,bk,0)
theorem Aul: @Abb= @Oh:=by
  unfold Abb Oh
  try simp only[Ar2,Ahl,Ah5]
  all_goals
    repeat (refine funext fun _=>?_)
    repeat' first
      |with_reducible rfl
      |with_reducible refine Mf ?_ ?_
      |with_reducible refine Mn ?_ ?_ ?_
      |with_reducible refine Mi ?_ ?_ ?_ ?_
      |((with_reducible refine Ql ?_ ?_);focus (intro h;first|(subst h;rfl)|(simp only[h];rfl)|(simp[Dg,Ac,h];done)))
      |with_reducible refine Re fun x=>?_
      |with_reducible refine Yl (fun _=>?_) (fun _=>?_)
      |(refine Gt (fun h=>by simp only[h,Qh,Ef,Ed,ite_self]) (fun x h=>?_);(try simp only[h,Ef]))
      |(refine Ja (fun h=>?_) (fun h=>?_)<;>simp only[h,if_true,if_false,Bool.false_eq_true])
noncomputable def H:Hd:=⟨[.agg [Ss,Sb, .agg [Si,Si,Si,Si,Si],Sl,Si,Sb,Sz,Si]],[.agg [Ss,Ob 5, .agg [Si,Si,Si,Si,Si],Ol 3,Si,Ob 5,Sz,Si],Si],(.seq .d (.seq .d (.seq (.blk (.seq .d (.cond (.seq (.mode false) .d) .d))) .d))),⟨[(73,F73.c),(74,F74.c)],gl,false⟩,[],f108⟩
noncomputable def F:=u12 Oh
theorem rn x:H.u P_ x=F x:=Eq.trans (b:=u12 Abb x) (by kernel_rfl) (by rw[Aul];rfl)
noncomputable def c:Con:=⟨H.p,H.r,F⟩
theorem ok:ConOk P_ gl 108 c:=co H func108 (.cons F73.ok (.cons F74.ok .nil)) rn
end F108
namespace F110
noncomputable def H:Hd:=⟨[.agg [Ss,Sb, .agg [Si,Si,Si,Si,Si],Sl,Si,Sb,Sz,Si],Si],[.agg [Ss,Ob 5, .agg [Si,Si,Si,Si,Si],Ol 3,Si,Sb,Sz,Si],Si], .d,⟨[],gl,false⟩,[],f110⟩
noncomputable def F:=u13 Ai8
theorem rn x:H.u P_ x=F x:=by kernel_rfl
noncomputable def c:Con:=⟨H.p,H.r,F⟩
theorem ok:ConOk P_ gl 110 c:=co H func110 .nil rn
end F110
namespace F71
def Acp(j78:Int→Int→Int→Int→Int→LI→Bool→Int→LB→Int→LB→Option (LB×LB×Int×Int×Int×Int×Int×LI×Int×LB×Bool×Int×Int))(a:LB)(b:Bool)(f w ag:Int)(g:LB)(m p o u v h:Int)(am:LX)(k:LI)(n:LB):Option (LB×LB×Int×Int×Int×Int×Int×LI×Int×LB×Bool×Int×Int):=
if(Ay ag 0)then
(Ah ag).bind fun(dd,de)=>
j78 m p o u v k dd de g h n
else
(width_Bytes o am).bind fun(df,aj)=>
if(Ay aj 0)then
(Ah aj).bind fun(dg,dh)=>
j78 m p o u v k dg dh g h n
else
(Dg n df).bind fun di=>
(fun hb:Option (LB×LB×Int×Int×Int×Int×Int×LI×Int×LB×Bool×Int×Int)=>
bo (
hb)) (
(Ba g w (Ac g)).bind fun dj=>
j78 m p o u v k false 0 dj (Ad h 1) di)
theorem Avm: @Acp= @Wm:=by
  unfold Acp Wm
  simp only[Ar2,Ahl,Ah5]
def Abz(j62:Int→LI→LB→Bool→Int→LB→Int→Int→Int→Int→Int→Option (LB×LB×Int×Int×Int×Int×Int×LI×Int×LB×Bool×Int×Int))(j61:LB→Int→Int→Int→Int→Int→Int→LI→LB→Option (LB×LB×Int×Int×Int×Int×Int×LI×Int×LB×Bool×Int×Int))(j75:Int→Int→Int→Int→Int→Int→LB→Bool→Int→LB→LI→Option (LB×LB×Int×Int×Int×Int×Int×LI×Int×LB×Bool×Int×Int))(j73:LB→Int→Int→Int→Int→Int→Int→LI→LB→Option (LB×LB×Int×Int×Int×Int×Int×LI×Int×LB×Bool×Int×Int))(j74:LB→Int→Int→Int→Int→Int→Int→LI→LB→Int→Option (LB×LB×Int×Int×Int×Int×Int×LI×Int×LB×Bool×Int×Int))(j78:Int→Int→Int→Int→Int→LI→Bool→Int→LB→Int→LB→Option (LB×LB×Int×Int×Int×Int×Int×LI×Int×LB×Bool×Int×Int))(j76:Int→LB→Int→Int→Int→Int→Int→Int→LX→LI→LI→LB→Option (LB×LB×Int×Int×Int×Int×Int×LI×Int×LB×Bool×Int×Int))(j71:LB→Int→Int→Int→Int→Int→Int→Bool→Int→LI→LB→Option (LB×LB×Int×Int×Int×Int×Int×LI×Int×LB×Bool×Int×Int))(j70:LB→Int→Int→Int→Int→Int→Int→LI→LB→Option (LB×LB×Int×Int×Int×Int×Int×LI×Int×LB×Bool×Int×Int))(a:LB)(b:Bool)(f:Int)(g:LB)(m p o u v h:Int)(k:LI)(n:LB):Option (LB×LB×Int×Int×Int×Int×Int×LI×Int×LB×Bool×Int×Int):=
if(geq m 0)then
(Gz g).bind fun(ah,ao)=>
if(geq ao 24)then
j62 h k n true 0 g m p o u v
else
if(Ay ao 0)then
(Ah ao).bind fun(dk,dl)=>
j62 h k n dk dl g m p o u v
else
(Ba g ah (Ac g)).bind fun dm=>
(Ns dm).bind fun al=>
if al then
j62 h k n true 0 g m p o u v
else
(Ba g ah (Ac g)).bind fun dn=>
(Jr dn).bind fun(ab,ac,y,ad,aa,ap)=>
if(geq ap 24)then
j62 h k n true 0 g m p o u v
else
if(Ay ap 0)then
(Ah ap).bind fun(dp,dq)=>
j62 h k n dp dq g m p o u v
else
both (
(Ba g (Ad ah 22) (Ac g)).bind fun af=>
bo (
j61 af ab ac y ad aa h k n)) [
(Ba g (Ad ah 22) (Ac g)).bind fun af=>
j61 af ab ac y ad aa h k n]
else
if(geq (Ac k) 0)then
if(geq m 2)then
if(Cb (Ac g) 8)then
j75 m p o u v h n true 0 g k
else
j73 g m p o u v h k n
else
j74 g m p o u v h k n 0
else
if(Cb h (Ac k))then
(getI k h).bind fun _=>
(getI k h).bind fun w=>
if(Cb (Ac g) w)then
j78 m p o u v k true 0 g h n
else
(Nl a).bind fun(an,ak)=>
if(Ay ak 0)then
(Ah ak).bind fun(dr,ds)=>
j78 m p o u v k dr ds g h n
else
(Cu m p o u v).bind fun(ae,dt)=>
if((Ay dt 0)||(Ls h (Ac ae)))then
(Ah 8).bind fun(du,bc)=>
j78 m p o u v k du bc g h n
else
j76 w g m p o u v h an ae k n
else
if(Eb (Ac g) 4000)then
(Ah 38).bind fun(dv,ai)=>
j71 g m p o u v h dv ai k n
else
j70 g m p o u v h k n
theorem Aut: @Abz= @Hc:=by
  unfold Abz Hc
  repeat (refine funext fun _=>?_)
  repeat' first
    |with_reducible rfl
    |with_reducible refine Mf ?_ ?_
    |with_reducible refine Mn ?_ ?_ ?_
    |with_reducible refine Mi ?_ ?_ ?_ ?_
    |((with_reducible refine Ql ?_ ?_);focus (intro h;first|(subst h;rfl)|(simp only[h];rfl)|(simp[Dg,Ac,h];done)))
    |with_reducible refine Re fun x=>?_
    |with_reducible refine Yl (fun _=>?_) (fun _=>?_)
    |(refine Gt (fun h=>by simp only[h,Qh,Ef,Ed,ite_self]) (fun x h=>?_);(try simp only[h,Ef]))
    |(refine Ja (fun h=>?_) (fun h=>?_)<;>simp only[h,if_true,if_false,Bool.false_eq_true])
abbrev R_:=(LB×LB×Int×Int×Int×Int×Int×LI×Int×LB×Bool×Int×Int)
abbrev K_:=S→Option R_
noncomputable def H:Hd:=⟨[.agg [Ss,Sb, .agg [Si,Si,Si,Si,Si],Sl,Si,Sb,Sz,Si],Sb],[.agg [Ss,Ob 5, .agg [Si,Si,Si,Si,Si],Ol 3,Si,Sb,Sz,Si],Si],(.seq .d (.seq .d (.seq .d (.seq .d (.blk (.loop [2,4] [⟨2,[1], .ro (.int .u8)⟩] (.blk (.cut [2,4,7] [] (.keep [2,4,7,22] true) .d)))))))),⟨[(14,F14.c),(35,Ru),(36,F36.c),(37,F37.c),(38,F38.c),(39,F39.c),(45,F45.c),(46,F46.c),(74,F74.c),(108,F108.c),(110,F110.c),(151,F151.c),(152,F152.c),(179,F179.c),(180,F180.c)],gl,false⟩,[(109,(.seq .d (.cut [2] [] (.blk (.seq .d (.cond (.cut [2] [] (.keep [2,11] true) .d) (.seq .d (.cond (.cut [2] [] (.keep [2,20] true) .d) (.seq .d (.cond (.cut [2] [] (.keep [2,33] true) .d) .d))))))) .d))),(148,(.seq .d (.seq .d (.seq .d (.seq .d (.seq .d (.cut [0,2,5] [] (.mode false) .d))))))),(149,(.seq .d (.seq .d (.cut [0,2,3] [] (.seq .d (.cond (.seq .d (.cut [0,2,3] [⟨0,[1], .ro (.int .u8)⟩,⟨9,[1], .ro (.int .u8)⟩,⟨10,[1], .ro (.int .u8)⟩,⟨15,[1], .ro (.int .u8)⟩,⟨16,[1], .ro (.int .u8)⟩,⟨18,[], .ro (.int .u8)⟩] .d (.cut [0,2,3,4,5] [] .d .d))) .d)) .d)))),(150,(.seq .d (.seq .d (.seq .d (.seq .d (.seq .d (.seq .d (.cut [0,2,3,4,6] [⟨0,[1], .ro (.int .u8)⟩,⟨9,[1], .ro (.int .u8)⟩,⟨10,[1], .ro (.int .u8)⟩,⟨13,[1], .ro (.int .u8)⟩,⟨14,[1], .ro (.int .u8)⟩,⟨19,[1], .ro (.int .u8)⟩,⟨20,[1], .ro (.int .u8)⟩,⟨22,[], .ro (.int .u8)⟩,⟨28,[1], .ro (.int .u8)⟩,⟨29,[1], .ro (.int .u8)⟩,⟨40,[1], .ro (.int .u8)⟩,⟨41,[1], .ro (.int .u8)⟩] .d (.cut [0,2,3,5,7] [] .d (.seq .d (.seq .d (.seq .d (.seq .d (.seq (.mode false) .d))))))))))))))],f71⟩
def t37(a:LB)(b:Bool)(f:Int)(g:LB)(m p o u v h:Int)(k:LI)(n:LB):S:=⟨[(2, .ptr 0 []),(4, .ptr 1 [])],[.box 66 (.agg [vs a,vb g, .agg [vi m,vi p,vi o,vi u,vi v], .own 2,vi h, .own 3,vt b,vi f]), .box 66 (.agg [vs ([]:LB), .nils, .agg [vi 0,vi 0,vi 0,vi 0,vi 0], .nils,vi 0, .nils,vt false,vi 0]),Ai 3 k,Ab 5 n],[]⟩
def z37:Nat→S→Option R_:=H.i P_ [r,r,r,r,d]
def x71(kn37:K_)(a:LB)(b:Bool)(f:Int)(ar:LB)(au av aw ax ay az:Int)(bh:Bool)(be:Int)(ba:LI)(bb:LB):Option R_:=H.e P_ [r,r,r,r,d,(lp kn37),d,r] ⟨[(2, .ptr 0 []),(4, .ptr 1 []),(7, .ptr 2 [])],[.box 66 (.agg [vs a,vb ar, .agg [vi au,vi av,vi aw,vi ax,vi ay], .own 3,vi az, .own 4,vt b,vi f]), .box 66 (.agg [vs ([]:LB), .nils, .agg [vi 0,vi 0,vi 0,vi 0,vi 0], .nils,vi 0, .nils,vt false,vi 0]), .box 166 (.agg [vt bh,vi be]),Ai 3 ba,Ab 5 bb],[]⟩
def x70(kn37:K_)(a:LB)(b:Bool)(f:Int)(g:LB)(m p o u v h:Int)(k:LI)(n:LB):Option R_:=H.e P_ [r,r,r,r,d,(lp kn37),d,l,(call 0 109),r,r] ⟨[(2, .ptr 0 [])],[.box 166 (.agg [vt false,vi 0]), .box 66 (.agg [vs a,vb g, .agg [vi m,vi p,vi o,vi u,vi v], .own 3,vi h, .own 4,vt b,vi f]), .box 66 (.agg [vs ([]:LB), .nils, .agg [vi 0,vi 0,vi 0,vi 0,vi 0], .nils,vi 0, .nils,vt false,vi 0]),Ai 3 k,Ab 5 n],[[(2, .ptr 1 []),(4, .ptr 2 [])]]⟩
def x62(kn37:K_)(a:LB)(b:Bool)(f h:Int)(k:LI)(n:LB)(bj:Bool)(bk:Int)(bl:LB)(bm bn bp bq br:Int):Option R_:=H.e P_ [r,r,r,r,d,(lp kn37),d,l,(call 0 109),r,l,d,r,l,r] ⟨[(2, .ptr 0 [])],[.box 166 (.agg [vt bj,vi bk]), .box 66 (.agg [vs a,vb bl, .agg [vi bm,vi bn,vi bp,vi bq,vi br], .own 3,vi h, .own 4,vt b,vi f]), .box 66 (.agg [vs ([]:LB), .nils, .agg [vi 0,vi 0,vi 0,vi 0,vi 0], .nils,vi 0, .nils,vt false,vi 0]),Ai 3 k,Ab 5 n],[[(2, .ptr 1 []),(4, .ptr 2 [])]]⟩
def x61(kn37:K_)(a:LB)(b:Bool)(f:Int)(af:LB)(ab ac y ad aa h:Int)(k:LI)(n:LB):Option R_:=H.e P_ [r,r,r,r,d,(lp kn37),d,l,(call 0 109),r,l,d,r,l,l,(call 1 148),r,r,r,r,r,r] ⟨[(0, .ptr 0 []),(2, .ptr 1 []),(5, .ptr 2 [])],[.box 66 (.agg [vs a,vb af, .agg [vi ab,vi ac,vi y,vi ad,vi aa], .own 5,vi h, .own 6,vt b,vi f]), .box 166 (.agg [vt false,vi 0]), .box 26 (.agg [vi ab,vi ac,vi y,vi ad,vi aa]), .box 166 (.agg [vt false,vi 0]), .box 66 (.agg [vs ([]:LB), .nils, .agg [vi 0,vi 0,vi 0,vi 0,vi 0], .nils,vi 0, .nils,vt false,vi 0]),Ai 3 k,Ab 5 n],[[(2, .ptr 3 [])],[(2, .ptr 0 []),(4, .ptr 4 [])]]⟩
def x75(kn37:K_)(a:LB)(b:Bool)(f m p o u v h:Int)(n:LB)(bs:Bool)(bt:Int)(bu:LB)(bv:LI):Option R_:=H.e P_ [r,r,r,r,d,(lp kn37),d,l,(call 0 109),r,l,d,r,r,r,l,r] ⟨[(2, .ptr 0 [])],[.box 166 (.agg [vt bs,vi bt]), .box 66 (.agg [vs a,vb bu, .agg [vi m,vi p,vi o,vi u,vi v], .own 3,vi h, .own 4,vt b,vi f]), .box 66 (.agg [vs ([]:LB), .nils, .agg [vi 0,vi 0,vi 0,vi 0,vi 0], .nils,vi 0, .nils,vt false,vi 0]),Ai 3 bv,Ab 5 n],[[(2, .ptr 1 []),(4, .ptr 2 [])]]⟩
def x74(kn37:K_)(a:LB)(b:Bool)(f:Int)(g:LB)(m p o u v h:Int)(k:LI)(n:LB)(bf:Int):Option R_:=H.e P_ [r,r,r,r,d,(lp kn37),d,l,(call 0 109),r,l,d,r,r,r,l,l,(call 1 149),r,r,r] ⟨[(0, .ptr 0 []),(2, .ptr 1 []),(3,vi bf)],[.box 66 (.agg [vs a,vb g, .agg [vi m,vi p,vi o,vi u,vi v], .own 4,vi h, .own 5,vt b,vi f]), .box 166 (.agg [vt false,vi 0]), .box 166 (.agg [vt false,vi 0]), .box 66 (.agg [vs ([]:LB), .nils, .agg [vi 0,vi 0,vi 0,vi 0,vi 0], .nils,vi 0, .nils,vt false,vi 0]),Ai 3 k,Ab 5 n],[[(2, .ptr 2 [])],[(2, .ptr 0 []),(4, .ptr 3 [])]]⟩
def x64(kn37:K_)(a:LB)(b:Bool)(f:Int)(bd:Bool)(aq:Int)(g:LB)(m p o u v h:Int)(k:LI)(n:LB):Option R_:=H.e P_ [r,r,r,r,d,(lp kn37),d,l,(call 0 109),r,l,d,r,r,r,l,l,(call 1 149),r,r,l,r,l,r,r,r] ⟨[(0, .ptr 0 []),(2, .ptr 1 []),(3,vi 8),(4,vt bd),(5,vi aq)],[.box 66 (.agg [vs a,vb g, .agg [vi m,vi p,vi o,vi u,vi v], .own 4,vi h, .own 5,vt b,vi f]), .box 166 (.agg [vt false,vi 0]), .box 166 (.agg [vt false,vi 0]), .box 66 (.agg [vs ([]:LB), .nils, .agg [vi 0,vi 0,vi 0,vi 0,vi 0], .nils,vi 0, .nils,vt false,vi 0]),Ai 3 k,Ab 5 n],[[(2, .ptr 2 [])],[(2, .ptr 0 []),(4, .ptr 3 [])]]⟩
def x73(kn37:K_)(a:LB)(b:Bool)(f:Int)(g:LB)(m p o u v h:Int)(k:LI)(n:LB):Option R_:=H.e P_ [r,r,r,r,d,(lp kn37),d,l,(call 0 109),r,l,d,r,r,r,l,l,(call 1 149),r,r,l,r,l,r,r] ⟨[(0, .ptr 0 []),(2, .ptr 1 []),(3,vi 8)],[.box 66 (.agg [vs a,vb g, .agg [vi m,vi p,vi o,vi u,vi v], .own 4,vi h, .own 5,vt b,vi f]), .box 166 (.agg [vt false,vi 0]), .box 166 (.agg [vt false,vi 0]), .box 66 (.agg [vs ([]:LB), .nils, .agg [vi 0,vi 0,vi 0,vi 0,vi 0], .nils,vi 0, .nils,vt false,vi 0]),Ai 3 k,Ab 5 n],[[(2, .ptr 2 [])],[(2, .ptr 0 []),(4, .ptr 3 [])]]⟩
def x78(kn37:K_)(a:LB)(b:Bool)(f m p o u v:Int)(k:LI)(bx:Bool)(bz:Int)(da:LB)(db:Int)(dc:LB):Option R_:=H.e P_ [r,r,r,r,d,(lp kn37),d,l,(call 0 109),r,l,d,r,r,r,r,r,l,r] ⟨[(2, .ptr 0 [])],[.box 166 (.agg [vt bx,vi bz]), .box 66 (.agg [vs a,vb da, .agg [vi m,vi p,vi o,vi u,vi v], .own 3,vi db, .own 4,vt b,vi f]), .box 66 (.agg [vs ([]:LB), .nils, .agg [vi 0,vi 0,vi 0,vi 0,vi 0], .nils,vi 0, .nils,vt false,vi 0]),Ai 3 k,Ab 5 dc],[[(2, .ptr 1 []),(4, .ptr 2 [])]]⟩
def x77(kn37:K_)(a:LB)(b:Bool)(f w ag:Int)(g:LB)(m p o u v h:Int)(am:LX)(k:LI)(n:LB):Option R_:=H.e P_ [r,r,r,r,d,(lp kn37),d,l,(call 0 109),r,l,d,r,r,r,r,r,l,l,(call 1 150),r,r,r,r,r,r,r,r] ⟨[(0, .ptr 0 []),(2, .ptr 1 []),(3,vi w),(5,vi ag),(7, .own 2)],[.box 66 (.agg [vs a,vb g, .agg [vi m,vi p,vi o,vi u,vi v], .own 5,vi h, .own 6,vt b,vi f]), .box 166 (.agg [vt false,vi 0]),Aw 21 am, .box 166 (.agg [vt false,vi 0]), .box 66 (.agg [vs ([]:LB), .nils, .agg [vi 0,vi 0,vi 0,vi 0,vi 0], .nils,vi 0, .nils,vt false,vi 0]),Ai 3 k,Ab 5 n],[[(2, .ptr 3 [])],[(2, .ptr 0 []),(4, .ptr 4 [])]]⟩
def x76(kn37:K_)(a:LB)(b:Bool)(f w:Int)(g:LB)(m p o u v h:Int)(an:LX)(ae k:LI)(n:LB):Option R_:=H.e P_ [r,r,r,r,d,(lp kn37),d,l,(call 0 109),r,l,d,r,r,r,r,r,l,l,(call 1 150),r,r,r,r,r,r,r] ⟨[(0, .ptr 0 []),(2, .ptr 1 []),(3,vi w),(4, .ptr 2 []),(6, .own 3)],[.box 66 (.agg [vs a,vb g, .agg [vi m,vi p,vi o,vi u,vi v], .own 6,vi h, .own 7,vt b,vi f]), .box 166 (.agg [vt false,vi 0]), .box 92 (.val (.vec 16 (.int .i32)) an),Ai 3 ae, .box 166 (.agg [vt false,vi 0]), .box 66 (.agg [vs ([]:LB), .nils, .agg [vi 0,vi 0,vi 0,vi 0,vi 0], .nils,vi 0, .nils,vt false,vi 0]),Ai 3 k,Ab 5 n],[[(2, .ptr 4 [])],[(2, .ptr 0 []),(4, .ptr 5 [])]]⟩
def x37(a:LB)(b:Bool)(f:Int)(g:LB)(m p o u v h:Int)(k:LI)(n:LB):Option R_:=H.e P_ [r,r,r,r,d] (t37 a b f g m p o u v h k n)
theorem e71(kn37:K_)(a:LB)(b:Bool)(f:Int):x71 kn37 a b f=Bn (fun g m p o u v h k n=>kn37 (t37 a b f g m p o u v h k n)) a b f:=by kernel_rfl
theorem e70(kn37:K_)(a:LB)(b:Bool)(f:Int):x70 kn37 a b f=Wf (fun g m p o u v h k n=>kn37 (t37 a b f g m p o u v h k n)) a b f:=Eq.trans (b:=Aow (x71 kn37 a b f) a b f) (by kernel_rfl) (by simp only[e71]<;>rfl)
theorem e62(kn37:K_)(a:LB)(b:Bool)(f:Int):x62 kn37 a b f=Lo (fun g m p o u v h k n=>kn37 (t37 a b f g m p o u v h k n)) a b f:=Eq.trans (b:=Ao4 (x71 kn37 a b f) a b f) (by kernel_rfl) (by simp only[e71]<;>rfl)
theorem e61(kn37:K_)(a:LB)(b:Bool)(f:Int):x61 kn37 a b f=Pz (fun g m p o u v h k n=>kn37 (t37 a b f g m p o u v h k n)) a b f:=Eq.trans (b:=Aeu (x62 kn37 a b f) a b f) (by kernel_rfl) (by simp only[e62]<;>rfl)
theorem e75(kn37:K_)(a:LB)(b:Bool)(f:Int):x75 kn37 a b f=Jh (fun g m p o u v h k n=>kn37 (t37 a b f g m p o u v h k n)) a b f:=Eq.trans (b:=Ao7 (x71 kn37 a b f) a b f) (by kernel_rfl) (by simp only[e71]<;>rfl)
theorem e74(kn37:K_)(a:LB)(b:Bool)(f:Int):x74 kn37 a b f=Jf (fun g m p o u v h k n=>kn37 (t37 a b f g m p o u v h k n)) a b f:=Eq.trans (b:=Ae2 (x75 kn37 a b f) a b f) (by kernel_rfl) (by simp only[e75]<;>rfl)
theorem e64(kn37:K_)(a:LB)(b:Bool)(f:Int):x64 kn37 a b f=Ae5 (fun g m p o u v h k n=>kn37 (t37 a b f g m p o u v h k n)) a b f:=Eq.trans (b:=Ae7 (x75 kn37 a b f) (x74 kn37 a b f) a b f) (by kernel_rfl) (by simp only[e75,e74]<;>rfl)
theorem e73(kn37:K_)(a:LB)(b:Bool)(f:Int):x73 kn37 a b f=Po (fun g m p o u v h k n=>kn37 (t37 a b f g m p o u v h k n)) a b f:=Eq.trans (b:=Aek (x64 kn37 a b f) a b f) (by kernel_rfl) (by simp only[e64]<;>rfl)
theorem e78(kn37:K_)(a:LB)(b:Bool)(f:Int):x78 kn37 a b f=Ln (fun g m p o u v h k n=>kn37 (t37 a b f g m p o u v h k n)) a b f:=Eq.trans (b:=Aoy (x71 kn37 a b f) a b f) (by kernel_rfl) (by simp only[e71]<;>rfl)
theorem e77(kn37:K_)(a:LB)(b:Bool)(f:Int):x77 kn37 a b f=Aef (fun g m p o u v h k n=>kn37 (t37 a b f g m p o u v h k n)) a b f:=Eq.trans (b:=Acp (x78 kn37 a b f) a b f) (by kernel_rfl) (by rw[Avm];simp only[e78]<;>rfl)
theorem e76(kn37:K_)(a:LB)(b:Bool)(f:Int):x76 kn37 a b f=Qb (fun g m p o u v h k n=>kn37 (t37 a b f g m p o u v h k n)) a b f:=Eq.trans (b:=Ae3 (x77 kn37 a b f) a b f) (by kernel_rfl) (by simp only[e77]<;>rfl)
theorem i37(a:LB)(b:Bool)(f:Int):∀(q:Nat) (g:LB) (m p o u v h:Int) (k:LI) (n:LB),z37 q (t37 a b f g m p o u v h k n)=Aq a b f q g m p o u v h k n:=
 ind (fun _ _ _ _ _ _ _ _ _=>by kernel_rfl) fun q ih g m p o u v h k n=>Eq.trans (b:=Abz (x62 (z37 q) a b f) (x61 (z37 q) a b f) (x75 (z37 q) a b f) (x73 (z37 q) a b f) (x74 (z37 q) a b f) (x78 (z37 q) a b f) (x76 (z37 q) a b f) (x71 (z37 q) a b f) (x70 (z37 q) a b f) a b f g m p o u v h k n) (by kernel_rfl) (by rw[Aut];simp only[e62,e61,e75,e73,e74,e78,e76,e71,e70,ih]<;>rfl)
theorem e37:x37=Aom:=by funext a b f g m p o u v h k n;exact Eq.trans (by kernel_rfl) ((i37 a b f Dh g m p o u v h k n).trans (by rw[Ax];rfl))
noncomputable def F:=u13 Jq
theorem rn x:H.u P_ x=F x:=Eq.trans (b:=u13 (Rm x37) x) (by kernel_rfl) (by simp only[e37]<;>rfl)
noncomputable def c:Con:=⟨H.p,H.r,F⟩
theorem ok:ConOk P_ gl 71 c:=cr H func71 (.cons F14.ok (.cons Abo (.cons F36.ok (.cons F37.ok (.cons F38.ok (.cons F39.ok (.cons F45.ok (.cons F46.ok (.cons F74.ok (.cons F108.ok (.cons F110.ok (.cons F151.ok (.cons F152.ok (.cons F179.ok (.cons F180.ok .nil))))))))))))))) (AnsOk.cons ent109 (AnsOk.cons ent148 (AnsOk.cons ent149 (AnsOk.cons ent150 AnsOk.nil)))) rn
end F71
namespace F69
noncomputable def H:Hd:=⟨[Sb],[.agg [Ss,Ob 5, .agg [Si,Si,Si,Si,Si],Ol 3,Si,Sb,Sz,Si],Sz], .d,⟨[(70,F70.c),(71,F71.c)],gl,false⟩,[],f69⟩
noncomputable def F:=Ox
theorem rn x:H.u P_ x=F x:=by kernel_rfl
noncomputable def c:Con:=⟨H.p,H.r,F⟩
theorem ok:ConOk P_ gl 69 c:=co H func69 (.cons F70.ok (.cons F71.ok .nil)) rn
end F69
namespace F91
abbrev R_:=(Int×Int)
noncomputable def H:Hd:=⟨[Sb],[Si,Si],(.seq .d (.seq .d (.cut [0,4] [] .d .d))),⟨[(84,F84.c),(132,F132.c),(133,F133.c),(134,F134.c)],gl,false⟩,[],f91⟩
def x2(a:LB):Option R_:=H.e P_ [r,r,r] ⟨[(0,vb a),(4,vi (Ak (Ac a) (32:Int)))],[],[]⟩
theorem e2:x2=Aum:=by kernel_rfl
noncomputable def F:=Bah
theorem rn x:H.u P_ x=F x:=Eq.trans (b:=Avf x2 x) (by kernel_rfl) (by simp only[e2]<;>rfl)
noncomputable def c:Con:=⟨H.p,H.r,F⟩
theorem ok:ConOk P_ gl 91 c:=co H func91 (.cons F84.ok (.cons F132.ok (.cons F133.ok (.cons F134.ok .nil)))) rn
end F91
namespace F41
abbrev R_:=(Int×Int)
abbrev K_:=S→Option R_
noncomputable def H:Hd:=⟨[Sb],[Si,Si],(.seq .d (.seq .d (.seq .d (.seq .d (.cut [5] [] (.blk (.loop [1,4,5] [] (.seq .d (.cut [1,4,5] [] (.blk (.cut [1,4,5,6] [] (.keep [1,4,5,6,16,17] true) .d)) .d)))) .d))))),⟨[(91,F91.c)],gl,false⟩,[(90, .d)],f41⟩
def t8(a:Int)(b:LB):S:=⟨[(1, .ptr 0 []),(4, .fn 90 [.ptr 0 []]),(5,vi a)],[.box 22 (vb b)],[]⟩
def z8:Nat→S→Option R_:=H.i P_ [r,r,r,r,l,d]
def x14(a:Int):Option R_:=H.e P_ [r,r,r,r,r] ⟨[(5,vi a)],[],[]⟩
def x12(kn8:K_)(a:Int)(g:LB):Option R_:=H.e P_ [r,r,r,r,l,d,(lp kn8),r,r] ⟨[(1, .ptr 0 []),(4, .fn 90 [.ptr 0 []]),(5,vi a)],[.box 22 (vb g)],[]⟩
def x11(kn8:K_)(a f:Int)(b:LB):Option R_:=H.e P_ [r,r,r,r,l,d,(lp kn8),r,l,d,r] ⟨[(1, .ptr 0 []),(4, .fn 90 [.ptr 0 []]),(5,vi a),(6,vi f)],[.box 22 (vb b)],[]⟩
def x8(a:Int)(b:LB):Option R_:=H.e P_ [r,r,r,r,l,d] (t8 a b)
theorem e14:x14=Aou:=by kernel_rfl
theorem e12(kn8:K_):x12 kn8=Aev (fun a b=>kn8 (t8 a b)):=by kernel_rfl
theorem e11(kn8:K_):x11 kn8=Aem (fun a b=>kn8 (t8 a b)):=Eq.trans (b:=Ae1 (x12 kn8)) (by kernel_rfl) (by simp only[e12]<;>rfl)
theorem i8:∀(q:Nat) (a:Int) (b:LB),z8 q (t8 a b)=Rn q a b:=
 ind (fun _ _=>by kernel_rfl) fun q ih a b=>Eq.trans (b:=Aht (x11 (z8 q)) x14 a b) (by kernel_rfl) (by simp only[e11,e14,ih]<;>rfl)
theorem e8:x8=Ar1:=by funext a b;exact Eq.trans (by kernel_rfl) ((i8 Dh a b).trans (by rw[Ax];rfl))
noncomputable def F:=Ab7
theorem rn x:H.u P_ x=F x:=Eq.trans (b:=Ahu x8 x) (by kernel_rfl) (by simp only[e8]<;>rfl)
noncomputable def c:Con:=⟨H.p,H.r,F⟩
theorem ok:ConOk P_ gl 41 c:=cr H func41 (.cons F91.ok .nil) (AnsOk.cons ent90 AnsOk.nil) rn
end F41
namespace F111
noncomputable def H:Hd:=⟨[.agg [Ss,Sb, .agg [Si,Si,Si,Si,Si],Sl,Si,Sb,Sz,Si]],[Si], .d,⟨[(35,Ru),(36,F36.c),(41,F41.c)],gl,false⟩,[],f111⟩
noncomputable def F:=u12 Aa4
theorem rn x:H.u P_ x=F x:=by kernel_rfl
noncomputable def c:Con:=⟨H.p,H.r,F⟩
theorem ok:ConOk P_ gl 111 c:=co H func111 (.cons Abo (.cons F36.ok (.cons F41.ok .nil))) rn
end F111
namespace F72
noncomputable def H:Hd:=⟨[.agg [Ss,Sb, .agg [Si,Si,Si,Si,Si],Sl,Si,Sb,Sz,Si]],[.agg [Ss,Ob 5, .agg [Si,Si,Si,Si,Si],Ol 3,Si,Sb,Sz,Si],Si], .d,⟨[(108,F108.c),(110,F110.c),(111,F111.c)],gl,false⟩,[],f72⟩
noncomputable def F:=u12 Vn
theorem rn x:H.u P_ x=F x:=by kernel_rfl
noncomputable def c:Con:=⟨H.p,H.r,F⟩
theorem ok:ConOk P_ gl 72 c:=co H func72 (.cons F108.ok (.cons F110.ok (.cons F111.ok .nil))) rn
end F72
namespace F32
noncomputable def H:Hd:=⟨[Sb,Ss],[.agg [Ss,Ob 5, .agg [Si,Si,Si,Si,Si],Ol 3,Si,Sb,Sz,Si],Si], .d,⟨[(70,F70.c),(71,F71.c),(72,F72.c)],gl,false⟩,[],f32⟩
noncomputable def F:=u2 Eu
theorem rn x:H.u P_ x=F x:=by kernel_rfl
noncomputable def c:Con:=⟨H.p,H.r,F⟩
theorem ok:ConOk P_ gl 32 c:=co H func32 (.cons F70.ok (.cons F71.ok (.cons F72.ok .nil))) rn
end F32
namespace F31
noncomputable def H:Hd:=⟨[],[Sz], .d,⟨[(32,F32.c),(68,F68.c),(69,F69.c)],gl,false⟩,[],f31⟩
noncomputable def F(x:Unit):=Qq
theorem rn x:H.u P_ x=F x:=by kernel_rfl
noncomputable def c:Con:=⟨H.p,H.r,F⟩
theorem ok:ConOk P_ gl 31 c:=co H func31 (.cons F32.ok (.cons F68.ok (.cons F69.ok .nil))) rn
end F31
namespace F9
noncomputable def H:Hd:=⟨[Sb],[Sz], .d,⟨[],gl,false⟩,[],f9⟩
noncomputable def F:=Abj
theorem rn x:H.u P_ x=F x:=by kernel_rfl
noncomputable def c:Con:=⟨H.p,H.r,F⟩
theorem ok:ConOk P_ gl 9 c:=co H func9 .nil rn
end F9
namespace F42
noncomputable def H:Hd:=⟨[Sb],[.agg [.agg [Si,Si,Si,Si,Si], .agg [Si,Si,Si,Si,Si],Ol 3],Si], .d,⟨[(35,Ru),(36,F36.c),(38,F38.c)],gl,false⟩,[],f42⟩
noncomputable def F:=Auh
theorem rn x:H.u P_ x=F x:=by kernel_rfl
noncomputable def c:Con:=⟨H.p,H.r,F⟩
theorem ok:ConOk P_ gl 42 c:=co H func42 (.cons Abo (.cons F36.ok (.cons F38.ok .nil))) rn
end F42
namespace F13
abbrev R_:=(Int×Int×Int×LX×Int)
abbrev K_:=S→Option R_
noncomputable def H:Hd:=⟨[Sb,Ss],[.agg [Si,Si,Si,Ow 21],Si],(.seq .d (.seq .d (.seq .d (.seq .d (.cut [0,1,4,6] [] (.cut [0,1,4,6,8] [] (.keep [0,1,4,6,8,34,35,36] true) .d) (.cut [0,1,4,6,7,9] [⟨9,[], .own 3 (.int .i64)⟩] (.keep [0,1,4,6,7,9,41,42,43,44,45] true) (.seq .d (.seq .d (.seq .d (.seq .d (.seq .d (.cut [0,4,10,14] [] (.seq .d (.blk (.loop [0,4,6,10,11,12,14,75,76,77] [⟨10,[3], .own 21 (.int .i32)⟩] (.seq .d (.seq .d (.seq (.blk (.seq .d (.seq .d (.cut [0,4,6,10,11,12,14,16,17,18,75,76,77] [] .d .d)))) .d)))))) .d)))))))))))),⟨[(37,F37.c),(39,F39.c),(41,F41.c),(42,F42.c),(45,F45.c),(46,F46.c)],gl,false⟩,[(43, .d),(44,(.seq .d (.seq .d (.cut [0,6,7] [] .d (.seq .d (.seq .d (.seq .d (.cut [6] [] (.seq .d (.blk (.loop [0,6,60,61,62] [] .d))) .d))))))))],f13⟩
def t21(a:LB)(w:LI)(m b f h o p n g y ab:Int)(ac:LX)(k:LI)(aa ae:Int)(ad:LX):S:=⟨[(0,vb a),(4, .ptr 0 []),(6, .ptr 1 []),(10, .ptr 2 []),(11, .ptr 3 []),(12, .ptr 4 []),(14,vi aa),(75, .own 5),(76,vi (Ac w)),(77,vi ae)],[.box 38 (.agg [vi 0,vi 0,vi 0, .nils]), .box 88 (.agg [.agg [vi m,vi b,vi f,vi h,vi o], .agg [vi p,vi n,vi g,vi y,vi ab], .own 6]), .box 38 (.agg [vi b,vi f,vi h, .own 7]), .box 44 (.agg [vi b,vi f]), .box 92 (.val (.vec 16 (.int .i32)) ac),Ai 3 w,Ai 3 k,Aw 21 ad],[]⟩
def z21:Nat→S→Option R_:=H.i P_ [r,r,r,r,r,r,r,r,r,r,r,l,r,d]
def t17(v:LI)(a u:LB)(m b f h o p n g:Int)(k:LI)(ag af:Int):S:=⟨[(0, .ptr 0 []),(6, .own 1),(60, .own 1),(61,vi (Ac v)),(62,vi ag)],[.box 88 (.agg [.agg [vi m,vi b,vi f,vi h,vi o], .agg [vi p,vi n,vi g,vi (Ad (Ad g (Bd (4:Int) (Ac v))) (4:Int)),vi af], .own 3]),Ai 3 v, .box 38 (.agg [vi 0,vi 0,vi 0, .nils]),Ai 3 k],[[(0,vb a),(1,vs u),(4, .ptr 2 []),(6, .ptr 0 []),(42,vb a)]]⟩
def z17:Nat→S→Option R_:=H.i P_ [r,r,r,r,r,l,(call 1 44),r,r,r,r,r,r,l,r,d]
def x26(a:LB)(aa b f h:Int)(ad:LX):Option R_:=H.e P_ [r,r,r,r,r,r,r,r,r,r,r,r] ⟨[(0,vb a),(4, .ptr 0 []),(10, .ptr 1 []),(14,vi aa)],[.box 38 (.agg [vi 0,vi 0,vi 0, .nils]), .box 38 (.agg [vi b,vi f,vi h, .own 2]),Aw 21 ad],[]⟩
def x24(kn21:K_)(a:LB)(w:LI)(m b f h o p n g y ab:Int)(ac:LX)(k:LI)(aa aj ak ae:Int)(am ad:LX):Option R_:=H.e P_ [r,r,r,r,r,r,r,r,r,r,r,l,r,d,(lp kn21),r,r,l,d,r,r,r] ⟨[(0,vb a),(4, .ptr 0 []),(6, .ptr 1 []),(10, .ptr 2 []),(11, .ptr 3 []),(12, .ptr 4 []),(14,vi aa),(16,vi aj),(17, .own 5),(18,vi ak),(75, .own 6),(76,vi (Ac w)),(77,vi ae)],[.box 38 (.agg [vi 0,vi 0,vi 0, .nils]), .box 88 (.agg [.agg [vi m,vi b,vi f,vi h,vi o], .agg [vi p,vi n,vi g,vi y,vi ab], .own 7]), .box 38 (.agg [vi b,vi f,vi h, .own 8]), .box 44 (.agg [vi b,vi f]), .box 92 (.val (.vec 16 (.int .i32)) ac),Aw 21 am,Ai 3 w,Ai 3 k,Aw 21 ad],[]⟩
def x21(a:LB)(w:LI)(m b f h o p n g y ab:Int)(ac:LX)(k:LI)(aa ae:Int)(ad:LX):Option R_:=H.e P_ [r,r,r,r,r,r,r,r,r,r,r,l,r,d] (t21 a w m b f h o p n g y ab ac k aa ae ad)
def x20(a u:LB)(m b f h o p n g:Int)(k:LI)(an y ab:Int)(w:LI):Option R_:=H.e P_ [r,r,r,r,r,r] ⟨[(0,vb a),(1,vs u),(4, .ptr 0 []),(6, .ptr 1 []),(7,vi an),(9, .own 2)],[.box 38 (.agg [vi 0,vi 0,vi 0, .nils]), .box 88 (.agg [.agg [vi m,vi b,vi f,vi h,vi o], .agg [vi p,vi n,vi g,vi y,vi ab], .own 3]),Ai 3 w,Ai 3 k],[]⟩
def x19(a u:LB)(v:LI)(m b f h o p n g af:Int)(k:LI):Option R_:=H.e P_ [r,r,r,r,r,l,(call 1 44),r,r,r,r,r,r,r] ⟨[(6, .own 0)],[Ai 3 v, .box 38 (.agg [vi 0,vi 0,vi 0, .nils]), .box 88 (.agg [.agg [vi m,vi b,vi f,vi h,vi o], .agg [vi p,vi n,vi g,vi (Ad (Ad g (Bd (4:Int) (Ac v))) (4:Int)),vi af], .own 3]),Ai 3 k],[[(0,vb a),(1,vs u),(4, .ptr 1 []),(6, .ptr 2 []),(42,vb a)]]⟩
def x17(v:LI)(a u:LB)(m b f h o p n g:Int)(k:LI)(ag af:Int):Option R_:=H.e P_ [r,r,r,r,r,l,(call 1 44),r,r,r,r,r,r,l,r,d] (t17 v a u m b f h o p n g k ag af)
def x16(al:Int)(a u:LB)(m b f h o p n g ah ai:Int)(v k:LI):Option R_:=H.e P_ [r,r,r,r,r,l,(call 1 44),r,r,r] ⟨[(0, .ptr 0 []),(6, .own 1),(7,vi al)],[.box 88 (.agg [.agg [vi m,vi b,vi f,vi h,vi o], .agg [vi p,vi n,vi g,vi ah,vi ai], .own 3]),Ai 3 v, .box 38 (.agg [vi 0,vi 0,vi 0, .nils]),Ai 3 k],[[(0,vb a),(1,vs u),(4, .ptr 2 []),(6, .ptr 0 []),(42,vb a)]]⟩
def x15(a u:LB)(m b f h o p n g ah ai:Int)(k:LI):Option R_:=H.e P_ [r,r,r,r,r] ⟨[(0,vb a),(1,vs u),(4, .ptr 0 []),(6, .ptr 1 [])],[.box 38 (.agg [vi 0,vi 0,vi 0, .nils]), .box 88 (.agg [.agg [vi m,vi b,vi f,vi h,vi o], .agg [vi p,vi n,vi g,vi ah,vi ai], .own 2]),Ai 3 k],[]⟩
def x14(a u:LB)(m b f h o p n g ah ai:Int)(k:LI)(ao:Int):Option R_:=H.e P_ [r,r,r,r,l,r] ⟨[(0,vb a),(1,vs u),(4, .ptr 0 []),(6, .ptr 1 []),(8,vi ao)],[.box 38 (.agg [vi 0,vi 0,vi 0, .nils]), .box 88 (.agg [.agg [vi m,vi b,vi f,vi h,vi o], .agg [vi p,vi n,vi g,vi ah,vi ai], .own 2]),Ai 3 k],[]⟩
theorem e26:x26=Alj:=by kernel_rfl
theorem e24(kn21:K_)(a:LB)(w:LI)(m b f h o p n g y ab:Int)(ac:LX)(k:LI):x24 kn21 a w m b f h o p n g y ab ac k=Alw (fun aa ae ad=>kn21 (t21 a w m b f h o p n g y ab ac k aa ae ad)) a w m b f h o p n g y ab ac k:=by kernel_rfl
theorem i21(a:LB)(w:LI)(m b f h o p n g y ab:Int)(ac:LX)(k:LI):∀(q:Nat) (aa ae:Int) (ad:LX),z21 q (t21 a w m b f h o p n g y ab ac k aa ae ad)=Pc a w m b f h o p n g y ab ac k q aa ae ad:=
 ind (fun _ _ _=>by kernel_rfl) fun q ih aa ae ad=>Eq.trans (b:=Ac5 (x24 (z21 q) a w m b f h o p n g y ab ac k) x26 a w m b f h o p n g y ab ac k aa ae ad) (by kernel_rfl) (by simp only[e24,e26,ih]<;>rfl)
theorem e21:x21=Avq:=by funext a w m b f h o p n g y ab ac k aa ae ad;exact Eq.trans (by kernel_rfl) ((i21 a w m b f h o p n g y ab ac k Dh aa ae ad).trans (by rw[Ax];rfl))
theorem e20:x20=Md:=Eq.trans (b:=Aa6 x21) (by kernel_rfl) (by simp only[e21]<;>rfl)
theorem e19:x19=Acs:=Eq.trans (b:=Ak0 x20) (by kernel_rfl) (by simp only[e20]<;>rfl)
theorem i17(v:LI)(a u:LB)(m b f h o p n g:Int)(k:LI):∀(q:Nat) (ag af:Int),z17 q (t17 v a u m b f h o p n g k ag af)=Pm v a u m b f h o p n g k q ag af:=
 ind (fun _ _=>by kernel_rfl) fun q ih ag af=>Eq.trans (b:=Ab5 x19 (fun ag af=>(z17 q) (t17 v a u m b f h o p n g k ag af)) v a u m b f h o p n g k ag af) (by kernel_rfl) (by simp only[e19,ih]<;>rfl)
theorem e17:x17=Aki:=by funext v a u m b f h o p n g k ag af;exact Eq.trans (by kernel_rfl) ((i17 v a u m b f h o p n g k Dh ag af).trans (by rw[Ax];rfl))
theorem e16:x16=Abl:=Eq.trans (b:=Adg x20 x17) (by kernel_rfl) (by simp only[e20,e17]<;>rfl)
theorem e15:x15=Up:=Eq.trans (b:=Alf x20 x16) (by kernel_rfl) (by simp only[e20,e16]<;>rfl)
theorem e14:x14=Pq:=Eq.trans (b:=Ac3 x15) (by kernel_rfl) (by simp only[e15]<;>rfl)
noncomputable def F:=u2 Mk
theorem rn x:H.u P_ x=F x:=Eq.trans (b:=u2 (An2 x14) x) (by kernel_rfl) (by simp only[e14]<;>rfl)
noncomputable def c:Con:=⟨H.p,H.r,F⟩
theorem ok:ConOk P_ gl 13 c:=cr H func13 (.cons F37.ok (.cons F39.ok (.cons F41.ok (.cons F42.ok (.cons F45.ok (.cons F46.ok .nil)))))) (AnsOk.cons ent43 (AnsOk.cons ent44 AnsOk.nil)) rn
end F13
namespace F29
noncomputable def H:Hd:=⟨[Sb,Ss],[Si], .d,⟨[(13,F13.c)],gl,false⟩,[],f29⟩
noncomputable def F:=u2 Amv
theorem rn x:H.u P_ x=F x:=by kernel_rfl
noncomputable def c:Con:=⟨H.p,H.r,F⟩
theorem ok:ConOk P_ gl 29 c:=co H func29 (.cons F13.ok .nil) rn
end F29
namespace F33
noncomputable def H:Hd:=⟨[.agg [Ss,Sb, .agg [Si,Si,Si,Si,Si],Sl,Si,Sb,Sz,Si],Si],[.agg [Ss,Ob 5, .agg [Si,Si,Si,Si,Si],Ol 3,Si,Sb,Sz,Si],Ob 5,Si], .d,⟨[(73,F73.c),(74,F74.c),(75,F75.c)],gl,false⟩,[],f33⟩
noncomputable def F:=u13 Afn
theorem rn x:H.u P_ x=F x:=by kernel_rfl
noncomputable def c:Con:=⟨H.p,H.r,F⟩
theorem ok:ConOk P_ gl 33 c:=co H func33 (.cons F73.ok (.cons F74.ok (.cons F75.ok .nil))) rn
end F33
namespace F7
abbrev R_:=Bool
noncomputable def H:Hd:=⟨[Ss,Sb],[Sz],(.seq .d (.seq .d (.cut [0,1,5] [] .d (.seq .d (.seq .d (.cut [5,6,7,8] [] .d .d)))))),⟨[(9,F9.c),(13,F13.c),(14,F14.c),(29,F29.c),(31,F31.c),(32,F32.c),(33,F33.c)],gl,false⟩,[],f7⟩
def x4(a:Bool)(b:Int)(m:LB)(n o p u v w:Int)(y:LB)(h:Bool)(k ae aa af:Int)(ab:LB)(ac:LI)(ad:LX):Option R_:=H.e P_ [r,r,r,r,r,r] ⟨[(5,vt a),(6, .ptr 0 []),(7,vi b),(8, .ptr 1 [])],[.box 66 (.agg [vs m, .own 2, .agg [vi n,vi o,vi p,vi u,vi v], .own 3,vi w,vb y,vt h,vi k]), .box 38 (.agg [vi ae,vi aa,vi af, .own 4]),Ab 5 ab,Ai 3 ac,Aw 21 ad],[]⟩
def x3(f g:LB)(a:Bool):Option R_:=H.e P_ [r,r,r] ⟨[(0,vs f),(1,vb g),(5,vt a)],[],[]⟩
theorem e4:x4=He:=by kernel_rfl
theorem e3:x3=Hf:=Eq.trans (b:=Lg x4) (by kernel_rfl) (by simp only[e4]<;>rfl)
noncomputable def F:=u2 Jo
theorem rn x:H.u P_ x=F x:=Eq.trans (b:=u2 (Lh x3) x) (by kernel_rfl) (by simp only[e3]<;>rfl)
noncomputable def c:Con:=⟨H.p,H.r,F⟩
theorem ok:ConOk P_ gl 7 c:=co H func7 (.cons F9.ok (.cons F13.ok (.cons F14.ok (.cons F29.ok (.cons F31.ok (.cons F32.ok (.cons F33.ok .nil))))))) rn
end F7
end
end Go.Proofs.YtkkcakakemjdeaaGreatDoor
