/- A part of the proof of a statement of this seat (see the text that ends in Proof): PtOk. No conditions of its own. -/
import Derived.Test.YtfcmocdmhnafcaaGreatDoorPtBB
import Derived.Test.YtfcmocdmhnafcaaGreatDoorPtPA
import Derived.Test.YtfcmocdmhnafcaaGreatDoorPtHA
import Derived.Test.YtfcmocdmhnafcaaGreatDoorProg
import Derived.KernelRfl
set_option linter.unusedVariables false
set_option linter.unusedSimpArgs false
set_option maxRecDepth 10000
namespace Go.Proofs.YtfcmocdmhnafcaaGreatDoor
open Go Go.Lv Go.Pl Go.Rx Go.Rx.PS
noncomputable section
def g0:List Value:=[.bool true, .int .i64 0]
def g1:List Value:=[.int .i64 2, .int .i64 2, .int .i64 2, .int .i64 4, .int .i64 4]
def g2:List Value:=[.bool false, .int .i64 0]
def g3:List Value:=[.int .u8 0, .int .u8 1, .int .u8 56, .int .u8 2, .int .u8 57, .int .u8 49, .int .u8 28, .int .u8 3, .int .u8 61, .int .u8 58, .int .u8 42, .int .u8 50, .int .u8 38, .int .u8 29, .int .u8 17, .int .u8 4, .int .u8 62, .int .u8 47, .int .u8 59, .int .u8 36, .int .u8 45, .int .u8 43, .int .u8 51, .int .u8 22, .int .u8 53, .int .u8 39, .int .u8 33, .int .u8 30, .int .u8 24, .int .u8 18, .int .u8 12, .int .u8 5, .int .u8 63, .int .u8 55, .int .u8 48, .int .u8 27, .int .u8 60, .int .u8 41, .int .u8 37, .int .u8 16, .int .u8 46, .int .u8 35, .int .u8 44, .int .u8 21, .int .u8 52, .int .u8 32, .int .u8 23, .int .u8 11, .int .u8 54, .int .u8 26, .int .u8 40, .int .u8 15, .int .u8 34, .int .u8 20, .int .u8 31, .int .u8 10, .int .u8 25, .int .u8 14, .int .u8 19, .int .u8 9, .int .u8 13, .int .u8 8, .int .u8 7, .int .u8 6]
def gl:List (Nat×List Value):=[(0,g0),(1,g1),(2,g2),(3,g3)]
theorem mixed:Tryz.prog.follows .mixedOrders=true:=by kernel_rfl
noncomputable abbrev P_:=Tryz.prog
theorem cr(H:Hd){f:Nat}{F:LTy (shL H.p)→Option (LTy (shL H.r))}(hf:P_.funcs[f]? =some H.f)(hT:Afi P_ H.T)(hA:∀p∈H.s,Ent P_ p.1)(h:∀x,H.u P_ x=F x)(hb:okH H=true:=by kernel_rfl):ConOk P_ H.T.gl f ⟨H.p,H.r,F⟩:=Hd.con mixed H hf hT hA hb h
theorem co(H:Hd){f:Nat}{F:LTy (shL H.p)→Option (LTy (shL H.r))}(hf:P_.funcs[f]? =some H.f)(hT:Afi P_ H.T)(h:∀x,H.u P_ x=F x)(hb:(H.s.isEmpty&&okH H)=true:=by kernel_rfl):ConOk P_ H.T.gl f ⟨H.p,H.r,F⟩:=Hd.Cie mixed H hf hT hb h
theorem ent38:Ent Tryz.prog 38:=Ent.mk Tryz.func38 (by kernel_rfl) rfl
theorem ent55:Ent Tryz.prog 55:=Ent.mk Tryz.func55 (by kernel_rfl) rfl
theorem ent79:Ent Tryz.prog 79:=Ent.mk Tryz.func79 (by kernel_rfl) rfl
theorem ent80:Ent Tryz.prog 80:=Ent.mk Tryz.func80 (by kernel_rfl) rfl
theorem ent81:Ent Tryz.prog 81:=Ent.mk Tryz.func81 (by kernel_rfl) rfl
theorem ent110:Ent Tryz.prog 110:=Ent.mk Tryz.func110 (by kernel_rfl) rfl
theorem ent127:Ent Tryz.prog 127:=Ent.mk Tryz.func127 (by kernel_rfl) rfl
theorem ent178:Ent Tryz.prog 178:=Ent.mk Tryz.func178 (by kernel_rfl) rfl
theorem ent193:Ent Tryz.prog 193:=Ent.mk Tryz.func193 (by kernel_rfl) rfl
theorem ent197:Ent Tryz.prog 197:=Ent.mk Tryz.func197 (by kernel_rfl) rfl
theorem ent198:Ent Tryz.prog 198:=Ent.mk Tryz.func198 (by kernel_rfl) rfl
theorem ent199:Ent Tryz.prog 199:=Ent.mk Tryz.func199 (by kernel_rfl) rfl
theorem ent202:Ent Tryz.prog 202:=Ent.mk Tryz.func202 (by kernel_rfl) rfl
theorem ent208:Ent Tryz.prog 208:=Ent.mk Tryz.func208 (by kernel_rfl) rfl
theorem ent214:Ent Tryz.prog 214:=Ent.mk Tryz.func214 (by kernel_rfl) rfl
theorem ent229:Ent Tryz.prog 229:=Ent.mk Tryz.func229 (by kernel_rfl) rfl
theorem ent233:Ent Tryz.prog 233:=Ent.mk Tryz.func233 (by kernel_rfl) rfl
theorem ent236:Ent Tryz.prog 236:=Ent.mk Tryz.func236 (by kernel_rfl) rfl
theorem ent239:Ent Tryz.prog 239:=Ent.mk Tryz.func239 (by kernel_rfl) rfl
theorem ent269:Ent Tryz.prog 269:=Ent.mk Tryz.func269 (by kernel_rfl) rfl
theorem ent274:Ent Tryz.prog 274:=Ent.mk Tryz.func274 (by kernel_rfl) rfl
abbrev u2{A B R:Type}(f:A→B→R)(x:A×B):=f x.1 x.2
abbrev u3{A B C R:Type}(f:A→B→C→R):=u2 fun a=>u2 (f a)
abbrev u4{A B C D R:Type}(f:A→B→C→D→R):=u2 fun a=>u3 (f a)
abbrev u5{A B C D E R:Type}(f:A→B→C→D→E→R):=u2 fun a=>u4 (f a)
abbrev u6{A B C D E F R:Type}(f:A→B→C→D→E→F→R):=u2 fun a=>u5 (f a)
abbrev u7{A B C D E F G R:Type}(f:A→B→C→D→E→F→G→R):=u2 fun a=>u6 (f a)
abbrev u8{A B C D E F G H R:Type}(f:A→B→C→D→E→F→G→H→R):=u2 fun a=>u7 (f a)
abbrev u9{A B C D E F G H I R:Type}(f:A→B→C→D→E→F→G→H→I→R):=u2 fun a=>u8 (f a)
abbrev u10{A B C D E F G H I J R:Type}(f:A→B→C→D→E→F→G→H→I→J→R):=u2 fun a=>u9 (f a)
abbrev u11{A B C D E F G H I J K R:Type}(f:A→B→C→D→E→F→G→H→I→J→K→R):=u2 fun a=>u10 (f a)
abbrev u12{A B C D E F G H I J K L R:Type}(f:A→B→C→D→E→F→G→H→I→J→K→L→R):=u2 fun a=>u11 (f a)
abbrev u13{A B C D E F G H I J K L M R:Type}(f:A→B→C→D→E→F→G→H→I→J→K→L→M→R):=u2 fun a=>u12 (f a)
open Go.Proofs.Tryz
namespace F177
noncomputable def H:Hd:=⟨[.agg [Si,Si,Si,Sw]],[.agg [Si,Si]], .d,⟨[],gl,false⟩,[],f177⟩
noncomputable def F:=u4 Aw5
theorem rn x:H.u P_ x=F x:=by kernel_rfl
noncomputable def c:Con:=⟨H.p,H.r,F⟩
theorem ok:ConOk P_ gl 177 c:=co H func177 .nil rn
end F177
namespace F120
abbrev R_:=(Int32×Int32×Int)
noncomputable def H:Hd:=⟨[Si],[Sx,Sx,Si],(.seq .d (.seq (.seq .d (.blk (.cut [0,7] [] .d .d))) .d)),⟨[],gl,false⟩,[],f120⟩
def x2(a:Int)(b:Bool):Option R_:=H.e P_ [r,l,r,d,r] ⟨[(0,vi a),(7,vt b)],[],[]⟩
theorem e2:x2=Aud:=by kernel_rfl
noncomputable def F:=Ah3
theorem rn x:H.u P_ x=F x:=Eq.trans (b:=Atf x2 x) (by kernel_rfl) (by simp only[e2]<;>rfl)
noncomputable def c:Con:=⟨H.p,H.r,F⟩
theorem ok:ConOk P_ gl 120 c:=co H func120 .nil rn
end F120
namespace F114
noncomputable def H:Hd:=⟨[.agg [Si,Si]],[Si], .d,⟨[(120,F120.c)],gl,false⟩,[],f114⟩
noncomputable def F:=u2 Vk
theorem rn x:H.u P_ x=F x:=by kernel_rfl
noncomputable def c:Con:=⟨H.p,H.r,F⟩
theorem ok:ConOk P_ gl 114 c:=co H func114 (.cons F120.ok .nil) rn
end F114
namespace F70
noncomputable def H:Hd:=⟨[Si],[Si,Si], .d,⟨[],gl,false⟩,[],f70⟩
noncomputable def F:=Ae1
theorem rn x:H.u P_ x=F x:=by kernel_rfl
noncomputable def c:Con:=⟨H.p,H.r,F⟩
theorem ok:ConOk P_ gl 70 c:=co H func70 .nil rn
end F70
namespace F69
noncomputable def H:Hd:=⟨[Si,Si],[Si,Si], .d,⟨[(70,F70.c)],gl,false⟩,[],f69⟩
noncomputable def F:=u2 Vl
theorem rn x:H.u P_ x=F x:=by kernel_rfl
noncomputable def c:Con:=⟨H.p,H.r,F⟩
theorem ok:ConOk P_ gl 69 c:=co H func69 (.cons F70.ok .nil) rn
end F69
namespace F209
noncomputable def H:Hd:=⟨[.agg [Si,Si,Si,Sw],Si],[Si], .d,⟨[(69,F69.c),(114,F114.c),(177,F177.c)],gl,false⟩,[],f209⟩
noncomputable def F:=u5 Bka
theorem rn x:H.u P_ x=F x:=by kernel_rfl
noncomputable def c:Con:=⟨H.p,H.r,F⟩
theorem ok:ConOk P_ gl 209 c:=co H func209 (.cons F69.ok (.cons F114.ok (.cons F177.ok .nil))) rn
end F209
namespace F67
abbrev R_:=Int
noncomputable def H:Hd:=⟨[Si,Sw],[Si],(.seq .d (.seq .d (.seq .d (.seq .d (.cut [] [] (.seq .d (.blk (.loop [5,6,22,23,24] [] .d))) .d))))),⟨[(120,F120.c)],gl,false⟩,[],f67⟩
def t4(b f:Int32)(a:LX)(g:Int):S:=⟨[(5,vx b),(6,vx f),(22,vw a),(23,vi (Ac a)),(24,vi g)],[],[]⟩
def z4:Nat→S→Option R_:=H.i P_ [r,r,r,r,l,r,d]
def x6:Option R_:=H.e P_ [r,r,r,r,r] ⟨[],[],[]⟩
def x4(b f:Int32)(a:LX)(g:Int):Option R_:=H.e P_ [r,r,r,r,l,r,d] (t4 b f a g)
theorem e6:x6=Auw:=by kernel_rfl
theorem i4(b f:Int32)(a:LX):∀(q:Nat) (g:Int),z4 q (t4 b f a g)=Sk b f a q g:=
 ind (fun _=>by kernel_rfl) fun q ih g=>Eq.trans (b:=Aen x6 (fun g=>(z4 q) (t4 b f a g)) b f a g) (by kernel_rfl) (by simp only[e6,ih]<;>rfl)
theorem e4:x4=As6:=by funext b f a g;exact Eq.trans (by kernel_rfl) ((i4 b f a Bi g).trans (by rw[Al];rfl))
noncomputable def F:=u2 Yj
theorem rn x:H.u P_ x=F x:=Eq.trans (b:=u2 (Amj x4) x) (by kernel_rfl) (by simp only[e4]<;>rfl)
noncomputable def c:Con:=⟨H.p,H.r,F⟩
theorem ok:ConOk P_ gl 67 c:=co H func67 (.cons F120.ok .nil) rn
end F67
namespace F174
noncomputable def H:Hd:=⟨[.agg [Si,Si,Si,Sw]],[Si], .d,⟨[(67,F67.c),(209,F209.c)],gl,false⟩,[],f174⟩
noncomputable def F:=u4 Af4
theorem rn x:H.u P_ x=F x:=by kernel_rfl
noncomputable def c:Con:=⟨H.p,H.r,F⟩
theorem ok:ConOk P_ gl 174 c:=co H func174 (.cons F67.ok (.cons F209.ok .nil)) rn
end F174
namespace F123
def Aiz(j2:LB→Int→Int→Int→LX→Option (Int×Int×Int×Int×Int×Int))(a b f:Int)(g:LX)(h:LB):Option (Int×Int×Int×Int×Int×Int):=
(Af4 a b f g).bind fun k=>
if(Ay k 0)then
some (0,0,0,0,0,k)
else
if(Ee (Ac h) 64)then
some (0,0,0,0,0,2)
else
(Kj (Ay a 0)).bind fun _=>
bo (
j2 h a b f g)
theorem Axg: @Aiz= @Alb:=by
  unfold Aiz Alb
  simp only[Ah6,Xz,Xx]
abbrev R_:=(Int×Int×Int×Int×Int×Int)
noncomputable def H:Hd:=⟨[.agg [Si,Si,Si,Sw],Ss],[.agg [Si,Si,Si,Si,Si],Si],(.seq .d (.seq .d (.seq .d (.cut [1,4,7] [] .d .d)))),⟨[(174,F174.c)],gl,false⟩,[],f123⟩
def x2(h:LB)(a b f:Int)(g:LX):Option R_:=H.e P_ [r,r,r,r] ⟨[(1,vs h),(4, .ptr 0 []),(7, .ptr 1 [])],[.box 27 (.agg [vi 0,vi 0,vi 0,vi 0,vi 0]), .box 27 (.agg [vi 1,vi a,vi b,vi f,vi (Cp (Ac g) a)])],[]⟩
theorem e2:x2=As0:=by kernel_rfl
noncomputable def F:=u5 Bci
theorem rn x:H.u P_ x=F x:=Eq.trans (b:=u5 (Aiz x2) x) (by kernel_rfl) (by unfold F;rw[Axg];simp only[e2]<;>rfl)
noncomputable def c:Con:=⟨H.p,H.r,F⟩
theorem ok:ConOk P_ gl 123 c:=co H func123 (.cons F174.ok .nil) rn
end F123
namespace F164
abbrev R_:=(UInt64×Int)
abbrev K_:=S→Option R_
noncomputable def H:Hd:=⟨[Sq,Sb],[Sq,Si],(.seq .d (.seq .d (.cut [4,5] [] (.keep [0,1,4,5,9,10,11,12] true) .d))),⟨[],gl,false⟩,[(197,(.seq .d (.cut [1] [] (.seq .d (.blk (.loop [0,1,9,10,11] [] .d))) .d))),(198,(.seq .d (.seq .d (.cut [1] [] (.seq .d (.blk (.loop [1,5] [] (.seq .d (.seq .d (.cut [1,5] [] (.blk (.seq .d (.seq .d (.cut [1,2,3,5] [] (.seq .d (.blk (.loop [1,2,3,5,11] [] .d))) .d)))) .d)))))) .d))))],f164⟩
def t27(a:LB)(b:UInt64)(f:LQ)(h:UInt64)(m:Int):S:=⟨[(0, .ptr 0 []),(1,vq h),(9,vb a),(10,vi (Ac a)),(11,vi m)],[.box 324 (.val (.vec 256 (.int .u64)) f)],[[(0,vq b),(1,vb a),(4,vq 0),(5,vi 0),(9, .ptr 0 []),(10,vq b),(11,vb a)]]⟩
def z27:Nat→S→Option R_:=H.i P_ [r,r,l,(call 3 197),r,l,r,d]
def t21(b:UInt64)(a:LB)(g:Int)(f:LQ)(k:UInt64)(n:Int):S:=⟨[(1, .ptr 0 []),(2,vi g),(3,vq k),(5,vi g),(11,vi n)],[.box 324 (.val (.vec 256 (.int .u64)) f)],[[(0,vq b),(1,vb a),(4,vq 0),(5,vi 0)]]⟩
def z21(kn16:K_):Nat→S→Option R_:=H.i P_ [r,r,l,(call 0 198),r,r,l,r,d,(lp kn16),r,r,l,d,r,r,l,r,d]
def t16(b:UInt64)(a:LB)(g:Int)(f:LQ):S:=⟨[(1, .ptr 0 []),(5,vi g)],[.box 324 (.val (.vec 256 (.int .u64)) f)],[[(0,vq b),(1,vb a),(4,vq 0),(5,vi 0)]]⟩
def z16:Nat→S→Option R_:=H.i P_ [r,r,l,(call 0 198),r,r,l,r,d]
def x30(h:UInt64):Option R_:=H.e P_ [r,r,r] ⟨[(4,vq h),(5,vi 0)],[],[]⟩
def x29(h b:UInt64)(a:LB)(f:LQ):Option R_:=H.e P_ [r,r,l,(call 3 197),r,r] ⟨[(1,vq h)],[.box 324 (.val (.vec 256 (.int .u64)) f)],[[(0,vq b),(1,vb a),(4,vq 0),(5,vi 0),(9, .ptr 0 []),(10,vq b),(11,vb a)]]⟩
def x27(a:LB)(b:UInt64)(f:LQ)(h:UInt64)(m:Int):Option R_:=H.e P_ [r,r,l,(call 3 197),r,l,r,d] (t27 a b f h m)
def x26(b:UInt64)(a:LB)(f:LQ):Option R_:=H.e P_ [r,r,l,(call 0 198),r,r,r] ⟨[(1, .ptr 0 [])],[.box 324 (.val (.vec 256 (.int .u64)) f)],[[(0,vq b),(1,vb a),(4,vq 0),(5,vi 0)]]⟩
def x24(kn16:K_)(b:UInt64)(a:LB)(g:Int)(o:LQ):Option R_:=H.e P_ [r,r,l,(call 0 198),r,r,l,r,d,(lp kn16),r,r,r] ⟨[(1, .ptr 0 []),(5,vi g)],[.box 324 (.val (.vec 256 (.int .u64)) o)],[[(0,vq b),(1,vb a),(4,vq 0),(5,vi 0)]]⟩
def x23(kn16:K_)(b:UInt64)(a:LB)(g:Int)(k:UInt64)(f:LQ):Option R_:=H.e P_ [r,r,l,(call 0 198),r,r,l,r,d,(lp kn16),r,r,l,d,r,r,r] ⟨[(1, .ptr 0 []),(2,vi g),(3,vq k),(5,vi g)],[.box 324 (.val (.vec 256 (.int .u64)) f)],[[(0,vq b),(1,vb a),(4,vq 0),(5,vi 0)]]⟩
def x21(kn16:K_)(b:UInt64)(a:LB)(g:Int)(f:LQ)(k:UInt64)(n:Int):Option R_:=H.e P_ [r,r,l,(call 0 198),r,r,l,r,d,(lp kn16),r,r,l,d,r,r,l,r,d] (t21 b a g f k n)
def x16(b:UInt64)(a:LB)(g:Int)(f:LQ):Option R_:=H.e P_ [r,r,l,(call 0 198),r,r,l,r,d] (t16 b a g f)
theorem e30:x30=Al4:=by kernel_rfl
theorem e29:x29=Akg:=Eq.trans (b:=All x30) (by kernel_rfl) (by simp only[e30]<;>rfl)
theorem i27(a:LB)(b:UInt64)(f:LQ):∀(q:Nat) (h:UInt64) (m:Int),z27 q (t27 a b f h m)=So a b f q h m:=
 ind (fun _ _=>by kernel_rfl) fun q ih h m=>Eq.trans (b:=Ady x29 (fun h m=>(z27 q) (t27 a b f h m)) a b f h m) (by kernel_rfl) (by simp only[e29,ih]<;>rfl)
theorem e27:x27=Akz:=by funext a b f h m;exact Eq.trans (by kernel_rfl) ((i27 a b f Bi h m).trans (by rw[Al];rfl))
theorem e26:x26=Ae4:=Eq.trans (b:=Al0 x27) (by kernel_rfl) (by simp only[e27]<;>rfl)
theorem e24(kn16:K_)(b:UInt64)(a:LB):x24 kn16 b a=Alx (fun g f=>kn16 (t16 b a g f)) b a:=by kernel_rfl
theorem e23(kn16:K_)(b:UInt64)(a:LB):x23 kn16 b a=Ael (fun g f=>kn16 (t16 b a g f)) b a:=Eq.trans (b:=Ali (x24 kn16 b a) b a) (by kernel_rfl) (by simp only[e24]<;>rfl)
theorem i21(kn16:K_)(b:UInt64)(a:LB)(g:Int)(f:LQ):∀(q:Nat) (k:UInt64) (n:Int),z21 kn16 q (t21 b a g f k n)=Sj (fun g f=>kn16 (t16 b a g f)) b a g f q k n:=
 ind (fun _ _=>by kernel_rfl) fun q ih k n=>Eq.trans (b:=Adv (x23 kn16 b a) (fun k n=>(z21 kn16 q) (t21 b a g f k n)) b a g f k n) (by kernel_rfl) (by simp only[e23,ih]<;>rfl)
theorem e21(kn16:K_)(b:UInt64)(a:LB):x21 kn16 b a=Ak3 (fun g f=>kn16 (t16 b a g f)) b a:=by funext g f k n;exact Eq.trans (by kernel_rfl) ((i21 kn16 b a g f Bi k n).trans (by rw[Al];rfl))
theorem i16(b:UInt64)(a:LB):∀(q:Nat) (g:Int) (f:LQ),z16 q (t16 b a g f)=Nr b a q g f:=
 ind (fun _ _=>by kernel_rfl) fun q ih g f=>Eq.trans (b:=Ae7 (x21 (z16 q) b a) x26 b a g f) (by kernel_rfl) (by simp only[e21,e26,ih]<;>rfl)
theorem e16:x16=Al9:=by funext b a g f;exact Eq.trans (by kernel_rfl) ((i16 b a Bi g f).trans (by rw[Al];rfl))
noncomputable def F:=u2 Aq7
theorem rn x:H.u P_ x=F x:=Eq.trans (b:=u2 (Aoc x16) x) (by kernel_rfl) (by simp only[e16]<;>rfl)
noncomputable def c:Con:=⟨H.p,H.r,F⟩
theorem ok:ConOk P_ gl 164 c:=cr H func164 .nil (AnsOk.cons ent197 (AnsOk.cons ent198 AnsOk.nil)) rn
end F164
namespace F112
noncomputable def H:Hd:=⟨[Sb],[Sq,Si], .d,⟨[(164,F164.c)],gl,false⟩,[],f112⟩
noncomputable def F:=Apj
theorem rn x:H.u P_ x=F x:=by kernel_rfl
noncomputable def c:Con:=⟨H.p,H.r,F⟩
theorem ok:ConOk P_ gl 112 c:=co H func112 (.cons F164.ok .nil) rn
end F112
namespace F113
abbrev R_:=LX
noncomputable def H:Hd:=⟨[Sq],[.lf (.vec 16 (.int .i32)) none],(.seq .d (.seq .d (.cut [2,3] [] (.seq .d (.blk (.loop [0,2,3,5] [] .d))) .d))),⟨[],gl,false⟩,[],f113⟩
def t4(f:UInt64)(b:Int)(a:LX):S:=⟨[(0,vq f),(2, .ptr 0 []),(3, .ptr 1 []),(5,vi b)],[.box 110 (.val (.vec 16 (.int .i32)) (List.replicate 16 (0:Int32))), .box 110 (.val (.vec 16 (.int .i32)) a)],[]⟩
def z4:Nat→S→Option R_:=H.i P_ [r,r,l,r,d]
def x6(a:LX):Option R_:=H.e P_ [r,r,r] ⟨[(2, .ptr 0 []),(3, .ptr 1 [])],[.box 110 (.val (.vec 16 (.int .i32)) (List.replicate 16 (0:Int32))), .box 110 (.val (.vec 16 (.int .i32)) a)],[]⟩
def x4(f:UInt64)(b:Int)(a:LX):Option R_:=H.e P_ [r,r,l,r,d] (t4 f b a)
theorem e6:x6=Bhz:=by kernel_rfl
theorem i4(f:UInt64):∀(q:Nat) (b:Int) (a:LX),z4 q (t4 f b a)=Af7 f q b a:=
 ind (fun _ _=>by kernel_rfl) fun q ih b a=>Eq.trans (b:=Arf x6 (fun b a=>(z4 q) (t4 f b a)) f b a) (by kernel_rfl) (by simp only[e6,ih]<;>rfl)
theorem e4:x4=Bfu:=by funext f b a;exact Eq.trans (by kernel_rfl) ((i4 f Bi b a).trans (by rw[Al];rfl))
noncomputable def F:=Bl5
theorem rn x:H.u P_ x=F x:=Eq.trans (b:=Bgp x4 x) (by kernel_rfl) (by simp only[e4]<;>rfl)
noncomputable def c:Con:=⟨H.p,H.r,F⟩
theorem ok:ConOk P_ gl 113 c:=co H func113 .nil rn
end F113
namespace F65
noncomputable def H:Hd:=⟨[Ss],[.lf (.vec 16 (.int .i32)) none,Si], .d,⟨[(112,F112.c),(113,F113.c)],gl,false⟩,[],f65⟩
noncomputable def F:=Tj
theorem rn x:H.u P_ x=F x:=by kernel_rfl
noncomputable def c:Con:=⟨H.p,H.r,F⟩
theorem ok:ConOk P_ gl 65 c:=co H func65 (.cons F112.ok (.cons F113.ok .nil)) rn
end F65
namespace F235
noncomputable def H:Hd:=⟨[Sq,Sq],[Sq,Sq], .d,⟨[],gl,false⟩,[],f235⟩
noncomputable def F:=u2 Ai1
theorem rn x:H.u P_ x=F x:=by kernel_rfl
noncomputable def c:Con:=⟨H.p,H.r,F⟩
theorem ok:ConOk P_ gl 235 c:=co H func235 .nil rn
end F235
namespace F195
noncomputable def H:Hd:=⟨[Sq,Sq],[Sq,Sq], .d,⟨[(235,F235.c)],gl,false⟩,[],f195⟩
noncomputable def F:=u2 Ag3
theorem rn x:H.u P_ x=F x:=by kernel_rfl
noncomputable def c:Con:=⟨H.p,H.r,F⟩
theorem ok:ConOk P_ gl 195 c:=co H func195 (.cons F235.ok .nil) rn
end F195
namespace F158
def Pf(j10:LI→Option (LI))(bk8:Int→LI→Option (LI))(b:Int)(a:LI):Option (LI):=
if(Cc b (Ac a))then
both (
(vwI (Ac a) b (Ac a)).bind fun _=>
(vwI (Ac a) 0 b).bind fun _=>
bk8 (Ae b (Al6 ((Ac a)-b) (Aod a 0 (b-(0:Int))).length)) (Wh a b ((Ac a)-b) (Aod a 0 (b-(0:Int))))) [
(vwI (Ac a) 0 b).bind fun _=>
(vwI (Ac a) b (Ac a)).bind fun _=>
bk8 (Ae b (Al6 ((Ac a)-b) (Aod a 0 (b-(0:Int))).length)) (Wh a b ((Ac a)-b) (Aod a 0 (b-(0:Int))))]
else
j10 a
theorem Aip: @Pf= @Hh:=by
  unfold Pf Hh
  repeat (refine funext fun _=>?_)
  repeat' first
    |with_reducible rfl
    |with_reducible refine Hb ?_ ?_
    |with_reducible refine Hf ?_ ?_ ?_
    |with_reducible refine Hg ?_ ?_ ?_ ?_
    |((with_reducible refine Kr ?_ ?_);focus (intro h;first|(subst h;rfl)|(simp only[h];rfl)|(simp[Cx,Ac,h];done)))
    |with_reducible refine Kq fun x=>?_
    |with_reducible refine Rc (fun _=>?_) (fun _=>?_)
    |(refine Di (fun h=>by simp only[h,Kn,Cn,Ci,ite_self]) (fun x h=>?_);(try simp only[h,Cn]))
    |(refine Em (fun h=>?_) (fun h=>?_)<;>simp only[h,if_true,if_false,Bool.false_eq_true])
abbrev R_:=LI
noncomputable def H:Hd:=⟨[Sl,Si],[Ol 3],(.seq .d (.cut [0,1] [] .d (.seq .d (.cut [0,6] [] .d (.seq .d (.seq .d (.cut [7] [] (.blk (.loop [7,8] [] (.seq .d (.blk (.mode false))))) .d))))))),⟨[(195,F195.c)],gl,true⟩,[],f158⟩
def t8(b:Int)(a:LI):S:=⟨[(7, .own 0),(8,vi b)],[Ai 3 a],[]⟩
def z8:Nat→S→Option R_:=H.i P_ [r,r,r,r,r,r,l,d]
def x10(a:LI):Option R_:=H.e P_ [r,r,r,r,r,r,r] ⟨[(7, .own 0)],[Ai 3 a],[]⟩
def x8(b:Int)(a:LI):Option R_:=H.e P_ [r,r,r,r,r,r,l,d] (t8 b a)
def x7(f:LI)(g:UInt64):Option R_:=H.e P_ [r,r,r,r] ⟨[(0,vl f),(6,vq g)],[],[]⟩
def x6(f:LI)(h:Int):Option R_:=H.e P_ [r,r] ⟨[(0,vl f),(1,vi h)],[],[]⟩
theorem e10:x10=Jp:=by kernel_rfl
theorem i8:∀(q:Nat) (b:Int) (a:LI),z8 q (t8 b a)=Ej q b a:=
 ind (fun _ _=>by kernel_rfl) fun q ih b a=>Eq.trans (b:=Pf x10 (fun b a=>(z8 q) (t8 b a)) b a) (by kernel_rfl) (by rw[Aip];simp only[e10,ih]<;>rfl)
theorem e8:x8=Rf:=by funext b a;exact Eq.trans (by kernel_rfl) ((i8 Bi b a).trans (by rw[Al];rfl))
theorem e7:x7=Qq:=Eq.trans (b:=Qz x8) (by kernel_rfl) (by simp only[e8]<;>rfl)
theorem e6:x6=Re:=Eq.trans (b:=Qv x7) (by kernel_rfl) (by simp only[e7]<;>rfl)
noncomputable def F:=u2 Od
theorem rn x:H.u P_ x=F x:=Eq.trans (b:=u2 (Qt x6) x) (by kernel_rfl) (by simp only[e6]<;>rfl)
noncomputable def c:Con:=⟨H.p,H.r,F⟩
theorem ok:ConOk P_ gl 158 c:=co H func158 (.cons F195.ok .nil) rn
end F158
namespace F196
abbrev R_:=LI
noncomputable def H:Hd:=⟨[.lf (.list (.list (.int .i64))) none],[Ol 3],(.seq .d (.seq .d (.cut [0,3] [] (.seq .d (.blk (.loop [0,3,9,10,11] [] .d))) (.cut [0,6] [⟨6,[], .own 3 (.int .i64)⟩] (.keep [0,3,6,23,24] true) (.cut [6] [] (.seq .d (.blk (.loop [6,25,26,27] [] .d))) .d))))),⟨[],gl,true⟩,[(236,(.seq .d (.cut [0,1] [] .d .d)))],f196⟩
def t14(a:List LI)(g:Int)(f:LI):S:=⟨[(6, .own 0),(25, .val (.list (.list (.int .i64))) a),(26,vi (Ac a)),(27,vi g)],[Ai 3 f],[]⟩
def z14:Nat→S→Option R_:=H.i P_ [r,r,r,r,l,r,d]
def t9(a:List LI)(b h:Int):S:=⟨[(0, .val (.list (.list (.int .i64))) a),(3,vi b),(9, .val (.list (.list (.int .i64))) a),(10,vi (Ac a)),(11,vi h)],[],[]⟩
def z9:Nat→S→Option R_:=H.i P_ [r,r,l,r,d]
def x16(f:LI):Option R_:=H.e P_ [r,r,r,r,r] ⟨[(6, .own 0)],[Ai 3 f],[]⟩
def x14(a:List LI)(g:Int)(f:LI):Option R_:=H.e P_ [r,r,r,r,l,r,d] (t14 a g f)
def x13(a:List LI)(k:LI):Option R_:=H.e P_ [r,r,r,r] ⟨[(0, .val (.list (.list (.int .i64))) a),(6, .own 0)],[Ai 3 k],[]⟩
def x12(b:Int)(a:List LI):Option R_:=H.e P_ [r,r,r,l,(call 1 236),r,r] ⟨[(0, .nils),(1,vi b)],[],[[(0, .val (.list (.list (.int .i64))) a),(3,vi b),(23,vi b)]]⟩
def x11(a:List LI)(b:Int):Option R_:=H.e P_ [r,r,r] ⟨[(0, .val (.list (.list (.int .i64))) a),(3,vi b)],[],[]⟩
def x9(a:List LI)(b h:Int):Option R_:=H.e P_ [r,r,l,r,d] (t9 a b h)
theorem e16:x16=Aai:=by kernel_rfl
theorem i14(a:List LI):∀(q:Nat) (g:Int) (f:LI),z14 q (t14 a g f)=Dv a q g f:=
 ind (fun _ _=>by kernel_rfl) fun q ih g f=>Eq.trans (b:=Gf x16 (fun g f=>(z14 q) (t14 a g f)) a g f) (by kernel_rfl) (by simp only[e16,ih]<;>rfl)
theorem e14:x14=Pc:=by funext a g f;exact Eq.trans (by kernel_rfl) ((i14 a Bi g f).trans (by rw[Al];rfl))
theorem e13:x13=Jo:=Eq.trans (b:=Oy x14) (by kernel_rfl) (by simp only[e14]<;>rfl)
theorem e12:x12=Ou:=Eq.trans (b:=Ox x13) (by kernel_rfl) (by simp only[e13]<;>rfl)
theorem e11:x11=Oz:=Eq.trans (b:=Pg x12) (by kernel_rfl) (by simp only[e12]<;>rfl)
theorem i9(a:List LI):∀(q:Nat) (b h:Int),z9 q (t9 a b h)=Ek a q b h:=
 ind (fun _ _=>by kernel_rfl) fun q ih b h=>Eq.trans (b:=Hk x11 (fun b h=>(z9 q) (t9 a b h)) a b h) (by kernel_rfl) (by simp only[e11,ih]<;>rfl)
theorem e9:x9=Qw:=by funext a b h;exact Eq.trans (by kernel_rfl) ((i9 a Bi b h).trans (by rw[Al];rfl))
noncomputable def F:=Oi
theorem rn x:H.u P_ x=F x:=Eq.trans (b:=Qr x9 x) (by kernel_rfl) (by simp only[e9]<;>rfl)
noncomputable def c:Con:=⟨H.p,H.r,F⟩
theorem ok:ConOk P_ gl 196 c:=cr H func196 .nil (AnsOk.cons ent236 AnsOk.nil) rn
end F196
namespace F159
noncomputable def H:Hd:=⟨[Sl,Sl],[Ol 3], .d,⟨[(196,F196.c)],gl,false⟩,[],f159⟩
noncomputable def F:=u2 Als
theorem rn x:H.u P_ x=F x:=by kernel_rfl
noncomputable def c:Con:=⟨H.p,H.r,F⟩
theorem ok:ConOk P_ gl 159 c:=co H func159 (.cons F196.ok .nil) rn
end F159
namespace F107
noncomputable def H:Hd:=⟨[Si,Si],[Ol 3,Si], .d,⟨[(69,F69.c),(70,F70.c),(158,F158.c),(159,F159.c)],gl,false⟩,[],f107⟩
noncomputable def F:=u2 Yn
theorem rn x:H.u P_ x=F x:=by kernel_rfl
noncomputable def c:Con:=⟨H.p,H.r,F⟩
theorem ok:ConOk P_ gl 107 c:=co H func107 (.cons F69.ok (.cons F70.ok (.cons F158.ok (.cons F159.ok .nil)))) rn
end F107
namespace F245
noncomputable def H:Hd:=⟨[.agg [Si,Si],Sw],[Si], .d,⟨[(67,F67.c),(114,F114.c)],gl,false⟩,[],f245⟩
noncomputable def F:=u3 Awx
theorem rn x:H.u P_ x=F x:=by kernel_rfl
noncomputable def c:Con:=⟨H.p,H.r,F⟩
theorem ok:ConOk P_ gl 245 c:=co H func245 (.cons F67.ok (.cons F114.ok .nil)) rn
end F245
namespace F207
noncomputable def H:Hd:=⟨[Si,Sw],[Si], .d,⟨[],gl,false⟩,[],f207⟩
noncomputable def F:=u2 Apk
theorem rn x:H.u P_ x=F x:=by kernel_rfl
noncomputable def c:Con:=⟨H.p,H.r,F⟩
theorem ok:ConOk P_ gl 207 c:=co H func207 .nil rn
end F207
namespace F190
def Ma(a:LX):Option (LX):=
Bhc a (
some ([]:LX)) (
(Cx ([]:LX) a).bind fun b=>
some b)
theorem Afg: @Ma= @Ei:=by
  unfold Ma Ei
  repeat (refine funext fun _=>?_)
  repeat' first
    |with_reducible rfl
    |with_reducible refine Hb ?_ ?_
    |with_reducible refine Hf ?_ ?_ ?_
    |with_reducible refine Hg ?_ ?_ ?_ ?_
    |((with_reducible refine Kr ?_ ?_);focus (intro h;first|(subst h;rfl)|(simp only[h];rfl)|(simp[Cx,Ac,h];done)))
    |with_reducible refine Kq fun x=>?_
    |with_reducible refine Rc (fun _=>?_) (fun _=>?_)
    |(refine Di (fun h=>by simp only[h,Kn,Cn,Ci,ite_self]) (fun x h=>?_);(try simp only[h,Cn]))
    |(refine Em (fun h=>?_) (fun h=>?_)<;>simp only[h,if_true,if_false,Bool.false_eq_true])
noncomputable def H:Hd:=⟨[Sw],[Ow 21], .d,⟨[],gl,false⟩,[],f190⟩
noncomputable def F:=Ei
theorem rn x:H.u P_ x=F x:=Eq.trans (b:=Ma x) (by kernel_rfl) (by rw[Afg];rfl)
noncomputable def c:Con:=⟨H.p,H.r,F⟩
theorem ok:ConOk P_ gl 190 c:=co H func190 .nil rn
end F190
namespace F246
abbrev R_:=(LX×Int)
abbrev K_:=S→Option R_
noncomputable def H:Hd:=⟨[Si,Sw],[Ow 21,Si],(.seq .d (.seq .d (.seq .d (.cut [7] [] (.seq .d (.blk (.loop [0,7,8] [] (.seq .d (.cut [0,7,8] [] (.blk (.keep [0,7,8,24,25,26,27,28,29] true)) .d))))) .d)))),⟨[(190,F190.c),(207,F207.c)],gl,true⟩,[(274,(.seq .d (.cut [0,2] [] (.seq .d (.blk (.loop [0,2,7,8] [] .d))) .d)))],f246⟩
def t17(b a h:Int)(g:LX):S:=⟨[(0, .view true 0 [] (.int .i32) a ((Ae a b)-a)),(2,vi (Aj ((Ae a b)-a) (1:Int))),(7,vi (Aj ((Ae a b)-a) (1:Int))),(8,vi h)],[Aw 21 g],[[(0,vi b),(7, .own 0),(8,vi a),(24, .own 0),(25,vi a),(26,vi a),(27,vi b),(28,vi (Ae a b)),(29, .view true 0 [] (.int .i32) a ((Ae a b)-a))]]⟩
def z17(kn12:K_):Nat→S→Option R_:=H.i P_ [r,r,r,l,r,d,(lp kn12),r,l,d,(call 6 274),r,l,r,d]
def t12(b a:Int)(f:LX):S:=⟨[(0,vi b),(7, .own 0),(8,vi a)],[Aw 21 f],[]⟩
def z12:Nat→S→Option R_:=H.i P_ [r,r,r,l,r,d]
def x22(f:LX):Option R_:=H.e P_ [r,r,r,r] ⟨[(7, .own 0)],[Aw 21 f],[]⟩
def x20(kn12:K_)(b a:Int)(k:LX):Option R_:=H.e P_ [r,r,r,l,r,d,(lp kn12),r,r] ⟨[(0,vi b),(7, .own 0),(8,vi a)],[Aw 21 k],[]⟩
def x19(kn12:K_)(b a:Int)(g:LX):Option R_:=H.e P_ [r,r,r,l,r,d,(lp kn12),r,l,d,(call 6 274),r,r] ⟨[(0, .view true 0 [] (.int .i32) a ((Ae a b)-a)),(2,vi (Aj ((Ae a b)-a) (1:Int)))],[Aw 21 g],[[(0,vi b),(7, .own 0),(8,vi a),(24, .own 0),(25,vi a),(26,vi a),(27,vi b),(28,vi (Ae a b)),(29, .view true 0 [] (.int .i32) a ((Ae a b)-a))]]⟩
def x17(kn12:K_)(b a h:Int)(g:LX):Option R_:=H.e P_ [r,r,r,l,r,d,(lp kn12),r,l,d,(call 6 274),r,l,r,d] (t17 b a h g)
def x12(b a:Int)(f:LX):Option R_:=H.e P_ [r,r,r,l,r,d] (t12 b a f)
theorem e22:x22=Bck:=by kernel_rfl
theorem e20(kn12:K_)(b:Int):x20 kn12 b=Bcz (fun a f=>kn12 (t12 b a f)) b:=by kernel_rfl
theorem e19(kn12:K_)(b:Int):x19 kn12 b=Bbw (fun a f=>kn12 (t12 b a f)) b:=Eq.trans (b:=Bcq (x20 kn12 b) b) (by kernel_rfl) (by simp only[e20]<;>rfl)
theorem i17(kn12:K_)(b a:Int):∀(q:Nat) (h:Int) (g:LX),z17 kn12 q (t17 b a h g)=As2 (fun a f=>kn12 (t12 b a f)) b a q h g:=
 ind (fun _ _=>by kernel_rfl) fun q ih h g=>Eq.trans (b:=Bco (x19 kn12 b) (fun h g=>(z17 kn12 q) (t17 b a h g)) b a h g) (by kernel_rfl) (by simp only[e19,ih]<;>rfl)
theorem e17(kn12:K_)(b:Int):x17 kn12 b=Bc0 (fun a f=>kn12 (t12 b a f)) b:=by funext a h g;exact Eq.trans (by kernel_rfl) ((i17 kn12 b a Bi h g).trans (by rw[Al];rfl))
theorem i12(b:Int):∀(q:Nat) (a:Int) (f:LX),z12 q (t12 b a f)=Asw b q a f:=
 ind (fun _ _=>by kernel_rfl) fun q ih a f=>Eq.trans (b:=Bb7 (x17 (z12 q) b) x22 b a f) (by kernel_rfl) (by simp only[e17,e22,ih]<;>rfl)
theorem e12:x12=Bcv:=by funext b a f;exact Eq.trans (by kernel_rfl) ((i12 b Bi a f).trans (by rw[Al];rfl))
noncomputable def F:=u2 Buh
theorem rn x:H.u P_ x=F x:=Eq.trans (b:=u2 (Bdz x12) x) (by kernel_rfl) (by simp only[e12]<;>rfl)
noncomputable def c:Con:=⟨H.p,H.r,F⟩
theorem ok:ConOk P_ gl 246 c:=cr H func246 (.cons F190.ok (.cons F207.ok .nil)) (AnsOk.cons ent274 AnsOk.nil) rn
end F246
namespace F203
abbrev R_:=(Int×LX×LX×Int)
noncomputable def H:Hd:=⟨[Si, .lf (.vec 16 (.int .i32)) none],[.agg [Si, .lf (.vec 16 (.int .i32)) none, .lf (.vec 16 (.int .i32)) none],Si],(.seq .d (.seq .d (.seq (.seq .d (.blk (.cut [4,6,9,11] [] .d .d))) .d))),⟨[],gl,false⟩,[],f203⟩
def x2(a:Int)(b:LX)(f:Bool):Option R_:=H.e P_ [r,r,l,r,d,r] ⟨[(4, .ptr 0 []),(6, .ptr 1 []),(9,vi a),(11,vt f)],[.box 234 (.agg [vi 0, .val (.vec 16 (.int .i32)) (List.replicate 16 (0:Int32)), .val (.vec 16 (.int .i32)) (List.replicate 16 (0:Int32))]), .box 234 (.agg [vi 10, .val (.vec 16 (.int .i32)) b, .val (.vec 16 (.int .i32)) (List.replicate 16 (0:Int32))])],[]⟩
theorem e2:x2=Bbm:=by kernel_rfl
noncomputable def F:=u2 Ayu
theorem rn x:H.u P_ x=F x:=Eq.trans (b:=u2 (Bcn x2) x) (by kernel_rfl) (by simp only[e2]<;>rfl)
noncomputable def c:Con:=⟨H.p,H.r,F⟩
theorem ok:ConOk P_ gl 203 c:=co H func203 .nil rn
end F203
namespace F170
noncomputable def H:Hd:=⟨[Si, .lf (.vec 16 (.int .i32)) none],[.agg [Si,Sx, .agg [Si, .lf (.vec 16 (.int .i32)) none, .lf (.vec 16 (.int .i32)) none]],Si], .d,⟨[(203,F203.c)],gl,false⟩,[],f170⟩
noncomputable def F:=u2 Bba
theorem rn x:H.u P_ x=F x:=by kernel_rfl
noncomputable def c:Con:=⟨H.p,H.r,F⟩
theorem ok:ConOk P_ gl 170 c:=co H func170 (.cons F203.ok .nil) rn
end F170
namespace F204
noncomputable def H:Hd:=⟨[.agg [Si,Sx, .agg [Si, .lf (.vec 16 (.int .i32)) none, .lf (.vec 16 (.int .i32)) none]]],[Si], .d,⟨[(203,F203.c)],gl,false⟩,[],f204⟩
noncomputable def F:=u5 Zi
theorem rn x:H.u P_ x=F x:=by kernel_rfl
noncomputable def c:Con:=⟨H.p,H.r,F⟩
theorem ok:ConOk P_ gl 204 c:=co H func204 (.cons F203.ok .nil) rn
end F204
namespace F241
noncomputable def H:Hd:=⟨[Si],[Si,Si], .d,⟨[],gl,false⟩,[],f241⟩
noncomputable def F:=Aup
theorem rn x:H.u P_ x=F x:=by kernel_rfl
noncomputable def c:Con:=⟨H.p,H.r,F⟩
theorem ok:ConOk P_ gl 241 c:=co H func241 .nil rn
end F241
namespace F242
noncomputable def H:Hd:=⟨[Si,Sx],[Sx], .d,⟨[],gl,false⟩,[],f242⟩
noncomputable def F:=u2 Am3
theorem rn x:H.u P_ x=F x:=by kernel_rfl
noncomputable def c:Con:=⟨H.p,H.r,F⟩
theorem ok:ConOk P_ gl 242 c:=co H func242 .nil rn
end F242
namespace F205
noncomputable def H:Hd:=⟨[Si,Sx],[Sx,Si], .d,⟨[(241,F241.c),(242,F242.c)],gl,false⟩,[],f205⟩
noncomputable def F:=u2 Yf
theorem rn x:H.u P_ x=F x:=by kernel_rfl
noncomputable def c:Con:=⟨H.p,H.r,F⟩
theorem ok:ConOk P_ gl 205 c:=co H func205 (.cons F241.ok (.cons F242.ok .nil)) rn
end F205
namespace F271
noncomputable def H:Hd:=⟨[.agg [Si, .lf (.vec 16 (.int .i32)) none, .lf (.vec 16 (.int .i32)) none]],[Si], .d,⟨[],gl,false⟩,[],f271⟩
noncomputable def F:=u3 Af9
theorem rn x:H.u P_ x=F x:=by kernel_rfl
noncomputable def c:Con:=⟨H.p,H.r,F⟩
theorem ok:ConOk P_ gl 271 c:=co H func271 .nil rn
end F271
namespace F243
abbrev R_:=(Int32×Int)
noncomputable def H:Hd:=⟨[.agg [Si, .lf (.vec 16 (.int .i32)) none, .lf (.vec 16 (.int .i32)) none]],[Sx,Si],(.seq .d (.seq .d (.seq .d (.cut [1,5] [] (.seq .d (.blk (.loop [1,5,18,19] [] .d))) .d)))),⟨[(271,F271.c)],gl,false⟩,[],f243⟩
def t4(b:LX)(a:Int)(f:LX)(g:Int32)(h:Int):S:=⟨[(1, .ptr 0 []),(5,vx g),(18, .val (.vec 16 (.int .i32)) b),(19,vi h)],[.box 234 (.agg [vi a, .val (.vec 16 (.int .i32)) b, .val (.vec 16 (.int .i32)) f])],[]⟩
def z4:Nat→S→Option R_:=H.i P_ [r,r,r,l,r,d]
def x6(g:Int32)(a:Int)(b f:LX):Option R_:=H.e P_ [r,r,r,r] ⟨[(1, .ptr 0 []),(5,vx g)],[.box 234 (.agg [vi a, .val (.vec 16 (.int .i32)) b, .val (.vec 16 (.int .i32)) f])],[]⟩
def x4(b:LX)(a:Int)(f:LX)(g:Int32)(h:Int):Option R_:=H.e P_ [r,r,r,l,r,d] (t4 b a f g h)
theorem e6:x6=Aoo:=by kernel_rfl
theorem i4(b:LX)(a:Int)(f:LX):∀(q:Nat) (g:Int32) (h:Int),z4 q (t4 b a f g h)=Vm b a f q g h:=
 ind (fun _ _=>by kernel_rfl) fun q ih g h=>Eq.trans (b:=Ahd x6 (fun g h=>(z4 q) (t4 b a f g h)) b a f g h) (by kernel_rfl) (by simp only[e6,ih]<;>rfl)
theorem e4:x4=Anq:=by funext b a f g h;exact Eq.trans (by kernel_rfl) ((i4 b a f Bi g h).trans (by rw[Al];rfl))
noncomputable def F:=u3 Amh
theorem rn x:H.u P_ x=F x:=Eq.trans (b:=u3 (Ant x4) x) (by kernel_rfl) (by simp only[e4]<;>rfl)
noncomputable def c:Con:=⟨H.p,H.r,F⟩
theorem ok:ConOk P_ gl 243 c:=co H func243 (.cons F271.ok .nil) rn
end F243
namespace F295
noncomputable def H:Hd:=⟨[Si],[Sx], .d,⟨[],gl,false⟩,[],f295⟩
noncomputable def F:=Aow
theorem rn x:H.u P_ x=F x:=by kernel_rfl
noncomputable def c:Con:=⟨H.p,H.r,F⟩
theorem ok:ConOk P_ gl 295 c:=co H func295 .nil rn
end F295
namespace F272
abbrev R_:=(Int×LX×LX×Int)
noncomputable def H:Hd:=⟨[.agg [Si, .lf (.vec 16 (.int .i32)) none, .lf (.vec 16 (.int .i32)) none],Sx],[.agg [Si, .lf (.vec 16 (.int .i32)) none, .lf (.vec 16 (.int .i32)) none],Si],(.seq .d (.seq .d (.seq .d (.cut [2,4] [] (.seq .d (.blk (.loop [1,2,4,19,20] [] .d))) .d)))),⟨[(271,F271.c),(295,F295.c)],gl,false⟩,[],f272⟩
def t4(h:Int32)(f:LX)(g a:Int)(b:LX):S:=⟨[(1,vx h),(2, .ptr 0 []),(4, .ptr 1 []),(19, .val (.vec 16 (.int .i32)) f),(20,vi a)],[.box 234 (.agg [vi g, .val (.vec 16 (.int .i32)) b, .val (.vec 16 (.int .i32)) f]), .box 234 (.agg [vi 0, .val (.vec 16 (.int .i32)) (List.replicate 16 (0:Int32)), .val (.vec 16 (.int .i32)) (List.replicate 16 (0:Int32))])],[]⟩
def z4:Nat→S→Option R_:=H.i P_ [r,r,r,l,r,d]
def x6(g:Int)(b f:LX):Option R_:=H.e P_ [r,r,r,r] ⟨[(2, .ptr 0 []),(4, .ptr 1 [])],[.box 234 (.agg [vi g, .val (.vec 16 (.int .i32)) b, .val (.vec 16 (.int .i32)) f]), .box 234 (.agg [vi 0, .val (.vec 16 (.int .i32)) (List.replicate 16 (0:Int32)), .val (.vec 16 (.int .i32)) (List.replicate 16 (0:Int32))])],[]⟩
def x4(h:Int32)(f:LX)(g a:Int)(b:LX):Option R_:=H.e P_ [r,r,r,l,r,d] (t4 h f g a b)
theorem e6:x6=Av7:=by kernel_rfl
theorem i4(h:Int32)(f:LX)(g:Int):∀(q:Nat) (a:Int) (b:LX),z4 q (t4 h f g a b)=Vq h f g q a b:=
 ind (fun _ _=>by kernel_rfl) fun q ih a b=>Eq.trans (b:=Ag8 x6 (fun a b=>(z4 q) (t4 h f g a b)) h f g a b) (by kernel_rfl) (by simp only[e6,ih]<;>rfl)
theorem e4:x4=Awg:=by funext h f g a b;exact Eq.trans (by kernel_rfl) ((i4 h f g Bi a b).trans (by rw[Al];rfl))
noncomputable def F:=u4 Aqf
theorem rn x:H.u P_ x=F x:=Eq.trans (b:=u4 (Anv x4) x) (by kernel_rfl) (by simp only[e4]<;>rfl)
noncomputable def c:Con:=⟨H.p,H.r,F⟩
theorem ok:ConOk P_ gl 272 c:=co H func272 (.cons F271.ok (.cons F295.ok .nil)) rn
end F272
namespace F273
def Aok(j2:Int32→Int→LX→LX→Option (Int×LX×LX×Int))(b:Int)(f a:LX)(g:Int32):Option (Int×LX×LX×Int):=
(Af9 b f a).bind fun h=>
if(Ay h 0)then
some (0,(List.replicate 16 (0:Int32)),(List.replicate 16 (0:Int32)),h)
else
both (
(vwI 16 1 16).bind fun _=>
(vwI 16 0 16).bind fun _=>
j2 g b f a) [
(vwI 16 0 16).bind fun _=>
(vwI 16 1 16).bind fun _=>
j2 g b f a]
theorem Ba4: @Aok= @Ajs:=by
  unfold Aok Ajs
  repeat (refine funext fun _=>?_)
  repeat' first
    |with_reducible rfl
    |with_reducible refine Hb ?_ ?_
    |with_reducible refine Hf ?_ ?_ ?_
    |with_reducible refine Hg ?_ ?_ ?_ ?_
    |((with_reducible refine Kr ?_ ?_);focus (intro h;first|(subst h;rfl)|(simp only[h];rfl)|(simp[Cx,Ac,h];done)))
    |with_reducible refine Kq fun x=>?_
    |with_reducible refine Rc (fun _=>?_) (fun _=>?_)
    |(refine Di (fun h=>by simp only[h,Kn,Cn,Ci,ite_self]) (fun x h=>?_);(try simp only[h,Cn]))
    |(refine Em (fun h=>?_) (fun h=>?_)<;>simp only[h,if_true,if_false,Bool.false_eq_true])
abbrev R_:=(Int×LX×LX×Int)
noncomputable def H:Hd:=⟨[.agg [Si, .lf (.vec 16 (.int .i32)) none, .lf (.vec 16 (.int .i32)) none],Sx],[.agg [Si, .lf (.vec 16 (.int .i32)) none, .lf (.vec 16 (.int .i32)) none],Si],(.seq .d (.seq .d (.cut [1,2,4] [] .d .d))),⟨[(271,F271.c)],gl,false⟩,[],f273⟩
def x2(g:Int32)(b:Int)(f a:LX):Option R_:=H.e P_ [r,r,r] ⟨[(1,vx g),(2, .ptr 0 []),(4, .ptr 1 [])],[.box 234 (.agg [vi b, .val (.vec 16 (.int .i32)) f, .val (.vec 16 (.int .i32)) (Wh a (1:Int) ((16:Int)-(1:Int)) (Aod a (0:Int) ((16:Int)-(0:Int))))]), .box 234 (.agg [vi 0, .val (.vec 16 (.int .i32)) (List.replicate 16 (0:Int32)), .val (.vec 16 (.int .i32)) (List.replicate 16 (0:Int32))])],[]⟩
theorem e2:x2=Aqm:=by kernel_rfl
noncomputable def F:=u4 Ave
theorem rn x:H.u P_ x=F x:=Eq.trans (b:=u4 (Aok x2) x) (by kernel_rfl) (by unfold F;rw[Ba4];simp only[e2]<;>rfl)
noncomputable def c:Con:=⟨H.p,H.r,F⟩
theorem ok:ConOk P_ gl 273 c:=co H func273 (.cons F271.ok .nil) rn
end F273
namespace F244
noncomputable def H:Hd:=⟨[.agg [Si, .lf (.vec 16 (.int .i32)) none, .lf (.vec 16 (.int .i32)) none],Sx,Sx],[.agg [Si, .lf (.vec 16 (.int .i32)) none, .lf (.vec 16 (.int .i32)) none]], .d,⟨[(272,F272.c),(273,F273.c)],gl,false⟩,[],f244⟩
noncomputable def F:=u5 Aqs
theorem rn x:H.u P_ x=F x:=by kernel_rfl
noncomputable def c:Con:=⟨H.p,H.r,F⟩
theorem ok:ConOk P_ gl 244 c:=co H func244 (.cons F272.ok (.cons F273.ok .nil)) rn
end F244
namespace F275
noncomputable def H:Hd:=⟨[.agg [Si, .lf (.vec 16 (.int .i32)) none, .lf (.vec 16 (.int .i32)) none],Sx],[Sx, .agg [Si, .lf (.vec 16 (.int .i32)) none, .lf (.vec 16 (.int .i32)) none],Si], .d,⟨[(243,F243.c),(244,F244.c)],gl,false⟩,[],f275⟩
noncomputable def F:=u4 Atd
theorem rn x:H.u P_ x=F x:=by kernel_rfl
noncomputable def c:Con:=⟨H.p,H.r,F⟩
theorem ok:ConOk P_ gl 275 c:=co H func275 (.cons F243.ok (.cons F244.ok .nil)) rn
end F275
namespace F247
def Aet(a:Int)(b:Int32)(f:Int)(g h:LX)(k:Int32):Option (Int32×Int×Int32×Int×LX×LX×Int):=
(Zi a b f g h).bind fun m=>
if(Ay m 0)then
some (0,0,0,0,(List.replicate 16 (0:Int32)),(List.replicate 16 (0:Int32)),m)
else
(Yf a b).bind fun(n,y)=>
(Atd f g h (Aj k n)).bind fun(o,p,u,v,w)=>
bo (
some (o,a,k,p,u,v,w))
theorem Atu: @Aet= @Ag6:=by
  unfold Aet Ag6
  simp only[Ah6,Xz,Xx]
noncomputable def H:Hd:=⟨[.agg [Si,Sx, .agg [Si, .lf (.vec 16 (.int .i32)) none, .lf (.vec 16 (.int .i32)) none]],Sx],[Sx, .agg [Si,Sx, .agg [Si, .lf (.vec 16 (.int .i32)) none, .lf (.vec 16 (.int .i32)) none]],Si],(.seq .d (.seq .d (.seq .d (.seq .d (.seq (.mode false) .d))))),⟨[(204,F204.c),(205,F205.c),(275,F275.c)],gl,false⟩,[],f247⟩
noncomputable def F:=u6 Ag6
theorem rn x:H.u P_ x=F x:=Eq.trans (b:=u6 Aet x) (by kernel_rfl) (by rw[Atu];rfl)
noncomputable def c:Con:=⟨H.p,H.r,F⟩
theorem ok:ConOk P_ gl 247 c:=co H func247 (.cons F204.ok (.cons F205.ok (.cons F275.ok .nil))) rn
end F247
namespace F248
noncomputable def H:Hd:=⟨[Sx],[Su], .d,⟨[],gl,false⟩,[],f248⟩
noncomputable def F:=Bkb
theorem rn x:H.u P_ x=F x:=by kernel_rfl
noncomputable def c:Con:=⟨H.p,H.r,F⟩
theorem ok:ConOk P_ gl 248 c:=co H func248 .nil rn
end F248
namespace F211
abbrev R_:=(LU×Int)
noncomputable def H:Hd:=⟨[.agg [Si,Si], .lf (.vec 16 (.int .i32)) none,Sw],[Ov 154,Si],(.seq .d (.seq .d (.seq .d (.seq .d (.seq .d (.cut [3,9,11] [] (.seq .d (.blk (.loop [3,4,9,11,36] [] .d))) (.seq .d (.cut [13] [] (.seq .d (.blk (.loop [3,11,13,49,50,51] [⟨13,[], .own 154 (.int .u32)⟩] .d))) .d)))))))),⟨[(170,F170.c),(245,F245.c),(246,F246.c),(247,F247.c),(248,F248.c)],gl,false⟩,[],f211⟩
def t10(b:LX)(a f g:Int)(o:List (Int×Int32×(Int×LX×LX×Unit)×Unit))(k:LU):S:=⟨[(3, .ptr 0 []),(11, .ptr 1 []),(13, .own 2),(49, .own 3),(50,vi (Ac b)),(51,vi g)],[.box 60 (.agg [vi a,vi f]), .box 237 (.val (.vec 6 (.cons (.int .i64) (.cons (.int .i32) (.cons (.cons (.int .i64) (.cons (.vec 16 (.int .i32)) (.cons (.vec 16 (.int .i32)) .nil))) .nil)))) o),Av 154 k,Aw 21 b],[]⟩
def z10:Nat→S→Option R_:=H.i P_ [r,r,r,r,r,r,r,l,r,d]
def t7(a f:Int)(m b:LX)(n:Int)(h:List (Int×Int32×(Int×LX×LX×Unit)×Unit)):S:=⟨[(3, .ptr 0 []),(4, .ptr 1 []),(9, .own 2),(11, .ptr 3 []),(36,vi n)],[.box 60 (.agg [vi a,vi f]), .box 110 (.val (.vec 16 (.int .i32)) m),Aw 21 b, .box 237 (.val (.vec 6 (.cons (.int .i64) (.cons (.int .i32) (.cons (.cons (.int .i64) (.cons (.vec 16 (.int .i32)) (.cons (.vec 16 (.int .i32)) .nil))) .nil)))) h)],[]⟩
def z7:Nat→S→Option R_:=H.i P_ [r,r,r,r,r,l,r,d]
def x12(k:LU):Option R_:=H.e P_ [r,r,r,r,r,r,r,r] ⟨[(13, .own 0)],[Av 154 k],[]⟩
def x10(b:LX)(a f g:Int)(o:List (Int×Int32×(Int×LX×LX×Unit)×Unit))(k:LU):Option R_:=H.e P_ [r,r,r,r,r,r,r,l,r,d] (t10 b a f g o k)
def x9(a f:Int)(b:LX)(h:List (Int×Int32×(Int×LX×LX×Unit)×Unit)):Option R_:=H.e P_ [r,r,r,r,r,r] ⟨[(3, .ptr 0 []),(9, .own 1),(11, .ptr 2 [])],[.box 60 (.agg [vi a,vi f]),Aw 21 b, .box 237 (.val (.vec 6 (.cons (.int .i64) (.cons (.int .i32) (.cons (.cons (.int .i64) (.cons (.vec 16 (.int .i32)) (.cons (.vec 16 (.int .i32)) .nil))) .nil)))) h)],[]⟩
def x7(a f:Int)(m b:LX)(n:Int)(h:List (Int×Int32×(Int×LX×LX×Unit)×Unit)):Option R_:=H.e P_ [r,r,r,r,r,l,r,d] (t7 a f m b n h)
theorem e12:x12=Al7:=by kernel_rfl
theorem i10(b:LX)(a f:Int):∀(q:Nat) (g:Int) (o:List (Int×Int32×(Int×LX×LX×Unit)×Unit)) (k:LU),z10 q (t10 b a f g o k)=Ab2 b a f q g o k:=
 ind (fun _ _ _=>by kernel_rfl) fun q ih g o k=>Eq.trans (b:=Amm x12 (fun g o k=>(z10 q) (t10 b a f g o k)) b a f g o k) (by kernel_rfl) (by simp only[e12,ih]<;>rfl)
theorem e10:x10=Alc:=by funext b a f g o k;exact Eq.trans (by kernel_rfl) ((i10 b a f Bi g o k).trans (by rw[Al];rfl))
theorem e9:x9=Am1:=Eq.trans (b:=Am9 x10) (by kernel_rfl) (by simp only[e10]<;>rfl)
theorem i7(a f:Int)(m b:LX):∀(q:Nat) (n:Int) (h:List (Int×Int32×(Int×LX×LX×Unit)×Unit)),z7 q (t7 a f m b n h)=Adc a f m b q n h:=
 ind (fun _ _=>by kernel_rfl) fun q ih n h=>Eq.trans (b:=Am0 x9 (fun n h=>(z7 q) (t7 a f m b n h)) a f m b n h) (by kernel_rfl) (by simp only[e9,ih]<;>rfl)
theorem e7:x7=Ann:=by funext a f m b n h;exact Eq.trans (by kernel_rfl) ((i7 a f m b Bi n h).trans (by rw[Al];rfl))
noncomputable def F:=u4 Au3
theorem rn x:H.u P_ x=F x:=Eq.trans (b:=u4 (Am7 x7) x) (by kernel_rfl) (by simp only[e7]<;>rfl)
noncomputable def c:Con:=⟨H.p,H.r,F⟩
theorem ok:ConOk P_ gl 211 c:=co H func211 (.cons F170.ok (.cons F245.ok (.cons F246.ok (.cons F247.ok (.cons F248.ok .nil))))) rn
end F211
namespace F165
noncomputable def H:Hd:=⟨[],[.agg [Si,Si,Sq,Sq]], .d,⟨[],gl,false⟩,[],f165⟩
noncomputable def F(x:Unit):=Axw
theorem rn x:H.u P_ x=F x:=by kernel_rfl
noncomputable def c:Con:=⟨H.p,H.r,F⟩
theorem ok:ConOk P_ gl 165 c:=co H func165 .nil rn
end F165
namespace F212
abbrev R_:=((List (Int×Int×UInt64×UInt64×Unit)))
noncomputable def H:Hd:=⟨[],[.lf (.vec 6 (.cons (.int .i64) (.cons (.int .i64) (.cons (.int .u64) (.cons (.int .u64) .nil))))) none],(.seq .d (.seq .d (.cut [0,1] [] (.seq .d (.blk (.loop [0,1,3] [] .d))) .d))),⟨[(165,F165.c)],gl,false⟩,[],f212⟩
def t4(b:Int)(a:List (Int×Int×UInt64×UInt64×Unit)):S:=⟨[(0, .ptr 0 []),(1, .ptr 1 []),(3,vi b)],[.box 226 (.val (.vec 6 (.cons (.int .i64) (.cons (.int .i64) (.cons (.int .u64) (.cons (.int .u64) .nil))))) (List.replicate 6 ((0:Int),(0:Int),(0:UInt64),(0:UInt64),()))), .box 226 (.val (.vec 6 (.cons (.int .i64) (.cons (.int .i64) (.cons (.int .u64) (.cons (.int .u64) .nil))))) a)],[]⟩
def z4:Nat→S→Option R_:=H.i P_ [r,r,l,r,d]
def x6(a:List (Int×Int×UInt64×UInt64×Unit)):Option R_:=H.e P_ [r,r,r] ⟨[(0, .ptr 0 []),(1, .ptr 1 [])],[.box 226 (.val (.vec 6 (.cons (.int .i64) (.cons (.int .i64) (.cons (.int .u64) (.cons (.int .u64) .nil))))) (List.replicate 6 ((0:Int),(0:Int),(0:UInt64),(0:UInt64),()))), .box 226 (.val (.vec 6 (.cons (.int .i64) (.cons (.int .i64) (.cons (.int .u64) (.cons (.int .u64) .nil))))) a)],[]⟩
def x4(b:Int)(a:List (Int×Int×UInt64×UInt64×Unit)):Option R_:=H.e P_ [r,r,l,r,d] (t4 b a)
theorem e6:x6=Am8:=by kernel_rfl
theorem i4:∀(q:Nat) (b:Int) (a:List (Int×Int×UInt64×UInt64×Unit)),z4 q (t4 b a)=Adm q b a:=
 ind (fun _ _=>by kernel_rfl) fun q ih b a=>Eq.trans (b:=Ank x6 (fun b a=>(z4 q) (t4 b a)) b a) (by kernel_rfl) (by simp only[e6,ih]<;>rfl)
theorem e4:x4=Ang:=by funext b a;exact Eq.trans (by kernel_rfl) ((i4 Bi b a).trans (by rw[Al];rfl))
noncomputable def F(x:Unit):=As7
theorem rn x:H.u P_ x=F x:=Eq.trans (b:=Amv x4) (by kernel_rfl) (by simp only[e4]<;>rfl)
noncomputable def c:Con:=⟨H.p,H.r,F⟩
theorem ok:ConOk P_ gl 212 c:=co H func212 (.cons F165.ok .nil) rn
end F212
namespace F168
noncomputable def H:Hd:=⟨[.agg [Sb,Si]],[Si], .d,⟨[],gl,false⟩,[],f168⟩
noncomputable def F:=u2 Km
theorem rn x:H.u P_ x=F x:=by kernel_rfl
noncomputable def c:Con:=⟨H.p,H.r,F⟩
theorem ok:ConOk P_ gl 168 c:=co H func168 .nil rn
end F168
namespace F200
def Akh(j4:Int→Int→UInt64→UInt64→Option Int)(a b:Int)(f g:UInt64):Option Int:=
both (
bo (
j4 a b f g)) [
j4 a b f g]
theorem Az8: @Akh= @Ag5:=by
  unfold Akh Ag5
  repeat (refine funext fun _=>?_)
  repeat' first
    |with_reducible rfl
    |with_reducible refine Hb ?_ ?_
    |with_reducible refine Hf ?_ ?_ ?_
    |with_reducible refine Hg ?_ ?_ ?_ ?_
    |((with_reducible refine Kr ?_ ?_);focus (intro h;first|(subst h;rfl)|(simp only[h];rfl)|(simp[Cx,Ac,h];done)))
    |with_reducible refine Kq fun x=>?_
    |with_reducible refine Rc (fun _=>?_) (fun _=>?_)
    |(refine Di (fun h=>by simp only[h,Kn,Cn,Ci,ite_self]) (fun x h=>?_);(try simp only[h,Cn]))
    |(refine Em (fun h=>?_) (fun h=>?_)<;>simp only[h,if_true,if_false,Bool.false_eq_true])
def Aki(j3:Int→Int→UInt64→UInt64→Option Int)(a b:Int)(f g:UInt64):Option Int:=
both (
bo (
j3 a b f g)) [
j3 a b f g]
theorem Ay6: @Aki= @Ag1:=by
  unfold Aki Ag1
  repeat (refine funext fun _=>?_)
  repeat' first
    |with_reducible rfl
    |with_reducible refine Hb ?_ ?_
    |with_reducible refine Hf ?_ ?_ ?_
    |with_reducible refine Hg ?_ ?_ ?_ ?_
    |((with_reducible refine Kr ?_ ?_);focus (intro h;first|(subst h;rfl)|(simp only[h];rfl)|(simp[Cx,Ac,h];done)))
    |with_reducible refine Kq fun x=>?_
    |with_reducible refine Rc (fun _=>?_) (fun _=>?_)
    |(refine Di (fun h=>by simp only[h,Kn,Cn,Ci,ite_self]) (fun x h=>?_);(try simp only[h,Cn]))
    |(refine Em (fun h=>?_) (fun h=>?_)<;>simp only[h,if_true,if_false,Bool.false_eq_true])
abbrev R_:=Int
noncomputable def H:Hd:=⟨[.agg [Si,Si,Sq,Sq]],[Si],(.seq .d (.seq .d (.cut [1,3] [] (.mode false) (.cut [1,3] [] (.mode false) .d)))),⟨[],gl,false⟩,[],f200⟩
def x4(a b:Int)(f g:UInt64):Option R_:=H.e P_ [r,r,r,r] ⟨[(1, .ptr 0 []),(3, .ptr 1 [])],[.box 225 (.agg [vi a,vi b,vq f,vq g]), .box 225 (.agg [vi (Eh (Av5 a (0:Int)) (24:Int)),vi (Eh (Av5 b (0:Int)) (24:Int)),vq (Eh f (68719476735:UInt64)),vq (Eh g (68719476735:UInt64))])],[]⟩
def x3(a b:Int)(f g:UInt64):Option R_:=H.e P_ [r,r,r] ⟨[(1, .ptr 0 []),(3, .ptr 1 [])],[.box 225 (.agg [vi a,vi b,vq f,vq g]), .box 225 (.agg [vi (Eh (Av5 a (0:Int)) (24:Int)),vi (Eh (Av5 b (0:Int)) (24:Int)),vq f,vq g])],[]⟩
theorem e4:x4=Anr:=by kernel_rfl
theorem e3:x3=Anu:=Eq.trans (b:=Akh x4) (by kernel_rfl) (by rw[Az8];simp only[e4]<;>rfl)
noncomputable def F:=u4 Akn
theorem rn x:H.u P_ x=F x:=Eq.trans (b:=u4 (Aki x3) x) (by kernel_rfl) (by unfold F;rw[Ay6];simp only[e3]<;>rfl)
noncomputable def c:Con:=⟨H.p,H.r,F⟩
theorem ok:ConOk P_ gl 200 c:=co H func200 .nil rn
end F200
namespace F240
noncomputable def H:Hd:=⟨[.agg [Si,Si,Sq,Sq],Su],[Si,Su], .d,⟨[],gl,false⟩,[],f240⟩
noncomputable def F:=u5 Af3
theorem rn x:H.u P_ x=F x:=by kernel_rfl
noncomputable def c:Con:=⟨H.p,H.r,F⟩
theorem ok:ConOk P_ gl 240 c:=co H func240 .nil rn
end F240
namespace F150
def Np(a:LB):Option (LB):=
Bhc a (
some ([]:LB)) (
(Cx ([]:LB) a).bind fun b=>
some b)
theorem Ah9: @Np= @Fu:=by
  unfold Np Fu
  repeat (refine funext fun _=>?_)
  repeat' first
    |with_reducible rfl
    |with_reducible refine Hb ?_ ?_
    |with_reducible refine Hf ?_ ?_ ?_
    |with_reducible refine Hg ?_ ?_ ?_ ?_
    |((with_reducible refine Kr ?_ ?_);focus (intro h;first|(subst h;rfl)|(simp only[h];rfl)|(simp[Cx,Ac,h];done)))
    |with_reducible refine Kq fun x=>?_
    |with_reducible refine Rc (fun _=>?_) (fun _=>?_)
    |(refine Di (fun h=>by simp only[h,Kn,Cn,Ci,ite_self]) (fun x h=>?_);(try simp only[h,Cn]))
    |(refine Em (fun h=>?_) (fun h=>?_)<;>simp only[h,if_true,if_false,Bool.false_eq_true])
noncomputable def H:Hd:=⟨[Sb],[Ob 5], .d,⟨[],gl,false⟩,[],f150⟩
noncomputable def F:=Fu
theorem rn x:H.u P_ x=F x:=Eq.trans (b:=Np x) (by kernel_rfl) (by rw[Ah9];rfl)
noncomputable def c:Con:=⟨H.p,H.r,F⟩
theorem ok:ConOk P_ gl 150 c:=co H func150 .nil rn
end F150
namespace F276
noncomputable def H:Hd:=⟨[.agg [Sb,Si]],[.agg [Ob 5,Si]], .d,⟨[(150,F150.c)],gl,false⟩,[],f276⟩
noncomputable def F:=u2 Bax
theorem rn x:H.u P_ x=F x:=by kernel_rfl
noncomputable def c:Con:=⟨H.p,H.r,F⟩
theorem ok:ConOk P_ gl 276 c:=co H func276 (.cons F150.ok .nil) rn
end F276
namespace F249
abbrev R_:=(LB×Int×Int)
abbrev K_:=S→Option R_
noncomputable def H:Hd:=⟨[.agg [Sb,Si],Sq,Si],[.agg [Ob 5,Si],Si],(.seq .d (.seq .d (.seq .d (.cut [3,6] [] (.keep [1,2,3,6,40,41] true) .d)))),⟨[(168,F168.c),(276,F276.c)],gl,false⟩,[(199,(.blk (.loop [0,1,2] [] (.seq .d (.blk (.cut [0,1,2] [] .d (.seq .d (.cut [0,1,2,7] [] .d .d))))))))],f249⟩
def t15(b:UInt64)(a:Int)(m:UInt64)(h f:Int)(o:LB):S:=⟨[(0, .ptr 0 []),(1,vq m),(2,vi h)],[.box 170 (.agg [.own 2,vi f]), .box 170 (.agg [.nils,vi 0]),Ab 5 o],[[(1,vq b),(2,vi a),(3, .ptr 0 []),(6, .ptr 1 []),(40,vq b),(41,vi a)]]⟩
def z15:Nat→S→Option R_:=H.i P_ [r,r,r,l,(call 2 199),d]
def t22(b:UInt64)(a:Int)(n:UInt64)(k g:Int)(p:LB):S:=⟨[(0, .ptr 0 []),(1,vq n),(2,vi k)],[.box 170 (.agg [.own 2,vi g]), .box 170 (.agg [.nils,vi 0]),Ab 5 p],[[(1,vq b),(2,vi a),(3, .ptr 0 []),(6, .ptr 1 []),(40,vq b),(41,vi a)]]⟩
def z22:Nat→S→Option R_:=H.i P_ [r,r,r,l,(call 2 199),d]
def x21(f:Int)(o:LB):Option R_:=H.e P_ [r,r,r,r] ⟨[(3, .ptr 0 []),(6, .ptr 1 [])],[.box 170 (.agg [.own 2,vi f]), .box 170 (.agg [.nils,vi 0]),Ab 5 o],[]⟩
def x19(kn15:K_)(b:UInt64)(a:Int)(m:UInt64)(h f:Int)(w:LB):Option R_:=H.e P_ [r,r,r,l,(call 2 199),d,(lp kn15),r,d,r,r,r] ⟨[(0, .ptr 0 []),(1,vq m),(2,vi h),(7,vi (Eh h (Aj (8:Int) (Dy f (7:Int)))))],[.box 170 (.agg [.own 2,vi f]), .box 170 (.agg [.nils,vi 0]),Ab 5 w],[[(1,vq b),(2,vi a),(3, .ptr 0 []),(6, .ptr 1 []),(40,vq b),(41,vi a)]]⟩
def x18(kn15:K_)(b:UInt64)(a:Int)(m:UInt64)(h f:Int)(u:LB):Option R_:=H.e P_ [r,r,r,l,(call 2 199),d,(lp kn15),r,d,r] ⟨[(0, .ptr 0 []),(1,vq m),(2,vi h)],[.box 170 (.agg [.own 2,vi f]), .box 170 (.agg [.nils,vi 0]),Ab 5 u],[[(1,vq b),(2,vi a),(3, .ptr 0 []),(6, .ptr 1 []),(40,vq b),(41,vi a)]]⟩
def x15(b:UInt64)(a:Int)(m:UInt64)(h f:Int)(o:LB):Option R_:=H.e P_ [r,r,r,l,(call 2 199),d] (t15 b a m h f o)
def x28(g:Int)(p:LB):Option R_:=H.e P_ [r,r,r,r] ⟨[(3, .ptr 0 []),(6, .ptr 1 [])],[.box 170 (.agg [.own 2,vi g]), .box 170 (.agg [.nils,vi 0]),Ab 5 p],[]⟩
def x26(kn22:K_)(b:UInt64)(a:Int)(n:UInt64)(k g:Int)(y:LB):Option R_:=H.e P_ [r,r,r,l,(call 2 199),d,(lp kn22),r,d,r,r,r] ⟨[(0, .ptr 0 []),(1,vq n),(2,vi k),(7,vi (Eh k (Aj (8:Int) (Dy g (7:Int)))))],[.box 170 (.agg [.own 2,vi g]), .box 170 (.agg [.nils,vi 0]),Ab 5 y],[[(1,vq b),(2,vi a),(3, .ptr 0 []),(6, .ptr 1 []),(40,vq b),(41,vi a)]]⟩
def x25(kn22:K_)(b:UInt64)(a:Int)(n:UInt64)(k g:Int)(v:LB):Option R_:=H.e P_ [r,r,r,l,(call 2 199),d,(lp kn22),r,d,r] ⟨[(0, .ptr 0 []),(1,vq n),(2,vi k)],[.box 170 (.agg [.own 2,vi g]), .box 170 (.agg [.nils,vi 0]),Ab 5 v],[[(1,vq b),(2,vi a),(3, .ptr 0 []),(6, .ptr 1 []),(40,vq b),(41,vi a)]]⟩
def x22(b:UInt64)(a:Int)(n:UInt64)(k g:Int)(p:LB):Option R_:=H.e P_ [r,r,r,l,(call 2 199),d] (t22 b a n k g p)
theorem e21:x21=Azj:=by kernel_rfl
theorem e19(kn15:K_)(b:UInt64)(a:Int):x19 kn15 b a=Ay0 (fun m h f o=>kn15 (t15 b a m h f o)) b a:=by kernel_rfl
theorem e18(kn15:K_)(b:UInt64)(a:Int):x18 kn15 b a=Az4 (fun m h f o=>kn15 (t15 b a m h f o)) b a:=Eq.trans (b:=Ay3 (x19 kn15 b a) b a) (by kernel_rfl) (by simp only[e19]<;>rfl)
theorem i15(b:UInt64)(a:Int):∀(q:Nat) (m:UInt64) (h f:Int) (o:LB),z15 q (t15 b a m h f o)=Aqt b a q m h f o:=
 ind (fun _ _ _ _=>by kernel_rfl) fun q ih m h f o=>Eq.trans (b:=Azp (x18 (z15 q) b a) x21 b a m h f o) (by kernel_rfl) (by simp only[e18,e21,ih]<;>rfl)
theorem e15:x15=Ayt:=by funext b a m h f o;exact Eq.trans (by kernel_rfl) ((i15 b a Bi m h f o).trans (by rw[Al];rfl))
theorem e28:x28=Azg:=by kernel_rfl
theorem e26(kn22:K_)(b:UInt64)(a:Int):x26 kn22 b a=Ayy (fun n k g p=>kn22 (t22 b a n k g p)) b a:=by kernel_rfl
theorem e25(kn22:K_)(b:UInt64)(a:Int):x25 kn22 b a=Ay4 (fun n k g p=>kn22 (t22 b a n k g p)) b a:=Eq.trans (b:=Azz (x26 kn22 b a) b a) (by kernel_rfl) (by simp only[e26]<;>rfl)
theorem i22(b:UInt64)(a:Int):∀(q:Nat) (n:UInt64) (k g:Int) (p:LB),z22 q (t22 b a n k g p)=Aqk b a q n k g p:=
 ind (fun _ _ _ _=>by kernel_rfl) fun q ih n k g p=>Eq.trans (b:=Ayr (x25 (z22 q) b a) x28 b a n k g p) (by kernel_rfl) (by simp only[e25,e28,ih]<;>rfl)
theorem e22:x22=Ayv:=by funext b a n k g p;exact Eq.trans (by kernel_rfl) ((i22 b a Bi n k g p).trans (by rw[Al];rfl))
noncomputable def F:=u4 Au4
theorem rn x:H.u P_ x=F x:=Eq.trans (b:=u4 (Bbu x15 x22) x) (by kernel_rfl) (by simp only[e15,e22]<;>rfl)
noncomputable def c:Con:=⟨H.p,H.r,F⟩
theorem ok:ConOk P_ gl 249 c:=cr H func249 (.cons F168.ok (.cons F276.ok .nil)) (AnsOk.cons ent199 AnsOk.nil) rn
end F249
namespace F238
noncomputable def H:Hd:=⟨[Su,Si],[Sz], .d,⟨[],gl,false⟩,[],f238⟩
noncomputable def F:=u2 Ajz
theorem rn x:H.u P_ x=F x:=by kernel_rfl
noncomputable def c:Con:=⟨H.p,H.r,F⟩
theorem ok:ConOk P_ gl 238 c:=co H func238 .nil rn
end F238
namespace F296
noncomputable def H:Hd:=⟨[Si],[Si,Si], .d,⟨[],gl,false⟩,[],f296⟩
noncomputable def F:=Azt
theorem rn x:H.u P_ x=F x:=by kernel_rfl
noncomputable def c:Con:=⟨H.p,H.r,F⟩
theorem ok:ConOk P_ gl 296 c:=co H func296 .nil rn
end F296
namespace F277
noncomputable def H:Hd:=⟨[.agg [Sb,Si],Si],[.agg [Ob 5,Si],Si], .d,⟨[(168,F168.c),(249,F249.c),(296,F296.c)],gl,false⟩,[],f277⟩
noncomputable def F:=u3 Bcj
theorem rn x:H.u P_ x=F x:=by kernel_rfl
noncomputable def c:Con:=⟨H.p,H.r,F⟩
theorem ok:ConOk P_ gl 277 c:=co H func277 (.cons F168.ok (.cons F249.ok (.cons F296.ok .nil))) rn
end F277
namespace F250
abbrev R_:=(LB×Int×Int)
noncomputable def H:Hd:=⟨[.agg [Sb,Si],Su,Si],[.agg [Ob 5,Si],Si],(.seq .d (.seq .d (.seq .d (.seq .d (.cut [3,6,9,10,11] [] .d .d))))),⟨[(168,F168.c),(238,F238.c),(249,F249.c),(277,F277.c)],gl,false⟩,[],f250⟩
def x2(b:LB)(f h:Int)(k:UInt32)(m:Int):Option R_:=H.e P_ [r,r,r,r,r] ⟨[(3, .ptr 0 []),(6, .ptr 1 []),(9,vi h),(10,vu k),(11,vi m)],[.box 170 (.agg [vb b,vi f]), .box 170 (.agg [.nils,vi 0])],[]⟩
theorem e2:x2=Awv:=by kernel_rfl
noncomputable def F:=u4 Beo
theorem rn x:H.u P_ x=F x:=Eq.trans (b:=u4 (Awb x2) x) (by kernel_rfl) (by simp only[e2]<;>rfl)
noncomputable def c:Con:=⟨H.p,H.r,F⟩
theorem ok:ConOk P_ gl 250 c:=co H func250 (.cons F168.ok (.cons F238.ok (.cons F249.ok (.cons F277.ok .nil)))) rn
end F250
namespace F213
def Ais(k u n:Int)(a:UInt64)(b:UInt32)(o:UInt64)(m:LB):Option (LB×Int×Int×Int×UInt64×UInt64×Int):=
(fun af:Option (LB×Int×Int×Int×UInt64×UInt64×Int)=>
both (
bo (
af)) [
af]) (
some (m,k,u,n,(Ae a (Aj (Ad b:UInt64) (Ca a (GI.toZ (4:UInt64)).toNat))),o,0))
theorem Ax1: @Ais= @Ak9:=by
  unfold Ais Ak9
  try simp only[Ah6,Xz,Xx]
  all_goals
    repeat (refine funext fun _=>?_)
    repeat' first
      |with_reducible rfl
      |with_reducible refine Hb ?_ ?_
      |with_reducible refine Hf ?_ ?_ ?_
      |with_reducible refine Hg ?_ ?_ ?_ ?_
      |((with_reducible refine Kr ?_ ?_);focus (intro h;first|(subst h;rfl)|(simp only[h];rfl)|(simp[Cx,Ac,h];done)))
      |with_reducible refine Kq fun x=>?_
      |with_reducible refine Rc (fun _=>?_) (fun _=>?_)
      |(refine Di (fun h=>by simp only[h,Kn,Cn,Ci,ite_self]) (fun x h=>?_);(try simp only[h,Cn]))
      |(refine Em (fun h=>?_) (fun h=>?_)<;>simp only[h,if_true,if_false,Bool.false_eq_true])
abbrev R_:=(LB×Int×Int×Int×UInt64×UInt64×Int)
noncomputable def H:Hd:=⟨[.agg [Sb,Si], .agg [Si,Si,Sq,Sq],Su],[.agg [Ob 5,Si], .agg [Si,Si,Sq,Sq],Si],(.seq .d (.cut [2,3,4,6,7] [] .d (.seq .d (.seq .d (.cut [2,3,4,6,7,11] [] .d (.seq .d (.cut [3,4,6,7] [] (.keep [2,3,4,6,7,65] true) (.seq (.mode false) .d)))))))),⟨[(168,F168.c),(200,F200.c),(240,F240.c),(249,F249.c),(250,F250.c)],gl,false⟩,[(202,(.seq .d (.seq .d (.seq .d (.blk (.cut [0,1,4] [] (.blk (.seq .d (.keep [0,1,4,6,18,19,20,21,22,23,24,25] true))) (.cut [] [] (.keep [0,1,4,27,28,29,30,31,32,33,34] true) .d))))))),(239, .d)],f213⟩
def x10(k u n:Int)(a:UInt64)(b:UInt32)(o:UInt64)(m:LB):Option R_:=H.e P_ [r,r,r,r,r,r,r] ⟨[(3, .ptr 0 []),(4, .ptr 1 []),(6, .ptr 2 []),(7, .ptr 3 [])],[.box 170 (.agg [.own 4,vi k]), .box 225 (.agg [vi u,vi n,vq (Ae a (Aj (Ad b:UInt64) (Ca a (GI.toZ (4:UInt64)).toNat))),vq o]), .box 170 (.agg [.nils,vi 0]), .box 225 (.agg [vi 0,vi 0,vq 0,vq 0]),Ab 5 m],[]⟩
def x9(b:UInt32)(k n:Int)(a o:UInt64)(m:LB)(u:Int):Option R_:=H.e P_ [r,r,r,r,r,r,l,(call 1 202),r,r,r,d,r,r] ⟨[],[.box 170 (.agg [.own 4,vi k]), .box 225 (.agg [vi u,vi n,vq (Ae a (Aj (Ad b:UInt64) (Ca a (GI.toZ (4:UInt64)).toNat))),vq o]), .box 170 (.agg [.nils,vi 0]), .box 225 (.agg [vi 0,vi 0,vq 0,vq 0]),Ab 5 m],[[(2,vu b),(3, .ptr 0 []),(4, .ptr 1 []),(6, .ptr 2 []),(7, .ptr 3 []),(65,vu b)]]⟩
def x8(b:UInt32)(f:Int)(a:UInt64)(k:Int)(m:LB)(n:Int)(o:UInt64):Option R_:=H.e P_ [r,r,r,r,r,r,l,(call 1 202),r,r,r,d,r] ⟨[(0, .ptr 0 []),(1,vu b),(4, .fn 239 [])],[.box 225 (.agg [vi f,vi n,vq a,vq o]), .box 170 (.agg [.own 4,vi k]), .box 170 (.agg [.nils,vi 0]), .box 225 (.agg [vi 0,vi 0,vq 0,vq 0]),Ab 5 m],[[(2,vu b),(3, .ptr 1 []),(4, .ptr 0 []),(6, .ptr 2 []),(7, .ptr 3 []),(65,vu b)]]⟩
def x7(b:UInt32)(f h:Int)(a g:UInt64)(y k:Int)(m:LB):Option R_:=H.e P_ [r,r,r,r,r] ⟨[(2,vu b),(3, .ptr 0 []),(4, .ptr 1 []),(6, .ptr 2 []),(7, .ptr 3 []),(11,vi y)],[.box 170 (.agg [.own 4,vi k]), .box 225 (.agg [vi f,vi h,vq a,vq g]), .box 170 (.agg [.nils,vi 0]), .box 225 (.agg [vi 0,vi 0,vq 0,vq 0]),Ab 5 m],[]⟩
def x6(b:UInt32)(v:LB)(w f h:Int)(a g:UInt64):Option R_:=H.e P_ [r,r] ⟨[(2,vu b),(3, .ptr 0 []),(4, .ptr 1 []),(6, .ptr 2 []),(7, .ptr 3 [])],[.box 170 (.agg [vb v,vi w]), .box 225 (.agg [vi f,vi h,vq a,vq g]), .box 170 (.agg [.nils,vi 0]), .box 225 (.agg [vi 0,vi 0,vq 0,vq 0])],[]⟩
theorem e10:x10=At7:=Eq.trans (b:=Ais) (by kernel_rfl) (by rw[Ax1];rfl)
theorem e9:x9=Awd:=Eq.trans (b:=Aw0 x10) (by kernel_rfl) (by simp only[e10]<;>rfl)
theorem e8:x8=Awl:=Eq.trans (b:=Aw3 x9) (by kernel_rfl) (by simp only[e9]<;>rfl)
theorem e7:x7=Awm:=Eq.trans (b:=Av8 x8) (by kernel_rfl) (by simp only[e8]<;>rfl)
theorem e6:x6=Awz:=Eq.trans (b:=Awq x7) (by kernel_rfl) (by simp only[e7]<;>rfl)
noncomputable def F:=u7 Bhe
theorem rn x:H.u P_ x=F x:=Eq.trans (b:=u7 (Aw1 x6) x) (by kernel_rfl) (by simp only[e6]<;>rfl)
noncomputable def c:Con:=⟨H.p,H.r,F⟩
theorem ok:ConOk P_ gl 213 c:=cr H func213 (.cons F168.ok (.cons F200.ok (.cons F240.ok (.cons F249.ok (.cons F250.ok .nil))))) (AnsOk.cons ent202 (AnsOk.cons ent239 AnsOk.nil)) rn
end F213
namespace F155
abbrev R_:=(UInt32×Int)
abbrev K_:=S→Option R_
noncomputable def H:Hd:=⟨[Su,Sb],[Su,Si],(.seq .d (.seq .d (.cut [0,1,6] [] (.keep [0,1,6,12] true) (.cut [0] [] (.seq .d (.blk (.loop [0,6,13,14,15] [] .d))) .d)))),⟨[],gl,false⟩,[(193,(.seq .d (.seq .d (.cut [1] [] (.seq .d (.blk (.loop [1,5] [] (.seq .d (.seq .d (.cut [1,5] [] (.blk (.seq .d (.seq .d (.cut [1,2,3,5] [] (.seq .d (.blk (.loop [1,2,3,5,10] [] .d))) .d)))) .d)))))) .d))))],f155⟩
def t28(a:LB)(b:LU)(h:UInt32)(m:Int):S:=⟨[(0,vu h),(6, .ptr 0 []),(13,vb a),(14,vi (Ac a)),(15,vi m)],[.box 318 (.val (.vec 256 (.int .u32)) b)],[]⟩
def z28:Nat→S→Option R_:=H.i P_ [r,r,r,l,r,d]
def t21(f:UInt32)(a:LB)(g:Int)(b:LU)(k:UInt32)(n:Int):S:=⟨[(1, .ptr 0 []),(2,vi g),(3,vu k),(5,vi g),(10,vi n)],[.box 318 (.val (.vec 256 (.int .u32)) b)],[[(0,vu f),(1,vb a)]]⟩
def z21(kn16:K_):Nat→S→Option R_:=H.i P_ [r,r,l,(call 0 193),r,r,l,r,d,(lp kn16),r,r,l,d,r,r,l,r,d]
def t16(f:UInt32)(a:LB)(g:Int)(b:LU):S:=⟨[(1, .ptr 0 []),(5,vi g)],[.box 318 (.val (.vec 256 (.int .u32)) b)],[[(0,vu f),(1,vb a)]]⟩
def z16:Nat→S→Option R_:=H.i P_ [r,r,l,(call 0 193),r,r,l,r,d]
def x30(h:UInt32):Option R_:=H.e P_ [r,r,r,r] ⟨[(0,vu h)],[],[]⟩
def x28(a:LB)(b:LU)(h:UInt32)(m:Int):Option R_:=H.e P_ [r,r,r,l,r,d] (t28 a b h m)
def x27(f:UInt32)(a:LB)(b:LU):Option R_:=H.e P_ [r,r,r] ⟨[(0,vu f),(1,vb a),(6, .ptr 0 [])],[.box 318 (.val (.vec 256 (.int .u32)) b)],[]⟩
def x26(f:UInt32)(a:LB)(b:LU):Option R_:=H.e P_ [r,r,l,(call 0 193),r,r,r] ⟨[(1, .ptr 0 [])],[.box 318 (.val (.vec 256 (.int .u32)) b)],[[(0,vu f),(1,vb a)]]⟩
def x24(kn16:K_)(f:UInt32)(a:LB)(g:Int)(o:LU):Option R_:=H.e P_ [r,r,l,(call 0 193),r,r,l,r,d,(lp kn16),r,r,r] ⟨[(1, .ptr 0 []),(5,vi g)],[.box 318 (.val (.vec 256 (.int .u32)) o)],[[(0,vu f),(1,vb a)]]⟩
def x23(kn16:K_)(f:UInt32)(a:LB)(g:Int)(k:UInt32)(b:LU):Option R_:=H.e P_ [r,r,l,(call 0 193),r,r,l,r,d,(lp kn16),r,r,l,d,r,r,r] ⟨[(1, .ptr 0 []),(2,vi g),(3,vu k),(5,vi g)],[.box 318 (.val (.vec 256 (.int .u32)) b)],[[(0,vu f),(1,vb a)]]⟩
def x21(kn16:K_)(f:UInt32)(a:LB)(g:Int)(b:LU)(k:UInt32)(n:Int):Option R_:=H.e P_ [r,r,l,(call 0 193),r,r,l,r,d,(lp kn16),r,r,l,d,r,r,l,r,d] (t21 f a g b k n)
def x16(f:UInt32)(a:LB)(g:Int)(b:LU):Option R_:=H.e P_ [r,r,l,(call 0 193),r,r,l,r,d] (t16 f a g b)
theorem e30:x30=Al8:=by kernel_rfl
theorem i28(a:LB)(b:LU):∀(q:Nat) (h:UInt32) (m:Int),z28 q (t28 a b h m)=Tl a b q h m:=
 ind (fun _ _=>by kernel_rfl) fun q ih h m=>Eq.trans (b:=Afe x30 (fun h m=>(z28 q) (t28 a b h m)) a b h m) (by kernel_rfl) (by simp only[e30,ih]<;>rfl)
theorem e28:x28=Akr:=by funext a b h m;exact Eq.trans (by kernel_rfl) ((i28 a b Bi h m).trans (by rw[Al];rfl))
theorem e27:x27=Akp:=Eq.trans (b:=Aln x28) (by kernel_rfl) (by simp only[e28]<;>rfl)
theorem e26:x26=Ade:=Eq.trans (b:=Alu x27) (by kernel_rfl) (by simp only[e27]<;>rfl)
theorem e24(kn16:K_)(f:UInt32)(a:LB):x24 kn16 f a=Ale (fun g b=>kn16 (t16 f a g b)) f a:=by kernel_rfl
theorem e23(kn16:K_)(f:UInt32)(a:LB):x23 kn16 f a=Ad7 (fun g b=>kn16 (t16 f a g b)) f a:=Eq.trans (b:=Alj (x24 kn16 f a) f a) (by kernel_rfl) (by simp only[e24]<;>rfl)
theorem i21(kn16:K_)(f:UInt32)(a:LB)(g:Int)(b:LU):∀(q:Nat) (k:UInt32) (n:Int),z21 kn16 q (t21 f a g b k n)=Ta (fun g b=>kn16 (t16 f a g b)) f a g b q k n:=
 ind (fun _ _=>by kernel_rfl) fun q ih k n=>Eq.trans (b:=Adk (x23 kn16 f a) (fun k n=>(z21 kn16 q) (t21 f a g b k n)) f a g b k n) (by kernel_rfl) (by simp only[e23,ih]<;>rfl)
theorem e21(kn16:K_)(f:UInt32)(a:LB):x21 kn16 f a=Akk (fun g b=>kn16 (t16 f a g b)) f a:=by funext g b k n;exact Eq.trans (by kernel_rfl) ((i21 kn16 f a g b Bi k n).trans (by rw[Al];rfl))
theorem i16(f:UInt32)(a:LB):∀(q:Nat) (g:Int) (b:LU),z16 q (t16 f a g b)=Nv f a q g b:=
 ind (fun _ _=>by kernel_rfl) fun q ih g b=>Eq.trans (b:=Adh (x21 (z16 q) f a) x26 f a g b) (by kernel_rfl) (by simp only[e21,e26,ih]<;>rfl)
theorem e16:x16=Amk:=by funext f a g b;exact Eq.trans (by kernel_rfl) ((i16 f a Bi g b).trans (by rw[Al];rfl))
noncomputable def F:=u2 Ap0
theorem rn x:H.u P_ x=F x:=Eq.trans (b:=u2 (Anz x16) x) (by kernel_rfl) (by simp only[e16]<;>rfl)
noncomputable def c:Con:=⟨H.p,H.r,F⟩
theorem ok:ConOk P_ gl 155 c:=cr H func155 .nil (AnsOk.cons ent193 AnsOk.nil) rn
end F155
namespace F102
noncomputable def H:Hd:=⟨[Sb],[Su,Si], .d,⟨[(155,F155.c)],gl,false⟩,[],f102⟩
noncomputable def F:=Aag
theorem rn x:H.u P_ x=F x:=by kernel_rfl
noncomputable def c:Con:=⟨H.p,H.r,F⟩
theorem ok:ConOk P_ gl 102 c:=co H func102 (.cons F155.ok .nil) rn
end F102
namespace F194
noncomputable def H:Hd:=⟨[Sq,Si],[Sz], .d,⟨[],gl,false⟩,[],f194⟩
noncomputable def F:=u2 Bdt
theorem rn x:H.u P_ x=F x:=by kernel_rfl
noncomputable def c:Con:=⟨H.p,H.r,F⟩
theorem ok:ConOk P_ gl 194 c:=co H func194 .nil rn
end F194
namespace F157
abbrev R_:=(LB×Int)
noncomputable def H:Hd:=⟨[Sq,Si],[Ob 5,Si],(.seq .d (.seq .d (.seq .d (.seq .d (.cut [6] [] (.seq .d (.blk (.loop [0,6,21,22] [] .d))) .d))))),⟨[(194,F194.c)],gl,false⟩,[],f157⟩
def t4(f:UInt64)(g:LB)(b:Int)(a:LB):S:=⟨[(0,vq f),(6, .own 0),(21,vi (Ac g)),(22,vi b)],[Ab 5 a],[]⟩
def z4:Nat→S→Option R_:=H.i P_ [r,r,r,r,l,r,d]
def x6(a:LB):Option R_:=H.e P_ [r,r,r,r,r] ⟨[(6, .own 0)],[Ab 5 a],[]⟩
def x4(f:UInt64)(g:LB)(b:Int)(a:LB):Option R_:=H.e P_ [r,r,r,r,l,r,d] (t4 f g b a)
theorem e6:x6=Atr:=by kernel_rfl
theorem i4(f:UInt64)(g:LB):∀(q:Nat) (b:Int) (a:LB),z4 q (t4 f g b a)=Ac0 f g q b a:=
 ind (fun _ _=>by kernel_rfl) fun q ih b a=>Eq.trans (b:=Anp x6 (fun b a=>(z4 q) (t4 f g b a)) f g b a) (by kernel_rfl) (by simp only[e6,ih]<;>rfl)
theorem e4:x4=Auk:=by funext f g b a;exact Eq.trans (by kernel_rfl) ((i4 f g Bi b a).trans (by rw[Al];rfl))
noncomputable def F:=u2 Abk
theorem rn x:H.u P_ x=F x:=Eq.trans (b:=u2 (Ats x4) x) (by kernel_rfl) (by simp only[e4]<;>rfl)
noncomputable def c:Con:=⟨H.p,H.r,F⟩
theorem ok:ConOk P_ gl 157 c:=co H func157 (.cons F194.ok .nil) rn
end F157
namespace F188
abbrev R_:=LB
noncomputable def H:Hd:=⟨[.lf (.list (.list (.int .u8))) none],[Ob 5],(.seq .d (.seq .d (.cut [0,3] [] (.seq .d (.blk (.loop [0,3,9,10,11] [] .d))) (.cut [0,6] [⟨6,[], .own 5 (.int .u8)⟩] (.keep [0,3,6,23,24] true) (.cut [6] [] (.seq .d (.blk (.loop [6,25,26,27] [] .d))) .d))))),⟨[],gl,true⟩,[(229,(.seq .d (.cut [0,1] [] .d .d)))],f188⟩
def t14(a:List LB)(g:Int)(f:LB):S:=⟨[(6, .own 0),(25, .val (.list (.list (.int .u8))) a),(26,vi (Ac a)),(27,vi g)],[Ab 5 f],[]⟩
def z14:Nat→S→Option R_:=H.i P_ [r,r,r,r,l,r,d]
def t9(a:List LB)(b h:Int):S:=⟨[(0, .val (.list (.list (.int .u8))) a),(3,vi b),(9, .val (.list (.list (.int .u8))) a),(10,vi (Ac a)),(11,vi h)],[],[]⟩
def z9:Nat→S→Option R_:=H.i P_ [r,r,l,r,d]
def x16(f:LB):Option R_:=H.e P_ [r,r,r,r,r] ⟨[(6, .own 0)],[Ab 5 f],[]⟩
def x14(a:List LB)(g:Int)(f:LB):Option R_:=H.e P_ [r,r,r,r,l,r,d] (t14 a g f)
def x13(a:List LB)(k:LB):Option R_:=H.e P_ [r,r,r,r] ⟨[(0, .val (.list (.list (.int .u8))) a),(6, .own 0)],[Ab 5 k],[]⟩
def x12(b:Int)(a:List LB):Option R_:=H.e P_ [r,r,r,l,(call 1 229),r,r] ⟨[(0, .nils),(1,vi b)],[],[[(0, .val (.list (.list (.int .u8))) a),(3,vi b),(23,vi b)]]⟩
def x11(a:List LB)(b:Int):Option R_:=H.e P_ [r,r,r] ⟨[(0, .val (.list (.list (.int .u8))) a),(3,vi b)],[],[]⟩
def x9(a:List LB)(b h:Int):Option R_:=H.e P_ [r,r,l,r,d] (t9 a b h)
theorem e16:x16=Xq:=by kernel_rfl
theorem i14(a:List LB):∀(q:Nat) (g:Int) (f:LB),z14 q (t14 a g f)=Mx a q g f:=
 ind (fun _ _=>by kernel_rfl) fun q ih g f=>Eq.trans (b:=Xi x16 (fun g f=>(z14 q) (t14 a g f)) a g f) (by kernel_rfl) (by simp only[e16,ih]<;>rfl)
theorem e14:x14=Xl:=by funext a g f;exact Eq.trans (by kernel_rfl) ((i14 a Bi g f).trans (by rw[Al];rfl))
theorem e13:x13=Xg:=Eq.trans (b:=Xp x14) (by kernel_rfl) (by simp only[e14]<;>rfl)
theorem e12:x12=Xf:=Eq.trans (b:=Xr x13) (by kernel_rfl) (by simp only[e13]<;>rfl)
theorem e11:x11=Xn:=Eq.trans (b:=Xe x12) (by kernel_rfl) (by simp only[e12]<;>rfl)
theorem i9(a:List LB):∀(q:Nat) (b h:Int),z9 q (t9 a b h)=Nm a q b h:=
 ind (fun _ _=>by kernel_rfl) fun q ih b h=>Eq.trans (b:=Ye x11 (fun b h=>(z9 q) (t9 a b h)) a b h) (by kernel_rfl) (by simp only[e11,ih]<;>rfl)
theorem e9:x9=Yz:=by funext a b h;exact Eq.trans (by kernel_rfl) ((i9 a Bi b h).trans (by rw[Al];rfl))
noncomputable def F:=Acn
theorem rn x:H.u P_ x=F x:=Eq.trans (b:=Ya x9 x) (by kernel_rfl) (by simp only[e9]<;>rfl)
noncomputable def c:Con:=⟨H.p,H.r,F⟩
theorem ok:ConOk P_ gl 188 c:=cr H func188 .nil (AnsOk.cons ent229 AnsOk.nil) rn
end F188
namespace F176
abbrev R_:=(LB×Int)
abbrev K_:=S→Option R_
noncomputable def H:Hd:=⟨[.agg [Si,Si], .lf (.vec 16 (.int .i32)) none,Sw],[Ob 5,Si],(.seq .d (.seq .d (.seq .d (.seq .d (.seq .d (.cut [11] [] (.seq .d (.blk (.loop [3,10,11,30,31,32] [⟨11,[0], .own 5 (.int .u8)⟩] (.seq .d (.seq .d (.cut [3,10,11,30,31,32] [] (.blk (.seq .d (.seq .d (.seq .d (.seq .d (.keep [3,10,11,14,30,31,32,59] true)))))) .d)))))) .d)))))),⟨[(102,F102.c),(157,F157.c),(188,F188.c),(211,F211.c),(212,F212.c),(213,F213.c)],gl,false⟩,[(214,(.seq .d (.seq .d (.blk (.loop [0,3,7,8] [] (.seq .d (.seq .d (.seq (.blk (.seq .d (.cut [0,3,4,7,8] [] .d (.seq .d (.cut [0,3,7,8] [] .d .d))))) .d))))))))],f176⟩
def t44(a:LU)(b f h g:Int)(k:List (Int×Int×UInt64×UInt64×Unit))(m:LB)(o n:Int)(v:LB):S:=⟨[(0, .ptr 0 []),(3, .ptr 1 []),(7,vi h),(8,vi o)],[.box 170 (.agg [.own 7,vi n]), .box 170 (.agg [.own 6,vi h]), .box 60 (.agg [vi b,vi f]), .box 226 (.val (.vec 6 (.cons (.int .i64) (.cons (.int .i64) (.cons (.int .u64) (.cons (.int .u64) .nil))))) k), .box 170 (.agg [.own 6,vi h]),Av 154 a,Ab 5 m,Ab 5 v],[[(3, .ptr 2 []),(10, .ptr 3 []),(11, .ptr 0 []),(14, .ptr 4 []),(30, .own 5),(31,vi (Ac a)),(32,vi g),(59, .agg [.own 6,vi h])]]⟩
def z44(kn27:K_):Nat→S→Option R_:=H.i P_ [r,r,r,r,r,l,r,d,(lp kn27),r,r,l,d,r,r,r,r,(call 1 214),r,r,d]
def t27(a:LU)(b f g:Int)(w:List (Int×Int×UInt64×UInt64×Unit))(u:Int)(p:LB):S:=⟨[(3, .ptr 0 []),(10, .ptr 1 []),(11, .ptr 2 []),(30, .own 3),(31,vi (Ac a)),(32,vi g)],[.box 60 (.agg [vi b,vi f]), .box 226 (.val (.vec 6 (.cons (.int .i64) (.cons (.int .i64) (.cons (.int .u64) (.cons (.int .u64) .nil))))) w), .box 170 (.agg [.own 4,vi u]),Av 154 a,Ab 5 p],[]⟩
def z27:Nat→S→Option R_:=H.i P_ [r,r,r,r,r,l,r,d]
def x52(u:Int)(p:LB):Option R_:=H.e P_ [r,r,r,r,r,r] ⟨[(11, .ptr 0 [])],[.box 170 (.agg [.own 1,vi u]),Ab 5 p],[]⟩
def x50(kn27:K_)(a:LU)(b f g:Int)(k:List (Int×Int×UInt64×UInt64×Unit))(n:Int)(v:LB):Option R_:=H.e P_ [r,r,r,r,r,l,r,d,(lp kn27),r,r,r] ⟨[(3, .ptr 0 []),(10, .ptr 1 []),(11, .ptr 2 []),(30, .own 3),(31,vi (Ac a)),(32,vi g)],[.box 60 (.agg [vi b,vi f]), .box 226 (.val (.vec 6 (.cons (.int .i64) (.cons (.int .i64) (.cons (.int .u64) (.cons (.int .u64) .nil))))) k), .box 170 (.agg [.own 4,vi n]),Av 154 a,Ab 5 v],[]⟩
def x48(kn27 kn44:K_)(h:Int)(a:LU)(g b f:Int)(k:List (Int×Int×UInt64×UInt64×Unit))(m:LB)(o n:Int)(aa:LB):Option R_:=H.e P_ [r,r,r,r,r,l,r,d,(lp kn27),r,r,l,d,r,r,r,r,(call 1 214),r,r,d,(lp kn44),r,r,l,d,r,r,r,r] ⟨[(0, .ptr 0 []),(3, .ptr 1 []),(7,vi h),(8,vi o)],[.box 170 (.agg [.own 7,vi n]), .box 170 (.agg [.own 6,vi h]), .box 60 (.agg [vi b,vi f]), .box 226 (.val (.vec 6 (.cons (.int .i64) (.cons (.int .i64) (.cons (.int .u64) (.cons (.int .u64) .nil))))) k), .box 170 (.agg [.own 6,vi h]),Av 154 a,Ab 5 m,Ab 5 aa],[[(3, .ptr 2 []),(10, .ptr 3 []),(11, .ptr 0 []),(14, .ptr 4 []),(30, .own 5),(31,vi (Ac a)),(32,vi g),(59, .agg [.own 6,vi h])]]⟩
def x47(kn27 kn44:K_)(h:Int)(a:LU)(g b f:Int)(k:List (Int×Int×UInt64×UInt64×Unit))(m:LB)(o n:Int)(y:LB):Option R_:=H.e P_ [r,r,r,r,r,l,r,d,(lp kn27),r,r,l,d,r,r,r,r,(call 1 214),r,r,d,(lp kn44),r,r,l,d,r,r] ⟨[(0, .ptr 0 []),(3, .ptr 1 []),(4,vi o),(7,vi h),(8,vi o)],[.box 170 (.agg [.own 7,vi n]), .box 170 (.agg [.own 6,vi h]), .box 60 (.agg [vi b,vi f]), .box 226 (.val (.vec 6 (.cons (.int .i64) (.cons (.int .i64) (.cons (.int .u64) (.cons (.int .u64) .nil))))) k), .box 170 (.agg [.own 6,vi h]),Av 154 a,Ab 5 m,Ab 5 y],[[(3, .ptr 2 []),(10, .ptr 3 []),(11, .ptr 0 []),(14, .ptr 4 []),(30, .own 5),(31,vi (Ac a)),(32,vi g),(59, .agg [.own 6,vi h])]]⟩
def x44(kn27:K_)(a:LU)(b f h g:Int)(k:List (Int×Int×UInt64×UInt64×Unit))(m:LB)(o n:Int)(v:LB):Option R_:=H.e P_ [r,r,r,r,r,l,r,d,(lp kn27),r,r,l,d,r,r,r,r,(call 1 214),r,r,d] (t44 a b f h g k m o n v)
def x27(a:LU)(b f g:Int)(w:List (Int×Int×UInt64×UInt64×Unit))(u:Int)(p:LB):Option R_:=H.e P_ [r,r,r,r,r,l,r,d] (t27 a b f g w u p)
theorem e52:x52=Ala:=by kernel_rfl
theorem e50(kn27:K_)(a:LU)(b f:Int):x50 kn27 a b f=Amd (fun g w u p=>kn27 (t27 a b f g w u p)) a b f:=by kernel_rfl
theorem e48(kn27 kn44:K_)(a:LU)(b f h g:Int)(k:List (Int×Int×UInt64×UInt64×Unit))(m:LB):x48 kn27 kn44 h a g b f k m=Ak2 (fun o n v=>kn44 (t44 a b f h g k m o n v)) h a g b f k m:=by kernel_rfl
theorem e47(kn27 kn44:K_)(a:LU)(b f h g:Int)(k:List (Int×Int×UInt64×UInt64×Unit))(m:LB):x47 kn27 kn44 h a g b f k m=Alw (fun o n v=>kn44 (t44 a b f h g k m o n v)) h a g b f k m:=Eq.trans (b:=Alp (x48 kn27 kn44 h a g b f k m) h a g b f k m) (by kernel_rfl) (by simp only[e48]<;>rfl)
theorem i44(kn27:K_)(a:LU)(b f h g:Int)(k:List (Int×Int×UInt64×UInt64×Unit))(m:LB):∀(q:Nat) (o n:Int) (v:LB),z44 kn27 q (t44 a b f h g k m o n v)=Acf (fun g w u p=>kn27 (t27 a b f g w u p)) a b f h g k m q o n v:=
 ind (fun _ _ _=>by kernel_rfl) fun q ih o n v=>Eq.trans (b:=Aky (x47 kn27 (z44 kn27 q) h a g b f k m) (x50 kn27 a b f) a b f h g k m o n v) (by kernel_rfl) (by simp only[e47,e50,ih]<;>rfl)
theorem e44(kn27:K_)(a:LU)(b f:Int):x44 kn27 a b f=Akv (fun g w u p=>kn27 (t27 a b f g w u p)) a b f:=by funext h g k m o n v;exact Eq.trans (by kernel_rfl) ((i44 kn27 a b f h g k m Bi o n v).trans (by rw[Al];rfl))
theorem i27(a:LU)(b f:Int):∀(q:Nat) (g:Int) (w:List (Int×Int×UInt64×UInt64×Unit)) (u:Int) (p:LB),z27 q (t27 a b f g w u p)=Ab9 a b f q g w u p:=
 ind (fun _ _ _ _=>by kernel_rfl) fun q ih g w u p=>Eq.trans (b:=Ak4 (x44 (z27 q) a b f) x52 a b f g w u p) (by kernel_rfl) (by simp only[e44,e52,ih]<;>rfl)
theorem e27:x27=Amc:=by funext a b f g w u p;exact Eq.trans (by kernel_rfl) ((i27 a b f Bi g w u p).trans (by rw[Al];rfl))
noncomputable def F:=u4 Aeq
theorem rn x:H.u P_ x=F x:=Eq.trans (b:=u4 (Am4 x27) x) (by kernel_rfl) (by simp only[e27]<;>rfl)
noncomputable def c:Con:=⟨H.p,H.r,F⟩
theorem ok:ConOk P_ gl 176 c:=cr H func176 (.cons F102.ok (.cons F157.ok (.cons F188.ok (.cons F211.ok (.cons F212.ok (.cons F213.ok .nil)))))) (AnsOk.cons ent214 AnsOk.nil) rn
end F176
theorem Bgn:ConOk Tryz.prog gl 124 Aoh:=Bet F174.ok F65.ok F107.ok F176.ok F177.ok
namespace F103
abbrev R_:=Bool
noncomputable def H:Hd:=⟨[.agg [Si,Si,Si,Si,Si]],[Sz],(.seq .d (.cut [1] [] .d .d)),⟨[],gl,false⟩,[],f103⟩
def x2(b f a g h:Int):Option R_:=H.e P_ [r,r] ⟨[(1, .ptr 0 [])],[.box 27 (.agg [vi b,vi f,vi a,vi g,vi h])],[]⟩
theorem e2:x2=Nc:=by kernel_rfl
noncomputable def F:=u5 Rb
theorem rn x:H.u P_ x=F x:=Eq.trans (b:=u5 (Zu x2) x) (by kernel_rfl) (by simp only[e2]<;>rfl)
noncomputable def c:Con:=⟨H.p,H.r,F⟩
theorem ok:ConOk P_ gl 103 c:=co H func103 .nil rn
end F103
namespace F104
noncomputable def H:Hd:=⟨[.agg [Si,Si,Si,Si,Si]],[Sz], .d,⟨[(69,F69.c)],gl,false⟩,[],f104⟩
noncomputable def F:=u5 Ah2
theorem rn x:H.u P_ x=F x:=by kernel_rfl
noncomputable def c:Con:=⟨H.p,H.r,F⟩
theorem ok:ConOk P_ gl 104 c:=co H func104 (.cons F69.ok .nil) rn
end F104
namespace F106
noncomputable def H:Hd:=⟨[.agg [Si,Si,Si,Si,Si]],[Si], .d,⟨[(103,F103.c),(104,F104.c)],gl,false⟩,[],f106⟩
noncomputable def F:=u5 Up
theorem rn x:H.u P_ x=F x:=by kernel_rfl
noncomputable def c:Con:=⟨H.p,H.r,F⟩
theorem ok:ConOk P_ gl 106 c:=co H func106 (.cons F103.ok (.cons F104.ok .nil)) rn
end F106
namespace F125
abbrev R_:=(LB×Int)
noncomputable def H:Hd:=⟨[.agg [Si,Si,Si,Si,Si]],[Ob 5,Si],(.seq .d (.seq .d (.seq .d (.cut [5] [] (.seq .d (.blk (.loop [5,31,32] [] .d))) .d)))),⟨[(102,F102.c),(106,F106.c),(157,F157.c)],gl,false⟩,[],f125⟩
def t4(b f g h k m:Int)(a:LB):S:=⟨[(5, .own 0),(31, .val (.vec 5 (.int .i64)) ([b,f,g,h,k]:LI)),(32,vi m)],[Ab 5 a],[]⟩
def z4:Nat→S→Option R_:=H.i P_ [r,r,r,l,r,d]
def x6(a:LB):Option R_:=H.e P_ [r,r,r,r] ⟨[(5, .own 0)],[Ab 5 a],[]⟩
def x4(b f g h k m:Int)(a:LB):Option R_:=H.e P_ [r,r,r,l,r,d] (t4 b f g h k m a)
theorem e6:x6=Arq:=by kernel_rfl
theorem i4(b f g h k:Int):∀(q:Nat) (m:Int) (a:LB),z4 q (t4 b f g h k m a)=Aiv b f g h k q m a:=
 ind (fun _ _=>by kernel_rfl) fun q ih m a=>Eq.trans (b:=Arw x6 (fun m a=>(z4 q) (t4 b f g h k m a)) b f g h k m a) (by kernel_rfl) (by simp only[e6,ih]<;>rfl)
theorem e4:x4=Ar8:=by funext b f g h k m a;exact Eq.trans (by kernel_rfl) ((i4 b f g h k Bi m a).trans (by rw[Al];rfl))
noncomputable def F:=u5 Aym
theorem rn x:H.u P_ x=F x:=Eq.trans (b:=u5 (Arr x4) x) (by kernel_rfl) (by simp only[e4]<;>rfl)
noncomputable def c:Con:=⟨H.p,H.r,F⟩
theorem ok:ConOk P_ gl 125 c:=co H func125 (.cons F102.ok (.cons F106.ok (.cons F157.ok .nil))) rn
end F125
namespace F156
noncomputable def H:Hd:=⟨[Ss],[Sq,Si], .d,⟨[(112,F112.c)],gl,false⟩,[],f156⟩
noncomputable def F:=Bag
theorem rn x:H.u P_ x=F x:=by kernel_rfl
noncomputable def c:Con:=⟨H.p,H.r,F⟩
theorem ok:ConOk P_ gl 156 c:=co H func156 (.cons F112.ok .nil) rn
end F156
namespace F105
noncomputable def H:Hd:=⟨[Ss],[Ob 5,Si], .d,⟨[(156,F156.c),(157,F157.c)],gl,false⟩,[],f105⟩
noncomputable def F:=Aea
theorem rn x:H.u P_ x=F x:=by kernel_rfl
noncomputable def c:Con:=⟨H.p,H.r,F⟩
theorem ok:ConOk P_ gl 105 c:=co H func105 (.cons F156.ok (.cons F157.ok .nil)) rn
end F105
namespace F85
abbrev R_:=Int
noncomputable def H:Hd:=⟨[Sl],[Si],(.seq .d (.seq .d (.seq .d (.cut [] [] (.seq .d (.blk (.loop [3,14,15,16] [] .d))) .d)))),⟨[],gl,false⟩,[],f85⟩
def t4(a:LI)(f b:Int):S:=⟨[(3,vi f),(14,vl a),(15,vi (Ac a)),(16,vi b)],[],[]⟩
def z4:Nat→S→Option R_:=H.i P_ [r,r,r,l,r,d]
def x6:Option R_:=H.e P_ [r,r,r,r] ⟨[],[],[]⟩
def x4(a:LI)(f b:Int):Option R_:=H.e P_ [r,r,r,l,r,d] (t4 a f b)
theorem e6:x6=Ati:=by kernel_rfl
theorem i4(a:LI):∀(q:Nat) (f b:Int),z4 q (t4 a f b)=Sd a q f b:=
 ind (fun _ _=>by kernel_rfl) fun q ih f b=>Eq.trans (b:=Aep x6 (fun f b=>(z4 q) (t4 a f b)) a f b) (by kernel_rfl) (by simp only[e6,ih]<;>rfl)
theorem e4:x4=Ame:=by funext a f b;exact Eq.trans (by kernel_rfl) ((i4 a Bi f b).trans (by rw[Al];rfl))
noncomputable def F:=Qm
theorem rn x:H.u P_ x=F x:=Eq.trans (b:=Aei x4 x) (by kernel_rfl) (by simp only[e4]<;>rfl)
noncomputable def c:Con:=⟨H.p,H.r,F⟩
theorem ok:ConOk P_ gl 85 c:=co H func85 .nil rn
end F85
namespace F126
abbrev R_:=(LB×Int)
abbrev K_:=S→Option R_
noncomputable def H:Hd:=⟨[Sl],[Ob 5,Si],(.seq .d (.seq .d (.seq .d (.seq .d (.cut [5,6] [] (.seq .d (.blk (.loop [5,6,17,18,19] [⟨5,[], .own 5 (.int .u8)⟩,⟨6,[0], .own 5 (.int .u8)⟩] (.seq .d (.seq .d (.cut [5,6,17,18,19] [] (.blk (.seq .d (.keep [5,6,8,17,18,19,23,24,25] true))) .d)))))) (.seq .d (.cut [5] [] (.keep [5,6,9,33,34,35] true) .d))))))),⟨[(85,F85.c),(102,F102.c),(157,F157.c)],gl,false⟩,[(178, .d)],f126⟩
def t8(a:LI)(f:Int)(b:LB):S:=⟨[(5, .ptr 0 []),(6, .fn 178 [.ptr 0 []]),(17,vl a),(18,vi (Ac a)),(19,vi f)],[.box 22 (.own 1),Ab 5 b],[]⟩
def z8:Nat→S→Option R_:=H.i P_ [r,r,r,r,l,r,d]
def x14(g:LB):Option R_:=H.e P_ [r,r,r,r,r,r,r] ⟨[(5, .ptr 0 [])],[.box 22 (.own 1),Ab 5 g],[]⟩
def x13(b:LB):Option R_:=H.e P_ [r,r,r,r,r] ⟨[(5, .ptr 0 []),(6, .fn 178 [.ptr 0 []])],[.box 22 (.own 1),Ab 5 b],[]⟩
def x11(kn8:K_)(a:LI)(f:Int)(h:LB):Option R_:=H.e P_ [r,r,r,r,l,r,d,(lp kn8),r,r,r] ⟨[(5, .ptr 0 []),(6, .fn 178 [.ptr 0 []]),(17,vl a),(18,vi (Ac a)),(19,vi f)],[.box 22 (.own 1),Ab 5 h],[]⟩
def x8(a:LI)(f:Int)(b:LB):Option R_:=H.e P_ [r,r,r,r,l,r,d] (t8 a f b)
theorem e14:x14=Ar2:=by kernel_rfl
theorem e13:x13=Ar5:=Eq.trans (b:=Ar0 x14) (by kernel_rfl) (by simp only[e14]<;>rfl)
theorem e11(kn8:K_)(a:LI):x11 kn8 a=Art (fun f b=>kn8 (t8 a f b)) a:=by kernel_rfl
theorem i8(a:LI):∀(q:Nat) (f:Int) (b:LB),z8 q (t8 a f b)=Ak6 a q f b:=
 ind (fun _ _=>by kernel_rfl) fun q ih f b=>Eq.trans (b:=Atg (x11 (z8 q) a) x13 a f b) (by kernel_rfl) (by simp only[e11,e13,ih]<;>rfl)
theorem e8:x8=Auh:=by funext a f b;exact Eq.trans (by kernel_rfl) ((i8 a Bi f b).trans (by rw[Al];rfl))
noncomputable def F:=Bcb
theorem rn x:H.u P_ x=F x:=Eq.trans (b:=Atl x8 x) (by kernel_rfl) (by simp only[e8]<;>rfl)
noncomputable def c:Con:=⟨H.p,H.r,F⟩
theorem ok:ConOk P_ gl 126 c:=cr H func126 (.cons F85.ok (.cons F102.ok (.cons F157.ok .nil))) (AnsOk.cons ent178 AnsOk.nil) rn
end F126
namespace F128
noncomputable def H:Hd:=⟨[Sb],[Si], .d,⟨[],gl,false⟩,[],f128⟩
noncomputable def F:=Awy
theorem rn x:H.u P_ x=F x:=by kernel_rfl
noncomputable def c:Con:=⟨H.p,H.r,F⟩
theorem ok:ConOk P_ gl 128 c:=co H func128 .nil rn
end F128
namespace F129
abbrev R_:=LB
noncomputable def H:Hd:=⟨[.lf (.list (.list (.int .u8))) none],[Ob 5],(.seq .d (.seq .d (.cut [3] [] (.seq .d (.blk (.loop [3,6,7,8] [⟨3,[], .own 5 (.int .u8)⟩] .d))) .d))),⟨[],gl,false⟩,[],f129⟩
def t4(b:List LB)(f:Int)(a:LB):S:=⟨[(3, .own 0),(6, .val (.list (.list (.int .u8))) b),(7,vi (Ac b)),(8,vi f)],[Ab 5 a],[]⟩
def z4:Nat→S→Option R_:=H.i P_ [r,r,l,r,d]
def x6(a:LB):Option R_:=H.e P_ [r,r,r] ⟨[(3, .own 0)],[Ab 5 a],[]⟩
def x4(b:List LB)(f:Int)(a:LB):Option R_:=H.e P_ [r,r,l,r,d] (t4 b f a)
theorem e6:x6=Au6:=by kernel_rfl
theorem i4(b:List LB):∀(q:Nat) (f:Int) (a:LB),z4 q (t4 b f a)=Ak1 b q f a:=
 ind (fun _ _=>by kernel_rfl) fun q ih f a=>Eq.trans (b:=Atq x6 (fun f a=>(z4 q) (t4 b f a)) b f a) (by kernel_rfl) (by simp only[e6,ih]<;>rfl)
theorem e4:x4=Au1:=by funext b f a;exact Eq.trans (by kernel_rfl) ((i4 b Bi f a).trans (by rw[Al];rfl))
noncomputable def F:=Bb9
theorem rn x:H.u P_ x=F x:=Eq.trans (b:=Ato x4 x) (by kernel_rfl) (by simp only[e4]<;>rfl)
noncomputable def c:Con:=⟨H.p,H.r,F⟩
theorem ok:ConOk P_ gl 129 c:=co H func129 .nil rn
end F129
namespace F78
abbrev R_:=(LB×Int)
abbrev K_:=S→Option R_
noncomputable def H:Hd:=⟨[.agg [Si,Si,Si,Sw],Ss],[Ob 5,Si],(.seq .d (.seq .d (.seq .d (.seq .d (.seq .d (.seq .d (.seq .d (.seq .d (.cut [8,9,10] [⟨10,[], .own 5 (.int .u8)⟩] .d (.cut [7,8,9,10,11] [] (.keep [7,8,9,10,11,46,48,49,50,51] true) .d)))))))))),⟨[(105,F105.c),(123,F123.c),(124,Aoh),(125,F125.c),(126,F126.c),(128,F128.c),(129,F129.c)],gl,false⟩,[(127,(.seq .d (.seq .d (.cut [5] [] (.seq .d (.blk (.loop [1,5,11,12,13] [] (.seq .d (.seq .d (.cut [1,5,11,12,13] [] .d .d)))))) .d))))],f78⟩
def t9(a:List LB)(b f:LB)(g:Int)(h:LI):S:=⟨[(1, .fn 128 []),(5, .own 0),(11, .own 1),(12,vi (Ac a)),(13,vi g)],[Ai 3 h, .arr 22 (.list (.int .u8)) a,Ab 5 b,Ab 5 f],[[(8, .own 1),(9, .own 2),(10, .own 3)]]⟩
def z9:Nat→S→Option R_:=H.i P_ [r,r,r,r,r,r,r,r,r,l,(call 1 127),r,r,l,r,d]
def x14(k:Int)(a:List LB)(b f n:LB):Option R_:=H.e P_ [r,r,r,r,r,r,r,r,r,r] ⟨[(7,vi k),(8, .own 0),(9, .own 1),(10, .own 2),(11, .own 3)],[.arr 22 (.list (.int .u8)) a,Ab 5 b,Ab 5 f,Ab 5 n],[]⟩
def x13(h:LI)(a:List LB)(b f:LB):Option R_:=H.e P_ [r,r,r,r,r,r,r,r,r,l,(call 1 127),r,r,r] ⟨[(5, .own 0)],[Ai 3 h, .arr 22 (.list (.int .u8)) a,Ab 5 b,Ab 5 f],[[(8, .own 1),(9, .own 2),(10, .own 3)]]⟩
def x11(kn9:K_)(a:List LB)(b f:LB)(g:Int)(m:LI):Option R_:=H.e P_ [r,r,r,r,r,r,r,r,r,l,(call 1 127),r,r,l,r,d,(lp kn9),r,r,r] ⟨[(1, .fn 128 []),(5, .own 0),(11, .own 1),(12,vi (Ac a)),(13,vi g)],[Ai 3 m, .arr 22 (.list (.int .u8)) a,Ab 5 b,Ab 5 f],[[(8, .own 1),(9, .own 2),(10, .own 3)]]⟩
def x9(a:List LB)(b f:LB)(g:Int)(h:LI):Option R_:=H.e P_ [r,r,r,r,r,r,r,r,r,l,(call 1 127),r,r,l,r,d] (t9 a b f g h)
def x8(a:List LB)(b f:LB):Option R_:=H.e P_ [r,r,r,r,r,r,r,r,r] ⟨[(8, .own 0),(9, .own 1),(10, .own 2)],[.arr 22 (.list (.int .u8)) a,Ab 5 b,Ab 5 f],[]⟩
theorem e14:x14=Asc:=by kernel_rfl
theorem e13:x13=Ary:=Eq.trans (b:=Ar7 x14) (by kernel_rfl) (by simp only[e14]<;>rfl)
theorem e11(kn9:K_)(a:List LB)(b f:LB):x11 kn9 a b f=Arz (fun g h=>kn9 (t9 a b f g h)) a b f:=by kernel_rfl
theorem i9(a:List LB)(b f:LB):∀(q:Nat) (g:Int) (h:LI),z9 q (t9 a b f g h)=Aks a b f q g h:=
 ind (fun _ _=>by kernel_rfl) fun q ih g h=>Eq.trans (b:=Ata (x11 (z9 q) a b f) x13 a b f g h) (by kernel_rfl) (by simp only[e11,e13,ih]<;>rfl)
theorem e9:x9=Atz:=by funext a b f g h;exact Eq.trans (by kernel_rfl) ((i9 a b f Bi g h).trans (by rw[Al];rfl))
theorem e8:x8=Auq:=Eq.trans (b:=At9 x9) (by kernel_rfl) (by simp only[e9]<;>rfl)
noncomputable def F:=u5 Bcg
theorem rn x:H.u P_ x=F x:=Eq.trans (b:=u5 (Auu x8) x) (by kernel_rfl) (by simp only[e8]<;>rfl)
noncomputable def c:Con:=⟨H.p,H.r,F⟩
theorem ok:ConOk P_ gl 78 c:=cr H func78 (.cons F105.ok (.cons F123.ok (.cons Bgn (.cons F125.ok (.cons F126.ok (.cons F128.ok (.cons F129.ok .nil))))))) (AnsOk.cons ent127 AnsOk.nil) rn
end F78
namespace F34
noncomputable def H:Hd:=⟨[],[Ob 5,Sz], .d,⟨[(78,F78.c)],gl,false⟩,[],f34⟩
noncomputable def F(x:Unit):=Ak7
theorem rn x:H.u P_ x=F x:=by kernel_rfl
noncomputable def c:Con:=⟨H.p,H.r,F⟩
theorem ok:ConOk P_ gl 34 c:=co H func34 (.cons F78.ok .nil) rn
end F34
namespace F11
noncomputable def H:Hd:=⟨[Ss],[.agg [Ss,Ob 5, .agg [Si,Si,Si,Si,Si],Ol 3,Si,Ob 5,Sz,Si],Si], .d,⟨[],gl,false⟩,[],f11⟩
noncomputable def F:=Ahm
theorem rn x:H.u P_ x=F x:=by kernel_rfl
noncomputable def c:Con:=⟨H.p,H.r,F⟩
theorem ok:ConOk P_ gl 11 c:=co H func11 .nil rn
end F11
namespace F42
def Aij(a:LB):Option (LB):=
Bhc a (
some ([]:LB)) (
(Cx ([]:LB) a).bind fun b=>
some b)
theorem Ax8: @Aij= @Kz:=by
  unfold Aij Kz
  repeat (refine funext fun _=>?_)
  repeat' first
    |with_reducible rfl
    |with_reducible refine Hb ?_ ?_
    |with_reducible refine Hf ?_ ?_ ?_
    |with_reducible refine Hg ?_ ?_ ?_ ?_
    |((with_reducible refine Kr ?_ ?_);focus (intro h;first|(subst h;rfl)|(simp only[h];rfl)|(simp[Cx,Ac,h];done)))
    |with_reducible refine Kq fun x=>?_
    |with_reducible refine Rc (fun _=>?_) (fun _=>?_)
    |(refine Di (fun h=>by simp only[h,Kn,Cn,Ci,ite_self]) (fun x h=>?_);(try simp only[h,Cn]))
    |(refine Em (fun h=>?_) (fun h=>?_)<;>simp only[h,if_true,if_false,Bool.false_eq_true])
noncomputable def H:Hd:=⟨[Sb],[Ob 5], .d,⟨[],gl,false⟩,[],f42⟩
noncomputable def F:=Kz
theorem rn x:H.u P_ x=F x:=Eq.trans (b:=Aij x) (by kernel_rfl) (by rw[Ax8];rfl)
noncomputable def c:Con:=⟨H.p,H.r,F⟩
theorem ok:ConOk P_ gl 42 c:=co H func42 .nil rn
end F42
namespace F83
def Ra(a:LI):Option (LI):=
Bhc a (
some ([]:LI)) (
(Cx ([]:LI) a).bind fun b=>
some b)
theorem Ajp: @Ra= @Fl:=by
  unfold Ra Fl
  repeat (refine funext fun _=>?_)
  repeat' first
    |with_reducible rfl
    |with_reducible refine Hb ?_ ?_
    |with_reducible refine Hf ?_ ?_ ?_
    |with_reducible refine Hg ?_ ?_ ?_ ?_
    |((with_reducible refine Kr ?_ ?_);focus (intro h;first|(subst h;rfl)|(simp only[h];rfl)|(simp[Cx,Ac,h];done)))
    |with_reducible refine Kq fun x=>?_
    |with_reducible refine Rc (fun _=>?_) (fun _=>?_)
    |(refine Di (fun h=>by simp only[h,Kn,Cn,Ci,ite_self]) (fun x h=>?_);(try simp only[h,Cn]))
    |(refine Em (fun h=>?_) (fun h=>?_)<;>simp only[h,if_true,if_false,Bool.false_eq_true])
noncomputable def H:Hd:=⟨[Sl],[Ol 3], .d,⟨[],gl,false⟩,[],f83⟩
noncomputable def F:=Fl
theorem rn x:H.u P_ x=F x:=Eq.trans (b:=Ra x) (by kernel_rfl) (by rw[Ajp];rfl)
noncomputable def c:Con:=⟨H.p,H.r,F⟩
theorem ok:ConOk P_ gl 83 c:=co H func83 .nil rn
end F83
namespace F39
noncomputable def H:Hd:=⟨[.agg [Ss,Sb, .agg [Si,Si,Si,Si,Si],Sl,Si,Sb,Sz,Si]],[.agg [Ss,Ob 5, .agg [Si,Si,Si,Si,Si],Ol 3,Si,Ob 5,Sz,Si]], .d,⟨[(42,F42.c),(83,F83.c)],gl,false⟩,[],f39⟩
noncomputable def F:=u12 Dd
theorem rn x:H.u P_ x=F x:=by kernel_rfl
noncomputable def c:Con:=⟨H.p,H.r,F⟩
theorem ok:ConOk P_ gl 39 c:=co H func39 (.cons F42.ok (.cons F83.ok .nil)) rn
end F39
namespace F58
noncomputable def H:Hd:=⟨[.agg [Si,Si,Si,Si,Si]],[Ol 3,Si], .d,⟨[(106,F106.c),(107,F107.c)],gl,false⟩,[],f58⟩
noncomputable def F:=u5 Cy
theorem rn x:H.u P_ x=F x:=by kernel_rfl
noncomputable def c:Con:=⟨H.p,H.r,F⟩
theorem ok:ConOk P_ gl 58 c:=co H func58 (.cons F106.ok (.cons F107.ok .nil)) rn
end F58
namespace F84
noncomputable def H:Hd:=⟨[.agg [Si,Si,Si,Si,Si],Ss],[Si], .d,⟨[],gl,false⟩,[],f84⟩
noncomputable def F:=u6 Nq
theorem rn x:H.u P_ x=F x:=by kernel_rfl
noncomputable def c:Con:=⟨H.p,H.r,F⟩
theorem ok:ConOk P_ gl 84 c:=co H func84 .nil rn
end F84
namespace F43
abbrev R_:=Bool
noncomputable def H:Hd:=⟨[.agg [Ss,Sb, .agg [Si,Si,Si,Si,Si],Sl,Si,Sb,Sz,Si]],[Sz],(.seq .d (.seq .d (.seq .d (.cut [1,3] [] .d (.seq .d (.seq .d (.seq .d (.cut [1,5] [] (.seq .d (.blk (.loop [1,5,83,84,85] [] .d))) .d)))))))),⟨[(58,F58.c),(84,F84.c),(85,F85.c)],gl,false⟩,[],f43⟩
def t6(y:LI)(o p:LB)(h b f k m:Int)(g:LI)(a:Int)(n:LB)(u:Bool)(v w aa:Int):S:=⟨[(1, .ptr 0 []),(5,vi w),(83,vl y),(84,vi (Ac y)),(85,vi aa)],[.box 30 (.agg [vs o,vb p, .agg [vi h,vi b,vi f,vi k,vi m],vl g,vi a,vb n,vt u,vi v])],[]⟩
def z6:Nat→S→Option R_:=H.i P_ [r,r,r,r,r,r,r,l,r,d]
def x8(w:Int)(o p:LB)(h b f k m:Int)(g:LI)(a:Int)(n:LB)(u:Bool)(v:Int):Option R_:=H.e P_ [r,r,r,r,r,r,r,r] ⟨[(1, .ptr 0 []),(5,vi w)],[.box 30 (.agg [vs o,vb p, .agg [vi h,vi b,vi f,vi k,vi m],vl g,vi a,vb n,vt u,vi v])],[]⟩
def x6(y:LI)(o p:LB)(h b f k m:Int)(g:LI)(a:Int)(n:LB)(u:Bool)(v w aa:Int):Option R_:=H.e P_ [r,r,r,r,r,r,r,l,r,d] (t6 y o p h b f k m g a n u v w aa)
def x5(o p:LB)(h b f k m:Int)(g:LI)(a:Int)(n:LB)(u:Bool)(v:Int)(ab:LI):Option R_:=H.e P_ [r,r,r,r] ⟨[(1, .ptr 0 []),(3, .own 1)],[.box 30 (.agg [vs o,vb p, .agg [vi h,vi b,vi f,vi k,vi m],vl g,vi a,vb n,vt u,vi v]),Ai 3 ab],[]⟩
theorem e8:x8=Aik:=by kernel_rfl
theorem i6(y:LI)(o p:LB)(h b f k m:Int)(g:LI)(a:Int)(n:LB)(u:Bool)(v:Int):∀(q:Nat) (w aa:Int),z6 q (t6 y o p h b f k m g a n u v w aa)=Pj y o p h b f k m g a n u v q w aa:=
 ind (fun _ _=>by kernel_rfl) fun q ih w aa=>Eq.trans (b:=Abp x8 (fun w aa=>(z6 q) (t6 y o p h b f k m g a n u v w aa)) y o p h b f k m g a n u v w aa) (by kernel_rfl) (by simp only[e8,ih]<;>rfl)
theorem e6:x6=Aiu:=by funext y o p h b f k m g a n u v w aa;exact Eq.trans (by kernel_rfl) ((i6 y o p h b f k m g a n u v Bi w aa).trans (by rw[Al];rfl))
theorem e5:x5=Ai2:=Eq.trans (b:=Ai3 x6) (by kernel_rfl) (by simp only[e6]<;>rfl)
noncomputable def F:=u12 Zw
theorem rn x:H.u P_ x=F x:=Eq.trans (b:=u12 (Ai6 x5) x) (by kernel_rfl) (by simp only[e5]<;>rfl)
noncomputable def c:Con:=⟨H.p,H.r,F⟩
theorem ok:ConOk P_ gl 43 c:=co H func43 (.cons F58.ok (.cons F84.ok (.cons F85.ok .nil))) rn
end F43
namespace F52
noncomputable def H:Hd:=⟨[Sb,Sb],[Sz], .d,⟨[],gl,false⟩,[],f52⟩
noncomputable def F:=u2 Jh
theorem rn x:H.u P_ x=F x:=by kernel_rfl
noncomputable def c:Con:=⟨H.p,H.r,F⟩
theorem ok:ConOk P_ gl 52 c:=co H func52 .nil rn
end F52
namespace F161
noncomputable def H:Hd:=⟨[Sb,Sb],[Sz], .d,⟨[(52,F52.c)],gl,false⟩,[],f161⟩
noncomputable def F:=u2 Lz
theorem rn x:H.u P_ x=F x:=by kernel_rfl
noncomputable def c:Con:=⟨H.p,H.r,F⟩
theorem ok:ConOk P_ gl 161 c:=co H func161 (.cons F52.ok .nil) rn
end F161
namespace F232
abbrev R_:=(Int×Int)
noncomputable def H:Hd:=⟨[Sb],[Si,Si],(.seq .d (.seq .d (.seq .d (.cut [4] [] (.seq .d (.blk (.loop [4,10,11,12] [] .d))) .d)))),⟨[],gl,false⟩,[],f232⟩
def t4(a:LB)(b f:Int):S:=⟨[(4,vi b),(10,vb a),(11,vi (Ac a)),(12,vi f)],[],[]⟩
def z4:Nat→S→Option R_:=H.i P_ [r,r,r,l,r,d]
def x6(b:Int):Option R_:=H.e P_ [r,r,r,r] ⟨[(4,vi b)],[],[]⟩
def x4(a:LB)(b f:Int):Option R_:=H.e P_ [r,r,r,l,r,d] (t4 a b f)
theorem e6:x6=Apl:=by kernel_rfl
theorem i4(a:LB):∀(q:Nat) (b f:Int),z4 q (t4 a b f)=Nh a q b f:=
 ind (fun _ _=>by kernel_rfl) fun q ih b f=>Eq.trans (b:=Aah x6 (fun b f=>(z4 q) (t4 a b f)) a b f) (by kernel_rfl) (by simp only[e6,ih]<;>rfl)
theorem e4:x4=Agu:=by funext a b f;exact Eq.trans (by kernel_rfl) ((i4 a Bi b f).trans (by rw[Al];rfl))
noncomputable def F:=Ahb
theorem rn x:H.u P_ x=F x:=Eq.trans (b:=Agh x4 x) (by kernel_rfl) (by simp only[e4]<;>rfl)
noncomputable def c:Con:=⟨H.p,H.r,F⟩
theorem ok:ConOk P_ gl 232 c:=co H func232 .nil rn
end F232
namespace F191
def Aga(j5:LB→UInt8→UInt8→Option (Int×Int))(a:LB):Option (Int×Int):=
(Lz a ([(73:UInt8),(68:UInt8),(51:UInt8)]:LB)).bind fun n=>
if(!n)then
some (0,6)
else
if(Cc (Ac a) 10)then
some (0,24)
else
(getI a 3).bind fun f=>
(getI a 5).bind fun b=>
(fun o:Option (Int×Int)=>
(fun p:Option (Int×Int)=>
both (
both (
bo (
j5 a f b)) [
o,
o]) [
bo2 (
bo (
j5 a f b)),
p,
p]) (
both (
o) [
bo (
j5 a f b),
both (
bo (
j5 a f b)) [
j5 a f b]])) (
both (
j5 a f b) [
bo (
j5 a f b)])
theorem Av0: @Aga= @Abr:=by
  unfold Aga Abr
  try simp only[Ah6,Xz,Xx]
  all_goals
    repeat (refine funext fun _=>?_)
    repeat' first
      |with_reducible rfl
      |with_reducible refine Hb ?_ ?_
      |with_reducible refine Hf ?_ ?_ ?_
      |with_reducible refine Hg ?_ ?_ ?_ ?_
      |((with_reducible refine Kr ?_ ?_);focus (intro h;first|(subst h;rfl)|(simp only[h];rfl)|(simp[Cx,Ac,h];done)))
      |with_reducible refine Kq fun x=>?_
      |with_reducible refine Rc (fun _=>?_) (fun _=>?_)
      |(refine Di (fun h=>by simp only[h,Kn,Cn,Ci,ite_self]) (fun x h=>?_);(try simp only[h,Cn]))
      |(refine Em (fun h=>?_) (fun h=>?_)<;>simp only[h,if_true,if_false,Bool.false_eq_true])
abbrev R_:=(Int×Int)
noncomputable def H:Hd:=⟨[Sb],[Si,Si],(.seq .d (.seq .d (.seq .d (.cut [0,4,5] [] (.mode false) (.seq .d (.seq .d (.cut [0,5,6] [] (.cut [0,5,6,43] [] (.keep [0,5,6,7,8,31,32,33,34,35,36,37,38,39,40,41,42,43] true) .d) (.seq .d (.cut [0,5,6] [] .d .d))))))))),⟨[(52,F52.c),(161,F161.c),(232,F232.c)],gl,false⟩,[(233, .d)],f191⟩
def x8(a:LB)(b:UInt8)(h:Int):Option R_:=H.e P_ [r,r,r,r,r,r,r,r,r] ⟨[(0,vb a),(5, .ptr 0 []),(6,vi h)],[.box 5 (vc b)],[]⟩
def x7(a:LB)(g:Int)(b:UInt8):Option R_:=H.e P_ [r,r,r,r,r,r,r] ⟨[(0,vb a),(5, .ptr 0 []),(6,vi g)],[.box 5 (vc b)],[]⟩
def x6(a:LB)(g:Int)(b:UInt8)(m:Bool):Option R_:=H.e P_ [r,r,r,r,r,r,l,r] ⟨[(0,vb a),(5, .ptr 0 []),(6,vi g),(43,vt m)],[.box 5 (vc b)],[]⟩
def x5(a:LB)(f b:UInt8):Option R_:=H.e P_ [r,r,r,r] ⟨[(0,vb a),(4, .ptr 0 []),(5, .ptr 1 [])],[.box 5 (vc f), .box 5 (vc b)],[]⟩
theorem e8:x8=Abl:=by kernel_rfl
theorem e7:x7=Abm:=Eq.trans (b:=Ait x8) (by kernel_rfl) (by simp only[e8]<;>rfl)
theorem e6:x6=Aim:=Eq.trans (b:=Ail x7) (by kernel_rfl) (by simp only[e7]<;>rfl)
theorem e5:x5=Aio:=Eq.trans (b:=Ai0 x6) (by kernel_rfl) (by simp only[e6]<;>rfl)
noncomputable def F:=Aj3
theorem rn x:H.u P_ x=F x:=Eq.trans (b:=Aga x5 x) (by kernel_rfl) (by unfold F;rw[Av0];simp only[e5]<;>rfl)
noncomputable def c:Con:=⟨H.p,H.r,F⟩
theorem ok:ConOk P_ gl 191 c:=cr H func191 (.cons F52.ok (.cons F161.ok (.cons F232.ok .nil))) (AnsOk.cons ent233 AnsOk.nil) rn
end F191
namespace F154
abbrev R_:=(UInt64×Int)
noncomputable def H:Hd:=⟨[Sb],[Sq,Si],(.seq .d (.seq .d (.seq .d (.cut [4] [] (.seq .d (.blk (.loop [4,15,16,17] [] .d))) .d)))),⟨[],gl,false⟩,[],f154⟩
def t4(a:LB)(b:UInt64)(f:Int):S:=⟨[(4,vq b),(15,vb a),(16,vi (Ac a)),(17,vi f)],[],[]⟩
def z4:Nat→S→Option R_:=H.i P_ [r,r,r,l,r,d]
def x6(b:UInt64):Option R_:=H.e P_ [r,r,r,r] ⟨[(4,vq b)],[],[]⟩
def x4(a:LB)(b:UInt64)(f:Int):Option R_:=H.e P_ [r,r,r,l,r,d] (t4 a b f)
theorem e6:x6=Bb4:=by kernel_rfl
theorem i4(a:LB):∀(q:Nat) (b:UInt64) (f:Int),z4 q (t4 a b f)=Ac8 a q b f:=
 ind (fun _ _=>by kernel_rfl) fun q ih b f=>Eq.trans (b:=Amy x6 (fun b f=>(z4 q) (t4 a b f)) a b f) (by kernel_rfl) (by simp only[e6,ih]<;>rfl)
theorem e4:x4=Aue:=by funext a b f;exact Eq.trans (by kernel_rfl) ((i4 a Bi b f).trans (by rw[Al];rfl))
noncomputable def F:=Aur
theorem rn x:H.u P_ x=F x:=Eq.trans (b:=Aua x4 x) (by kernel_rfl) (by simp only[e4]<;>rfl)
noncomputable def c:Con:=⟨H.p,H.r,F⟩
theorem ok:ConOk P_ gl 154 c:=co H func154 .nil rn
end F154
namespace F101
noncomputable def H:Hd:=⟨[Sb,Si,Si],[Sq,Si], .d,⟨[(154,F154.c)],gl,false⟩,[],f101⟩
noncomputable def F:=u3 Apn
theorem rn x:H.u P_ x=F x:=by kernel_rfl
noncomputable def c:Con:=⟨H.p,H.r,F⟩
theorem ok:ConOk P_ gl 101 c:=co H func101 (.cons F154.ok .nil) rn
end F101
namespace F163
abbrev R_:=LB
noncomputable def H:Hd:=⟨[Si,Si,Sq],[Ob 5],(.seq .d (.seq .d (.cut [7] [] (.seq .d (.blk (.loop [7,20,21,22] [] .d))) .d))),⟨[(157,F157.c)],gl,false⟩,[],f163⟩
def t4(a b:Int)(f:UInt64)(h:Int)(g:LB):S:=⟨[(7, .own 0),(20, .own 1),(21,vi (Ac ([(2000:UInt64),(Ad (Ae a (32:Int)):UInt64),(Ad b:UInt64),f,(0:UInt64),(0:UInt64)]:LQ))),(22,vi h)],[Ab 5 g, .arr 87 (.int .u64) ([(2000:UInt64),(Ad (Ae a (32:Int)):UInt64),(Ad b:UInt64),f,(0:UInt64),(0:UInt64)]:LQ)],[]⟩
def z4:Nat→S→Option R_:=H.i P_ [r,r,l,r,d]
def x6(g:LB):Option R_:=H.e P_ [r,r,r] ⟨[(7, .own 0)],[Ab 5 g],[]⟩
def x4(a b:Int)(f:UInt64)(h:Int)(g:LB):Option R_:=H.e P_ [r,r,l,r,d] (t4 a b f h g)
theorem e6:x6=Axk:=by kernel_rfl
theorem i4(a b:Int)(f:UInt64):∀(q:Nat) (h:Int) (g:LB),z4 q (t4 a b f h g)=Abt a b f q h g:=
 ind (fun _ _=>by kernel_rfl) fun q ih h g=>Eq.trans (b:=Aqv x6 (fun h g=>(z4 q) (t4 a b f h g)) a b f h g) (by kernel_rfl) (by simp only[e6,ih]<;>rfl)
theorem e4:x4=Aw6:=by funext a b f h g;exact Eq.trans (by kernel_rfl) ((i4 a b f Bi h g).trans (by rw[Al];rfl))
noncomputable def F:=u3 Avb
theorem rn x:H.u P_ x=F x:=Eq.trans (b:=u3 (Axq x4) x) (by kernel_rfl) (by simp only[e4]<;>rfl)
noncomputable def c:Con:=⟨H.p,H.r,F⟩
theorem ok:ConOk P_ gl 163 c:=co H func163 (.cons F157.ok .nil) rn
end F163
namespace F162
noncomputable def H:Hd:=⟨[Sb,Sq],[.agg [Si,Si],Sz], .d,⟨[(52,F52.c),(101,F101.c),(163,F163.c)],gl,false⟩,[],f162⟩
noncomputable def F:=u2 Aj8
theorem rn x:H.u P_ x=F x:=by kernel_rfl
noncomputable def c:Con:=⟨H.p,H.r,F⟩
theorem ok:ConOk P_ gl 162 c:=co H func162 (.cons F52.ok (.cons F101.ok (.cons F163.ok .nil))) rn
end F162
namespace F192
noncomputable def H:Hd:=⟨[Sb],[Si,Si], .d,⟨[(52,F52.c),(161,F161.c),(162,F162.c),(163,F163.c)],gl,false⟩,[],f192⟩
noncomputable def F:=Avs
theorem rn x:H.u P_ x=F x:=by kernel_rfl
noncomputable def c:Con:=⟨H.p,H.r,F⟩
theorem ok:ConOk P_ gl 192 c:=co H func192 (.cons F52.ok (.cons F161.ok (.cons F162.ok (.cons F163.ok .nil)))) rn
end F192
namespace F152
noncomputable def H:Hd:=⟨[Sb],[Si,Si], .d,⟨[(191,F191.c),(192,F192.c)],gl,false⟩,[],f152⟩
noncomputable def F:=Yk
theorem rn x:H.u P_ x=F x:=by kernel_rfl
noncomputable def c:Con:=⟨H.p,H.r,F⟩
theorem ok:ConOk P_ gl 152 c:=co H func152 (.cons F191.ok (.cons F192.ok .nil)) rn
end F152
theorem Ak8:ConOk Tryz.prog gl 55 Abf:=Bfe ent55 F152.ok
namespace F82
noncomputable def H:Hd:=⟨[Si],[.agg [Sz,Si]], .d,⟨[],gl,false⟩,[],f82⟩
noncomputable def F:=Ag
theorem rn x:H.u P_ x=F x:=by kernel_rfl
noncomputable def c:Con:=⟨H.p,H.r,F⟩
theorem ok:ConOk P_ gl 82 c:=co H func82 .nil rn
end F82
namespace F153
noncomputable def H:Hd:=⟨[Ss,Ss],[Sz], .d,⟨[],gl,false⟩,[],f153⟩
noncomputable def F:=u2 Fy
theorem rn x:H.u P_ x=F x:=by kernel_rfl
noncomputable def c:Con:=⟨H.p,H.r,F⟩
theorem ok:ConOk P_ gl 153 c:=co H func153 .nil rn
end F153
namespace F100
noncomputable def H:Hd:=⟨[Ss,Ss],[Sz], .d,⟨[(153,F153.c)],gl,false⟩,[],f100⟩
noncomputable def F:=u2 Ih
theorem rn x:H.u P_ x=F x:=by kernel_rfl
noncomputable def c:Con:=⟨H.p,H.r,F⟩
theorem ok:ConOk P_ gl 100 c:=co H func100 (.cons F153.ok .nil) rn
end F100
namespace F130
abbrev R_:=Bool
noncomputable def H:Hd:=⟨[Sb],[Sz],(.seq .d (.cut [] [] (.seq .d (.blk (.loop [0,5,6] [] .d))) .d)),⟨[(100,F100.c)],gl,false⟩,[],f130⟩
def t4(a:LB)(b:Int):S:=⟨[(0,vb a),(5, .val (.vec 2 .str) ([([73,68,51]:LB),([65,80,69,84,65,71,69,88]:LB)]:List LB)),(6,vi b)],[],[]⟩
def z4:Nat→S→Option R_:=H.i P_ [r,l,r,d]
def x6:Option R_:=H.e P_ [r,r] ⟨[],[],[]⟩
def x4(a:LB)(b:Int):Option R_:=H.e P_ [r,l,r,d] (t4 a b)
theorem e6:x6=Ar9:=by kernel_rfl
theorem i4(a:LB):∀(q:Nat) (b:Int),z4 q (t4 a b)=Jf a q b:=
 ind (fun _=>by kernel_rfl) fun q ih b=>Eq.trans (b:=Vf x6 (fun b=>(z4 q) (t4 a b)) a b) (by kernel_rfl) (by simp only[e6,ih]<;>rfl)
theorem e4:x4=Ai5:=by funext a b;exact Eq.trans (by kernel_rfl) ((i4 a Bi b).trans (by rw[Al];rfl))
noncomputable def F:=Pq
theorem rn x:H.u P_ x=F x:=Eq.trans (b:=Aix x4 x) (by kernel_rfl) (by simp only[e4]<;>rfl)
noncomputable def c:Con:=⟨H.p,H.r,F⟩
theorem ok:ConOk P_ gl 130 c:=co H func130 (.cons F100.ok .nil) rn
end F130
namespace F56
abbrev R_:=(Int×Int×Int×Int×Int×Int)
noncomputable def H:Hd:=⟨[Sb],[.agg [Si,Si,Si,Si,Si],Si],(.seq .d (.seq .d (.seq .d (.seq .d (.seq .d (.seq .d (.seq .d (.cut [2,8] [] (.seq .d (.blk (.loop [0,2,8,9,44,45] [] .d))) .d)))))))),⟨[(100,F100.c),(101,F101.c),(102,F102.c),(103,F103.c),(104,F104.c)],gl,false⟩,[],f56⟩
def t4(b:LB)(g f:Int)(a:LI):S:=⟨[(0,vb b),(2, .ptr 0 []),(8, .ptr 1 []),(9,vi g),(44, .val (.vec 5 (.int .i64)) ([(2:Int),(2:Int),(2:Int),(4:Int),(4:Int)]:LI)),(45,vi f)],[.box 27 (.agg [vi 0,vi 0,vi 0,vi 0,vi 0]), .box 157 (.val (.vec 5 (.int .i64)) a)],[]⟩
def z4:Nat→S→Option R_:=H.i P_ [r,r,r,r,r,r,r,l,r,d]
def x6(a:LI):Option R_:=H.e P_ [r,r,r,r,r,r,r,r] ⟨[(2, .ptr 0 []),(8, .ptr 1 [])],[.box 27 (.agg [vi 0,vi 0,vi 0,vi 0,vi 0]), .box 157 (.val (.vec 5 (.int .i64)) a)],[]⟩
def x4(b:LB)(g f:Int)(a:LI):Option R_:=H.e P_ [r,r,r,r,r,r,r,l,r,d] (t4 b g f a)
theorem e6:x6=Aez:=by kernel_rfl
theorem i4(b:LB):∀(q:Nat) (g f:Int) (a:LI),z4 q (t4 b g f a)=Ns b q g f a:=
 ind (fun _ _ _=>by kernel_rfl) fun q ih g f a=>Eq.trans (b:=Aeu x6 (fun g f a=>(z4 q) (t4 b g f a)) b g f a) (by kernel_rfl) (by simp only[e6,ih]<;>rfl)
theorem e4:x4=Ads:=by funext b g f a;exact Eq.trans (by kernel_rfl) ((i4 b Bi g f a).trans (by rw[Al];rfl))
noncomputable def F:=Mz
theorem rn x:H.u P_ x=F x:=Eq.trans (b:=Ama x4 x) (by kernel_rfl) (by simp only[e4]<;>rfl)
noncomputable def c:Con:=⟨H.p,H.r,F⟩
theorem ok:ConOk P_ gl 56 c:=co H func56 (.cons F100.ok (.cons F101.ok (.cons F102.ok (.cons F103.ok (.cons F104.ok .nil))))) rn
end F56
namespace F57
noncomputable def H:Hd:=⟨[Sb,Ss],[Sz,Si], .d,⟨[(52,F52.c),(105,F105.c)],gl,false⟩,[],f57⟩
noncomputable def F:=u2 Zy
theorem rn x:H.u P_ x=F x:=by kernel_rfl
noncomputable def c:Con:=⟨H.p,H.r,F⟩
theorem ok:ConOk P_ gl 57 c:=co H func57 (.cons F52.ok (.cons F105.ok .nil)) rn
end F57
namespace F59
abbrev R_:=(LI×Int)
noncomputable def H:Hd:=⟨[Sb,Si],[Ol 3,Si],(.seq .d (.seq .d (.seq .d (.seq .d (.seq .d (.seq .d (.cut [10] [] (.seq .d (.blk (.loop [0,10,48,49] [] .d))) .d))))))),⟨[(85,F85.c),(101,F101.c),(102,F102.c)],gl,false⟩,[],f59⟩
def t4(b:LB)(f:LI)(g:Int)(a:LI):S:=⟨[(0,vb b),(10, .own 0),(48,vi (Ac f)),(49,vi g)],[Ai 3 a],[]⟩
def z4:Nat→S→Option R_:=H.i P_ [r,r,r,r,r,r,l,r,d]
def x6(a:LI):Option R_:=H.e P_ [r,r,r,r,r,r,r] ⟨[(10, .own 0)],[Ai 3 a],[]⟩
def x4(b:LB)(f:LI)(g:Int)(a:LI):Option R_:=H.e P_ [r,r,r,r,r,r,l,r,d] (t4 b f g a)
theorem e6:x6=Ag9:=by kernel_rfl
theorem i4(b:LB)(f:LI):∀(q:Nat) (g:Int) (a:LI),z4 q (t4 b f g a)=Vj b f q g a:=
 ind (fun _ _=>by kernel_rfl) fun q ih g a=>Eq.trans (b:=Ag4 x6 (fun g a=>(z4 q) (t4 b f g a)) b f g a) (by kernel_rfl) (by simp only[e6,ih]<;>rfl)
theorem e4:x4=Aol:=by funext b f g a;exact Eq.trans (by kernel_rfl) ((i4 b f Bi g a).trans (by rw[Al];rfl))
noncomputable def F:=u2 Af2
theorem rn x:H.u P_ x=F x:=Eq.trans (b:=u2 (Aor x4) x) (by kernel_rfl) (by simp only[e4]<;>rfl)
noncomputable def c:Con:=⟨H.p,H.r,F⟩
theorem ok:ConOk P_ gl 59 c:=co H func59 (.cons F85.ok (.cons F101.ok (.cons F102.ok .nil))) rn
end F59
namespace F131
noncomputable def H:Hd:=⟨[.agg [Si,Si,Si,Si,Si]],[.agg [Si,Si]], .d,⟨[],gl,false⟩,[],f131⟩
noncomputable def F:=u5 Abc
theorem rn x:H.u P_ x=F x:=by kernel_rfl
noncomputable def c:Con:=⟨H.p,H.r,F⟩
theorem ok:ConOk P_ gl 131 c:=co H func131 .nil rn
end F131
namespace F115
noncomputable def H:Hd:=⟨[Sb],[Sb,Si], .d,⟨[(102,F102.c),(154,F154.c)],gl,false⟩,[],f115⟩
noncomputable def F:=Ae6
theorem rn x:H.u P_ x=F x:=by kernel_rfl
noncomputable def c:Con:=⟨H.p,H.r,F⟩
theorem ok:ConOk P_ gl 115 c:=co H func115 (.cons F102.ok (.cons F154.ok .nil)) rn
end F115
namespace F116
noncomputable def H:Hd:=⟨[Sb],[.agg [Ob 5,Si],Si], .d,⟨[(150,F150.c)],gl,false⟩,[],f116⟩
noncomputable def F:=Bl4
theorem rn x:H.u P_ x=F x:=by kernel_rfl
noncomputable def c:Con:=⟨H.p,H.r,F⟩
theorem ok:ConOk P_ gl 116 c:=co H func116 (.cons F150.ok .nil) rn
end F116
namespace F169
abbrev R_:=UInt64
noncomputable def H:Hd:=⟨[.agg [Sb,Si],Si,Si],[Sq],(.seq .d (.seq .d (.cut [7] [] (.blk (.loop [1,2,3,7,8] [] .d)) .d))),⟨[],gl,false⟩,[],f169⟩
def t4(b f:Int)(h:LB)(k:Int)(g:UInt64)(a:Int):S:=⟨[(1,vi b),(2,vi f),(3, .ptr 0 []),(7,vq g),(8,vi a)],[.box 170 (.agg [vb h,vi k])],[]⟩
def z4:Nat→S→Option R_:=H.i P_ [r,r,l,d]
def x6(g:UInt64):Option R_:=H.e P_ [r,r,r] ⟨[(7,vq g)],[],[]⟩
def x4(b f:Int)(h:LB)(k:Int)(g:UInt64)(a:Int):Option R_:=H.e P_ [r,r,l,d] (t4 b f h k g a)
theorem e6:x6=Bb1:=by kernel_rfl
theorem i4(b f:Int)(h:LB)(k:Int):∀(q:Nat) (g:UInt64) (a:Int),z4 q (t4 b f h k g a)=Ah5 b f h k q g a:=
 ind (fun _ _=>by kernel_rfl) fun q ih g a=>Eq.trans (b:=Aut x6 (fun g a=>(z4 q) (t4 b f h k g a)) b f h k g a) (by kernel_rfl) (by simp only[e6,ih]<;>rfl)
theorem e4:x4=Bcm:=by funext b f h k g a;exact Eq.trans (by kernel_rfl) ((i4 b f h k Bi g a).trans (by rw[Al];rfl))
noncomputable def F:=u4 Az1
theorem rn x:H.u P_ x=F x:=Eq.trans (b:=u4 (Bcu x4) x) (by kernel_rfl) (by simp only[e4]<;>rfl)
noncomputable def c:Con:=⟨H.p,H.r,F⟩
theorem ok:ConOk P_ gl 169 c:=co H func169 .nil rn
end F169
namespace F166
abbrev R_:=(LB×Int×Int)
abbrev K_:=S→Option R_
noncomputable def H:Hd:=⟨[.agg [Sb,Si],Si,Si],[.agg [Ob 5,Si],Si],(.seq .d (.seq .d (.seq .d (.seq .d (.cut [6,8] [] (.seq .d (.blk (.loop [2,3,6,8,9] [⟨8,[0], .own 5 (.int .u8)⟩] (.seq .d (.cut [2,3,6,8,9] [] (.blk (.seq .d (.keep [2,3,6,8,9,10,39,40,41,42,43] true))) .d))))) .d))))),⟨[(168,F168.c),(169,F169.c)],gl,false⟩,[(199,(.blk (.loop [0,1,2] [] (.seq .d (.blk (.cut [0,1,2] [] .d (.seq .d (.cut [0,1,2,7] [] .d .d))))))))],f166⟩
def t44(a:Int)(g:LB)(f b:Int)(k n:UInt64)(m h:Int)(u:LB):S:=⟨[(0, .ptr 0 []),(1,vq n),(2,vi m)],[.box 170 (.agg [.own 3,vi h]), .box 170 (.agg [vb g,vi f]), .box 170 (.agg [.nils,vi 0]),Ab 5 u],[[(2,vi a),(3, .ptr 1 []),(6, .ptr 2 []),(8, .ptr 0 []),(9,vi b),(10,vi (Eh (64:Int) (Aj a b))),(39, .agg [vb g,vi f]),(40,vi b),(41,vi (Eh (64:Int) (Aj a b))),(42,vq k),(43,vi (Eh (64:Int) (Aj a b)))]]⟩
def z44(kn27:K_):Nat→S→Option R_:=H.i P_ [r,r,r,r,l,r,d,(lp kn27),r,l,d,r,(call 5 199),d]
def t27(a:Int)(g:LB)(f b o:Int)(p:LB):S:=⟨[(2,vi a),(3, .ptr 0 []),(6, .ptr 1 []),(8, .ptr 2 []),(9,vi b)],[.box 170 (.agg [vb g,vi f]), .box 170 (.agg [.nils,vi 0]), .box 170 (.agg [.own 3,vi o]),Ab 5 p],[]⟩
def z27:Nat→S→Option R_:=H.i P_ [r,r,r,r,l,r,d]
def x52(o:Int)(p:LB):Option R_:=H.e P_ [r,r,r,r,r] ⟨[(6, .ptr 0 []),(8, .ptr 1 [])],[.box 170 (.agg [.nils,vi 0]), .box 170 (.agg [.own 2,vi o]),Ab 5 p],[]⟩
def x50(kn27:K_)(a:Int)(g:LB)(f b h:Int)(u:LB):Option R_:=H.e P_ [r,r,r,r,l,r,d,(lp kn27),r,r] ⟨[(2,vi a),(3, .ptr 0 []),(6, .ptr 1 []),(8, .ptr 2 []),(9,vi b)],[.box 170 (.agg [vb g,vi f]), .box 170 (.agg [.nils,vi 0]), .box 170 (.agg [.own 3,vi h]),Ab 5 u],[]⟩
def x48(kn27 kn44:K_)(a b:Int)(g:LB)(f:Int)(k n:UInt64)(m h:Int)(w:LB):Option R_:=H.e P_ [r,r,r,r,l,r,d,(lp kn27),r,l,d,r,(call 5 199),d,(lp kn44),r,d,r,r,r] ⟨[(0, .ptr 0 []),(1,vq n),(2,vi m),(7,vi (Eh m (Aj (8:Int) (Dy h (7:Int)))))],[.box 170 (.agg [.own 3,vi h]), .box 170 (.agg [vb g,vi f]), .box 170 (.agg [.nils,vi 0]),Ab 5 w],[[(2,vi a),(3, .ptr 1 []),(6, .ptr 2 []),(8, .ptr 0 []),(9,vi b),(10,vi (Eh (64:Int) (Aj a b))),(39, .agg [vb g,vi f]),(40,vi b),(41,vi (Eh (64:Int) (Aj a b))),(42,vq k),(43,vi (Eh (64:Int) (Aj a b)))]]⟩
def x47(kn27 kn44:K_)(a b:Int)(g:LB)(f:Int)(k n:UInt64)(m h:Int)(v:LB):Option R_:=H.e P_ [r,r,r,r,l,r,d,(lp kn27),r,l,d,r,(call 5 199),d,(lp kn44),r,d,r] ⟨[(0, .ptr 0 []),(1,vq n),(2,vi m)],[.box 170 (.agg [.own 3,vi h]), .box 170 (.agg [vb g,vi f]), .box 170 (.agg [.nils,vi 0]),Ab 5 v],[[(2,vi a),(3, .ptr 1 []),(6, .ptr 2 []),(8, .ptr 0 []),(9,vi b),(10,vi (Eh (64:Int) (Aj a b))),(39, .agg [vb g,vi f]),(40,vi b),(41,vi (Eh (64:Int) (Aj a b))),(42,vq k),(43,vi (Eh (64:Int) (Aj a b)))]]⟩
def x44(kn27:K_)(a:Int)(g:LB)(f b:Int)(k n:UInt64)(m h:Int)(u:LB):Option R_:=H.e P_ [r,r,r,r,l,r,d,(lp kn27),r,l,d,r,(call 5 199),d] (t44 a g f b k n m h u)
def x27(a:Int)(g:LB)(f b o:Int)(p:LB):Option R_:=H.e P_ [r,r,r,r,l,r,d] (t27 a g f b o p)
theorem e52:x52=Are:=by kernel_rfl
theorem e50(kn27:K_)(a:Int)(g:LB)(f:Int):x50 kn27 a g f=Aj0 (fun b o p=>kn27 (t27 a g f b o p)) a g f:=by kernel_rfl
theorem e48(kn27 kn44:K_)(a:Int)(g:LB)(f b:Int)(k:UInt64):x48 kn27 kn44 a b g f k=Aqp (fun n m h u=>kn44 (t44 a g f b k n m h u)) a b g f k:=by kernel_rfl
theorem e47(kn27 kn44:K_)(a:Int)(g:LB)(f b:Int)(k:UInt64):x47 kn27 kn44 a b g f k=Aju (fun n m h u=>kn44 (t44 a g f b k n m h u)) a b g f k:=Eq.trans (b:=Ard (x48 kn27 kn44 a b g f k) a b g f k) (by kernel_rfl) (by simp only[e48]<;>rfl)
theorem i44(kn27:K_)(a:Int)(g:LB)(f b:Int)(k:UInt64):∀(q:Nat) (n:UInt64) (m h:Int) (u:LB),z44 kn27 q (t44 a g f b k n m h u)=Po (fun b o p=>kn27 (t27 a g f b o p)) a g f b k q n m h u:=
 ind (fun _ _ _ _=>by kernel_rfl) fun q ih n m h u=>Eq.trans (b:=Aj5 (x47 kn27 (z44 kn27 q) a b g f k) (x50 kn27 a g f) a g f b k n m h u) (by kernel_rfl) (by simp only[e47,e50,ih]<;>rfl)
theorem e44(kn27:K_)(a:Int)(g:LB)(f:Int):x44 kn27 a g f=Ara (fun b o p=>kn27 (t27 a g f b o p)) a g f:=by funext b k n m h u;exact Eq.trans (by kernel_rfl) ((i44 kn27 a g f b k Bi n m h u).trans (by rw[Al];rfl))
theorem i27(a:Int)(g:LB)(f:Int):∀(q:Nat) (b o:Int) (p:LB),z27 q (t27 a g f b o p)=Aac a g f q b o p:=
 ind (fun _ _ _=>by kernel_rfl) fun q ih b o p=>Eq.trans (b:=Aqx (x44 (z27 q) a g f) x52 a g f b o p) (by kernel_rfl) (by simp only[e44,e52,ih]<;>rfl)
theorem e27:x27=Aqj:=by funext a g f b o p;exact Eq.trans (by kernel_rfl) ((i27 a g f Bi b o p).trans (by rw[Al];rfl))
noncomputable def F:=u4 Auy
theorem rn x:H.u P_ x=F x:=Eq.trans (b:=u4 (Atk x27) x) (by kernel_rfl) (by simp only[e27]<;>rfl)
noncomputable def c:Con:=⟨H.p,H.r,F⟩
theorem ok:ConOk P_ gl 166 c:=cr H func166 (.cons F168.ok (.cons F169.ok .nil)) (AnsOk.cons ent199 AnsOk.nil) rn
end F166
namespace F118
noncomputable def H:Hd:=⟨[.agg [Sb,Si],Si,Si],[Sq,Si], .d,⟨[(168,F168.c),(169,F169.c)],gl,false⟩,[],f118⟩
noncomputable def F:=u4 Aex
theorem rn x:H.u P_ x=F x:=by kernel_rfl
noncomputable def c:Con:=⟨H.p,H.r,F⟩
theorem ok:ConOk P_ gl 118 c:=co H func118 (.cons F168.ok (.cons F169.ok .nil)) rn
end F118
namespace F270
noncomputable def H:Hd:=⟨[Sq],[Si], .d,⟨[],gl,false⟩,[],f270⟩
noncomputable def F:=Ge
theorem rn x:H.u P_ x=F x:=by kernel_rfl
noncomputable def c:Con:=⟨H.p,H.r,F⟩
theorem ok:ConOk P_ gl 270 c:=co H func270 .nil rn
end F270
namespace F237
def Al3(j6:Int→UInt64→Int→LB→Int→Option (Int×Int×Int))(g:LB)(b a:Int):Option (Int×Int×Int):=
(Km g b).bind fun m=>
if(Ay m 0)then
some (0,0,m)
else
if(Cc a 0)then
some (0,0,2)
else
if(Ni a b)then
some (0,0,24)
else
(fun n:Option (Int×Int×Int)=>
(fun o:Option (Int×Int×Int)=>
bo2 (
o)) (
bo (
n))) (
(Aex g b a (Eh 48 (Aj b a))).bind fun(k,h)=>
j6 h k a g b)
theorem Azu: @Al3= @Aa6:=by
  unfold Al3 Aa6
  simp only[Ah6,Xz,Xx]
abbrev R_:=(Int×Int×Int)
noncomputable def H:Hd:=⟨[.agg [Sb,Si],Si],[Si,Si,Si],(.seq .d (.seq .d (.seq .d (.seq .d (.seq .d (.cut [3,5,6,8,9] [] (.keep [2,3,5,6,8,9,22,23,24,25,26,27,28,29] false) (.seq .d (.seq .d (.cut [] [] (.blk (.seq (.blk (.seq (.blk (.cut [] [] (.cut [3,4,5] [] (.cut [3,4,5,36] [] (.keep [3,4,5,8,36,37,38,39,40] true) .d) .d) .d)) .d)) .d)) .d))))))))),⟨[(118,F118.c),(168,F168.c),(270,F270.c)],gl,false⟩,[(269, .d)],f237⟩
def x10:Option R_:=H.e P_ [r,r,r,r,r,r,r,r,r] ⟨[],[],[]⟩
def x9:Option R_:=H.e P_ [r,r,r,r,r,r,r,r,l,d,l,d,l,d,r] ⟨[],[],[]⟩
def x8(f a:Int):Option R_:=H.e P_ [r,r,r,r,r,r,r,r,l,d,l,d,l,d,l,r] ⟨[(3, .ptr 0 []),(4,vi f),(5,vi 0)],[.box 3 (vi a)],[]⟩
def x7(f b a:Int):Option R_:=H.e P_ [r,r,r,r,r,r,r,r,l,d,l,d,l,d,l,l,r] ⟨[(3, .ptr 0 []),(4,vi f),(5,vi 0),(36,vt (Cc f (Eh (48:Int) (Aj b a))))],[.box 3 (vi a)],[]⟩
def x6(h:Int)(k:UInt64)(a:Int)(g:LB)(b:Int):Option R_:=H.e P_ [r,r,r,r,r,r] ⟨[(3, .ptr 0 []),(5,vi 0),(6,vi h),(8, .fn 269 [.ptr 1 [], .ptr 0 []]),(9,vq k)],[.box 3 (vi a), .box 170 (.agg [vb g,vi b])],[]⟩
theorem e10:x10=At2:=by kernel_rfl
theorem e9:x9=Av9:=Eq.trans (b:=Awe x10) (by kernel_rfl) (by simp only[e10]<;>rfl)
theorem e8:x8=An7:=Eq.trans (b:=Aoj x9) (by kernel_rfl) (by simp only[e9]<;>rfl)
theorem e7:x7=An3:=Eq.trans (b:=An8 x8) (by kernel_rfl) (by simp only[e8]<;>rfl)
theorem e6:x6=Aop:=Eq.trans (b:=Anx x7) (by kernel_rfl) (by simp only[e7]<;>rfl)
noncomputable def F:=u3 Agd
theorem rn x:H.u P_ x=F x:=Eq.trans (b:=u3 (Al3 x6) x) (by kernel_rfl) (by unfold F;rw[Azu];simp only[e6]<;>rfl)
noncomputable def c:Con:=⟨H.p,H.r,F⟩
theorem ok:ConOk P_ gl 237 c:=cr H func237 (.cons F118.ok (.cons F168.ok (.cons F270.ok .nil))) (AnsOk.cons ent269 AnsOk.nil) rn
end F237
namespace F201
abbrev R_:=(UInt32×Int×Int)
noncomputable def H:Hd:=⟨[.agg [Sb,Si],Si,Si],[Su,Si,Si],(.seq .d (.seq .d (.seq .d (.seq .d (.seq .d (.seq .d (.cut [2,3,7,10,11] [] .d .d))))))),⟨[(118,F118.c),(168,F168.c),(237,F237.c),(238,F238.c)],gl,false⟩,[],f201⟩
def x2(a b f:Int)(g:LB)(h k:Int):Option R_:=H.e P_ [r,r,r,r,r,r,r] ⟨[(2,vi a),(3, .ptr 0 []),(7,vi b),(10,vi f),(11,vi k)],[.box 170 (.agg [vb g,vi h])],[]⟩
theorem e2:x2=Ajv:=by kernel_rfl
noncomputable def F:=u4 Ava
theorem rn x:H.u P_ x=F x:=Eq.trans (b:=u4 (Ap9 x2) x) (by kernel_rfl) (by simp only[e2]<;>rfl)
noncomputable def c:Con:=⟨H.p,H.r,F⟩
theorem ok:ConOk P_ gl 201 c:=co H func201 (.cons F118.ok (.cons F168.ok (.cons F237.ok (.cons F238.ok .nil)))) rn
end F201
namespace F167
abbrev R_:=(UInt32×Int×Int×Int×UInt64×UInt64×Int)
noncomputable def H:Hd:=⟨[.agg [Sb,Si],Si, .agg [Si,Si,Sq,Sq]],[Su,Si, .agg [Si,Si,Sq,Sq],Si],(.seq .d (.cut [1,3,5,8] [] .d (.seq .d (.seq .d (.cut [5,6,7,8] [] .d (.cut [5,6,7,8] [] (.keep [5,6,7,8,81] true) .d)))))),⟨[(118,F118.c),(168,F168.c),(200,F200.c),(201,F201.c),(240,F240.c)],gl,false⟩,[(202,(.seq .d (.seq .d (.seq .d (.blk (.cut [0,1,4] [] (.blk (.seq .d (.keep [0,1,4,6,18,19,20,21,22,23,24,25] true))) (.cut [] [] (.keep [0,1,4,27,28,29,30,31,32,33,34] true) .d))))))),(239, .d)],f167⟩
def x10(f:UInt32)(k w m:Int)(a n:UInt64):Option R_:=H.e P_ [r,r,r,r,r,r] ⟨[(5, .ptr 0 []),(6,vu f),(7,vi k),(8, .ptr 1 [])],[.box 225 (.agg [vi w,vi m,vq (Ae a (Aj (Ad f:UInt64) (Ca a (GI.toZ (4:UInt64)).toNat))),vq n]), .box 225 (.agg [vi 0,vi 0,vq 0,vq 0])],[]⟩
def x9(f:UInt32)(k m:Int)(a n:UInt64)(w:Int):Option R_:=H.e P_ [r,r,r,r,r,l,(call 1 202),r,r,r,d,r,r] ⟨[],[.box 225 (.agg [vi w,vi m,vq (Ae a (Aj (Ad f:UInt64) (Ca a (GI.toZ (4:UInt64)).toNat))),vq n]), .box 225 (.agg [vi 0,vi 0,vq 0,vq 0])],[[(5, .ptr 0 []),(6,vu f),(7,vi k),(8, .ptr 1 []),(81,vu f)]]⟩
def x8(f:UInt32)(k b:Int)(a:UInt64)(m:Int)(n:UInt64):Option R_:=H.e P_ [r,r,r,r,r,l,(call 1 202),r,r,r,d,r] ⟨[(0, .ptr 0 []),(1,vu f),(4, .fn 239 [])],[.box 225 (.agg [vi b,vi m,vq a,vq n]), .box 225 (.agg [vi 0,vi 0,vq 0,vq 0])],[[(5, .ptr 0 []),(6,vu f),(7,vi k),(8, .ptr 1 []),(81,vu f)]]⟩
def x7(b h:Int)(a g:UInt64)(f:UInt32)(k:Int):Option R_:=H.e P_ [r,r,r,r,r] ⟨[(5, .ptr 0 []),(6,vu f),(7,vi k),(8, .ptr 1 [])],[.box 225 (.agg [vi b,vi h,vq a,vq g]), .box 225 (.agg [vi 0,vi 0,vq 0,vq 0])],[]⟩
def x6(p:Int)(u:LB)(v b h:Int)(a g:UInt64):Option R_:=H.e P_ [r,r] ⟨[(1,vi p),(3, .ptr 0 []),(5, .ptr 1 []),(8, .ptr 2 [])],[.box 170 (.agg [vb u,vi v]), .box 225 (.agg [vi b,vi h,vq a,vq g]), .box 225 (.agg [vi 0,vi 0,vq 0,vq 0])],[]⟩
theorem e10:x10=Aoa:=by kernel_rfl
theorem e9:x9=Ap4:=Eq.trans (b:=Aq6 x10) (by kernel_rfl) (by simp only[e10]<;>rfl)
theorem e8:x8=Adg:=Eq.trans (b:=Arc x9) (by kernel_rfl) (by simp only[e9]<;>rfl)
theorem e7:x7=Aj4:=Eq.trans (b:=Aqy x8) (by kernel_rfl) (by simp only[e8]<;>rfl)
theorem e6:x6=Aq1:=Eq.trans (b:=Aqc x7) (by kernel_rfl) (by simp only[e7]<;>rfl)
noncomputable def F:=u7 Agj
theorem rn x:H.u P_ x=F x:=Eq.trans (b:=u7 (Arn x6) x) (by kernel_rfl) (by simp only[e6]<;>rfl)
noncomputable def c:Con:=⟨H.p,H.r,F⟩
theorem ok:ConOk P_ gl 167 c:=cr H func167 (.cons F118.ok (.cons F168.ok (.cons F200.ok (.cons F201.ok (.cons F240.ok .nil))))) (AnsOk.cons ent202 (AnsOk.cons ent239 AnsOk.nil)) rn
end F167
namespace F117
def Aax(j21:Int→Int→Int→UInt32→Int→(List (Int×Int×UInt64×UInt64×Unit))→LU→Int→Int→UInt64→UInt64→Option (LU×Int×Int))(j24:Int→LU→Option (LU×Int×Int))(a f:Int)(g:LB)(b k h:Int)(n:List (Int×Int×UInt64×UInt64×Unit))(m:LU):Option (LU×Int×Int):=
if(Cc h (Bj f a))then
(Auy g b k (Eh (Ae k 81) b)).bind fun(ah,ae,af)=>
if(Ay af 0)then
some (([]:LU),0,af)
else
(Kj (Ay a 0)).bind fun _=>
(getI n (Ho h a)).bind fun _=>
(fun ai:Option (LU×Int×Int)=>
both (
both (
(getI n (Ho h a)).bind fun p=>
(fun ao:Option (LU×Int×Int)=>
bo (
ao)) (
(Agj ah ae 0 p.1 p.2.1 p.2.2.1 p.2.2.2.1).bind fun(w,v,aa,ab,ac,ad,y)=>
j21 k h y w v n m aa ab ac ad)) [
ai]) [
(getI n (Ho h a)).bind fun p=>
(fun aj:Option (LU×Int×Int)=>
both (
bo (
aj)) [
aj]) (
(Agj ah ae 0 p.1 p.2.1 p.2.2.1 p.2.2.2.1).bind fun(w,v,aa,ab,ac,ad,y)=>
j21 k h y w v n m aa ab ac ad),
bo (
ai)]) (
(getI n (Ho h a)).bind fun p=>
(Agj ah ae 0 p.1 p.2.1 p.2.2.1 p.2.2.2.1).bind fun(w,v,aa,ab,ac,ad,y)=>
j21 k h y w v n m aa ab ac ad)
else
j24 k m
theorem Aqi: @Aax= @Uk:=by
  unfold Aax Uk
  try simp only[Ah6,Xz,Xx]
  all_goals
    repeat (refine funext fun _=>?_)
    repeat' first
      |with_reducible rfl
      |with_reducible refine Hb ?_ ?_
      |with_reducible refine Hf ?_ ?_ ?_
      |with_reducible refine Hg ?_ ?_ ?_ ?_
      |((with_reducible refine Kr ?_ ?_);focus (intro h;first|(subst h;rfl)|(simp only[h];rfl)|(simp[Cx,Ac,h];done)))
      |with_reducible refine Kq fun x=>?_
      |with_reducible refine Rc (fun _=>?_) (fun _=>?_)
      |(refine Di (fun h=>by simp only[h,Kn,Cn,Ci,ite_self]) (fun x h=>?_);(try simp only[h,Cn]))
      |(refine Em (fun h=>?_) (fun h=>?_)<;>simp only[h,if_true,if_false,Bool.false_eq_true])
abbrev R_:=(LU×Int×Int)
abbrev K_:=S→Option R_
noncomputable def H:Hd:=⟨[Si,Si, .agg [Sb,Si]],[Ov 154,Si,Si],(.seq .d (.seq .d (.cut [0,1,5,9] [] (.seq .d (.blk (.loop [0,1,5,9,19] [] .d))) (.seq .d (.seq .d (.cut [11,12] [] (.seq .d (.blk (.loop [0,5,9,11,12,28,29] [⟨11,[], .own 154 (.int .u32)⟩] (.seq .d (.seq .d (.seq (.blk (.seq .d (.seq .d (.seq .d (.cut [0,5,9,11,12,13,15,16,17,18,28,29] [] (.mode false) (.seq .d (.cut [0,5,9,11,12,16,28,29] [] .d .d))))))) .d)))))) .d)))))),⟨[(165,F165.c),(166,F166.c),(167,F167.c)],gl,false⟩,[],f117⟩
def t16(a f:Int)(g:LB)(b k h:Int)(n:List (Int×Int×UInt64×UInt64×Unit))(m:LU):S:=⟨[(0,vi a),(5, .ptr 0 []),(9, .ptr 1 []),(11, .own 2),(12,vi k),(28,vi (Bj f a)),(29,vi h)],[.box 170 (.agg [vb g,vi b]), .box 226 (.val (.vec 6 (.cons (.int .i64) (.cons (.int .i64) (.cons (.int .u64) (.cons (.int .u64) .nil))))) n),Av 154 m],[]⟩
def z16:Nat→S→Option R_:=H.i P_ [r,r,r,r,r,l,r,d]
def t13(a f:Int)(g:LB)(b u:Int)(o:List (Int×Int×UInt64×UInt64×Unit)):S:=⟨[(0,vi a),(1,vi f),(5, .ptr 0 []),(9, .ptr 1 []),(19,vi u)],[.box 170 (.agg [vb g,vi b]), .box 226 (.val (.vec 6 (.cons (.int .i64) (.cons (.int .i64) (.cons (.int .u64) (.cons (.int .u64) .nil))))) o)],[]⟩
def z13:Nat→S→Option R_:=H.i P_ [r,r,l,r,d]
def x24(k:Int)(m:LU):Option R_:=H.e P_ [r,r,r,r,r,r] ⟨[(11, .own 0),(12,vi k)],[Av 154 m],[]⟩
def x22(kn16:K_)(a f:Int)(g:LB)(b k v:Int)(w:UInt32)(h:Int)(ag:List (Int×Int×UInt64×UInt64×Unit))(m:LU):Option R_:=H.e P_ [r,r,r,r,r,l,r,d,(lp kn16),r,r,l,d,r,r,r,r,r,r] ⟨[(0,vi a),(5, .ptr 0 []),(9, .ptr 1 []),(11, .own 2),(12,vi (Ae k v)),(16,vu w),(28,vi (Bj f a)),(29,vi h)],[.box 170 (.agg [vb g,vi b]), .box 226 (.val (.vec 6 (.cons (.int .i64) (.cons (.int .i64) (.cons (.int .u64) (.cons (.int .u64) .nil))))) ag),Av 154 m],[]⟩
def x21(kn16:K_)(a f:Int)(g:LB)(b k h y:Int)(w:UInt32)(v:Int)(n:List (Int×Int×UInt64×UInt64×Unit))(m:LU)(aa ab:Int)(ac ad:UInt64):Option R_:=H.e P_ [r,r,r,r,r,l,r,d,(lp kn16),r,r,l,d,r,r,r,r] ⟨[(0,vi a),(5, .ptr 0 []),(9, .ptr 1 []),(11, .own 2),(12,vi k),(13,vi h),(15,vi y),(16,vu w),(17,vi v),(18, .ptr 3 []),(28,vi (Bj f a)),(29,vi h)],[.box 170 (.agg [vb g,vi b]), .box 226 (.val (.vec 6 (.cons (.int .i64) (.cons (.int .i64) (.cons (.int .u64) (.cons (.int .u64) .nil))))) n),Av 154 m, .box 225 (.agg [vi aa,vi ab,vq ac,vq ad])],[]⟩
def x16(a f:Int)(g:LB)(b k h:Int)(n:List (Int×Int×UInt64×UInt64×Unit))(m:LU):Option R_:=H.e P_ [r,r,r,r,r,l,r,d] (t16 a f g b k h n m)
def x15(a f:Int)(g:LB)(b:Int)(o:List (Int×Int×UInt64×UInt64×Unit)):Option R_:=H.e P_ [r,r,r] ⟨[(0,vi a),(1,vi f),(5, .ptr 0 []),(9, .ptr 1 [])],[.box 170 (.agg [vb g,vi b]), .box 226 (.val (.vec 6 (.cons (.int .i64) (.cons (.int .i64) (.cons (.int .u64) (.cons (.int .u64) .nil))))) o)],[]⟩
def x13(a f:Int)(g:LB)(b u:Int)(o:List (Int×Int×UInt64×UInt64×Unit)):Option R_:=H.e P_ [r,r,l,r,d] (t13 a f g b u o)
theorem e24:x24=Alh:=by kernel_rfl
theorem e22(kn16:K_)(a f:Int)(g:LB)(b:Int):x22 kn16 a f g b=Ach (fun k h n m=>kn16 (t16 a f g b k h n m)) a f g b:=by kernel_rfl
theorem e21(kn16:K_)(a f:Int)(g:LB)(b:Int):x21 kn16 a f g b=Tt (fun k h n m=>kn16 (t16 a f g b k h n m)) a f g b:=Eq.trans (b:=Tu (x22 kn16 a f g b) a f g b) (by kernel_rfl) (by simp only[e22]<;>rfl)
theorem i16(a f:Int)(g:LB)(b:Int):∀(q:Nat) (k h:Int) (n:List (Int×Int×UInt64×UInt64×Unit)) (m:LU),z16 q (t16 a f g b k h n m)=Nl a f g b q k h n m:=
 ind (fun _ _ _ _=>by kernel_rfl) fun q ih k h n m=>Eq.trans (b:=Aax (x21 (z16 q) a f g b) x24 a f g b k h n m) (by kernel_rfl) (by rw[Aqi];simp only[e21,e24,ih]<;>rfl)
theorem e16:x16=Akl:=by funext a f g b k h n m;exact Eq.trans (by kernel_rfl) ((i16 a f g b Bi k h n m).trans (by rw[Al];rfl))
theorem e15:x15=Acg:=Eq.trans (b:=Ako x16) (by kernel_rfl) (by simp only[e16]<;>rfl)
theorem i13(a f:Int)(g:LB)(b:Int):∀(q:Nat) (u:Int) (o:List (Int×Int×UInt64×UInt64×Unit)),z13 q (t13 a f g b u o)=Abx a f g b q u o:=
 ind (fun _ _=>by kernel_rfl) fun q ih u o=>Eq.trans (b:=Alf x15 (fun u o=>(z13 q) (t13 a f g b u o)) a f g b u o) (by kernel_rfl) (by simp only[e15,ih]<;>rfl)
theorem e13:x13=Uh:=by funext a f g b u o;exact Eq.trans (by kernel_rfl) ((i13 a f g b Bi u o).trans (by rw[Al];rfl))
noncomputable def F:=u4 Afd
theorem rn x:H.u P_ x=F x:=Eq.trans (b:=u4 (Ae5 x13) x) (by kernel_rfl) (by simp only[e13]<;>rfl)
noncomputable def c:Con:=⟨H.p,H.r,F⟩
theorem ok:ConOk P_ gl 117 c:=co H func117 (.cons F165.ok (.cons F166.ok (.cons F167.ok .nil))) rn
end F117
namespace F172
noncomputable def H:Hd:=⟨[Su],[Sx], .d,⟨[],gl,false⟩,[],f172⟩
noncomputable def F:=Zz
theorem rn x:H.u P_ x=F x:=by kernel_rfl
noncomputable def c:Con:=⟨H.p,H.r,F⟩
theorem ok:ConOk P_ gl 172 c:=co H func172 .nil rn
end F172
namespace F206
noncomputable def H:Hd:=⟨[.agg [Si, .lf (.vec 16 (.int .i32)) none, .lf (.vec 16 (.int .i32)) none],Sx],[Sx, .agg [Si, .lf (.vec 16 (.int .i32)) none, .lf (.vec 16 (.int .i32)) none],Si], .d,⟨[(243,F243.c),(244,F244.c)],gl,false⟩,[],f206⟩
noncomputable def F:=u4 Atn
theorem rn x:H.u P_ x=F x:=by kernel_rfl
noncomputable def c:Con:=⟨H.p,H.r,F⟩
theorem ok:ConOk P_ gl 206 c:=co H func206 (.cons F243.ok (.cons F244.ok .nil)) rn
end F206
namespace F171
def Al2(a:Int)(b:Int32)(f:Int)(g h:LX)(o:Int32):Option (Int32×Int×Int32×Int×LX×LX×Int):=
(Zi a b f g h).bind fun k=>
if(Ay k 0)then
some (0,0,0,0,(List.replicate 16 (0:Int32)),(List.replicate 16 (0:Int32)),k)
else
(Yf a b).bind fun(m,y)=>
(Atn f g h o).bind fun(n,p,u,v,w)=>
(fun aa:Option (Int32×Int×Int32×Int×LX×LX×Int)=>
bo (
aa)) (
some ((Ae n m),a,(Ae n m),p,u,v,w))
theorem Azq: @Al2= @Ly:=by
  unfold Al2 Ly
  simp only[Ah6,Xz,Xx]
noncomputable def H:Hd:=⟨[.agg [Si,Sx, .agg [Si, .lf (.vec 16 (.int .i32)) none, .lf (.vec 16 (.int .i32)) none]],Sx],[Sx, .agg [Si,Sx, .agg [Si, .lf (.vec 16 (.int .i32)) none, .lf (.vec 16 (.int .i32)) none]],Si],(.seq .d (.seq .d (.seq .d (.seq .d (.seq (.mode false) .d))))),⟨[(204,F204.c),(205,F205.c),(206,F206.c)],gl,false⟩,[],f171⟩
noncomputable def F:=u6 Ly
theorem rn x:H.u P_ x=F x:=Eq.trans (b:=u6 Al2 x) (by kernel_rfl) (by rw[Azq];rfl)
noncomputable def c:Con:=⟨H.p,H.r,F⟩
theorem ok:ConOk P_ gl 171 c:=co H func171 (.cons F204.ok (.cons F205.ok (.cons F206.ok .nil))) rn
end F171
namespace F173
abbrev R_:=(LX×Int)
abbrev K_:=S→Option R_
noncomputable def H:Hd:=⟨[Si,Sw],[Ow 21,Si],(.seq .d (.seq .d (.seq .d (.cut [7] [] (.seq .d (.blk (.loop [0,7,8] [] (.seq .d (.cut [0,7,8] [] (.blk (.keep [0,7,8,24,25,26,27,28,29] true)) .d))))) .d)))),⟨[(190,F190.c),(207,F207.c)],gl,true⟩,[(208,(.seq .d (.cut [0,2] [] .d (.seq .d (.blk (.loop [0,3] [] .d))))))],f173⟩
def t18(b a g:Int)(h:LX):S:=⟨[(0, .view true 0 [] (.int .i32) a ((Ae a b)-a)),(3,vi g)],[Aw 21 h],[[(0,vi b),(7, .own 0),(8,vi a),(24, .own 0),(25,vi a),(26,vi a),(27,vi b),(28,vi (Ae a b)),(29, .view true 0 [] (.int .i32) a ((Ae a b)-a))]]⟩
def z18(kn12:K_):Nat→S→Option R_:=H.i P_ [r,r,r,l,r,d,(lp kn12),r,l,d,(call 6 208),r,r,r,d]
def t12(b a:Int)(f:LX):S:=⟨[(0,vi b),(7, .own 0),(8,vi a)],[Aw 21 f],[]⟩
def z12:Nat→S→Option R_:=H.i P_ [r,r,r,l,r,d]
def x22(f:LX):Option R_:=H.e P_ [r,r,r,r] ⟨[(7, .own 0)],[Aw 21 f],[]⟩
def x20(kn12:K_)(b a:Int)(h:LX):Option R_:=H.e P_ [r,r,r,l,r,d,(lp kn12),r,r] ⟨[(0,vi b),(7, .own 0),(8,vi a)],[Aw 21 h],[]⟩
def x18(kn12:K_)(b a g:Int)(h:LX):Option R_:=H.e P_ [r,r,r,l,r,d,(lp kn12),r,l,d,(call 6 208),r,r,r,d] (t18 b a g h)
def x17(kn12:K_)(b a:Int)(k:LX):Option R_:=H.e P_ [r,r,r,l,r,d,(lp kn12),r,l,d,(call 6 208),r,r] ⟨[(0, .view true 0 [] (.int .i32) a ((Ae a b)-a)),(2,vi (Aj ((Ae a b)-a) (1:Int)))],[Aw 21 k],[[(0,vi b),(7, .own 0),(8,vi a),(24, .own 0),(25,vi a),(26,vi a),(27,vi b),(28,vi (Ae a b)),(29, .view true 0 [] (.int .i32) a ((Ae a b)-a))]]⟩
def x12(b a:Int)(f:LX):Option R_:=H.e P_ [r,r,r,l,r,d] (t12 b a f)
theorem e22:x22=Aze:=by kernel_rfl
theorem e20(kn12:K_)(b:Int):x20 kn12 b=Aqu (fun a f=>kn12 (t12 b a f)) b:=by kernel_rfl
theorem i18(kn12:K_)(b a:Int):∀(q:Nat) (g:Int) (h:LX),z18 kn12 q (t18 b a g h)=Aad (fun a f=>kn12 (t12 b a f)) b a q g h:=
 ind (fun _ _=>by kernel_rfl) fun q ih g h=>Eq.trans (b:=Aj2 (x20 kn12 b) (fun g h=>(z18 kn12 q) (t18 b a g h)) b a g h) (by kernel_rfl) (by simp only[e20,ih]<;>rfl)
theorem e18(kn12:K_)(b:Int):x18 kn12 b=Ap2 (fun a f=>kn12 (t12 b a f)) b:=by funext a g h;exact Eq.trans (by kernel_rfl) ((i18 kn12 b a Bi g h).trans (by rw[Al];rfl))
theorem e17(kn12:K_)(b:Int):x17 kn12 b=Aj1 (fun a f=>kn12 (t12 b a f)) b:=Eq.trans (b:=Aq2 (x18 kn12 b) b) (by kernel_rfl) (by simp only[e18]<;>rfl)
theorem i12(b:Int):∀(q:Nat) (a:Int) (f:LX),z12 q (t12 b a f)=Uo b q a f:=
 ind (fun _ _=>by kernel_rfl) fun q ih a f=>Eq.trans (b:=Aq3 (x17 (z12 q) b) x22 b a f) (by kernel_rfl) (by simp only[e17,e22,ih]<;>rfl)
theorem e12:x12=Aqr:=by funext b a f;exact Eq.trans (by kernel_rfl) ((i12 b Bi a f).trans (by rw[Al];rfl))
noncomputable def F:=u2 Ay1
theorem rn x:H.u P_ x=F x:=Eq.trans (b:=u2 (Ass x12) x) (by kernel_rfl) (by simp only[e12]<;>rfl)
noncomputable def c:Con:=⟨H.p,H.r,F⟩
theorem ok:ConOk P_ gl 173 c:=cr H func173 (.cons F190.ok (.cons F207.ok .nil)) (AnsOk.cons ent208 AnsOk.nil) rn
end F173
namespace F119
def Zj(j16:Int→Int32→Int→(List (Int×Int32×(Int×LX×LX×Unit)×Unit))→LX→Int→Int32→Int→LX→LX→Option (LX×Int))(j18:Int→Int→LX→Option (LX×Int))(f:LU)(a b g:Int)(h:List (Int×Int32×(Int×LX×LX×Unit)×Unit))(k:LX):Option (LX×Int):=
if(Cc g (Ac f))then
(getI f g).bind fun ag=>
(Kj (Ay a 0)).bind fun _=>
(getI h (Ho g a)).bind fun _=>
both (
(getI h (Ho g a)).bind fun m=>
both (
(Zz ag).bind fun ae=>
(fun ao:Option (LX×Int)=>
bo (
ao)) (
(Ly m.1 m.2.1 m.2.2.1.1 m.2.2.1.2.1 m.2.2.1.2.2.1 ae).bind fun(w,y,v,aa,ab,ac,u)=>
j16 g w u h k y v aa ab ac)) [
(Zz ag).bind fun ae=>
(Ly m.1 m.2.1 m.2.2.1.1 m.2.2.1.2.1 m.2.2.1.2.2.1 ae).bind fun(w,y,v,aa,ab,ac,u)=>
j16 g w u h k y v aa ab ac]) [
(Zz ag).bind fun af=>
both (
(getI h (Ho g a)).bind fun ad=>
(fun ap:Option (LX×Int)=>
bo (
ap)) (
(Ly ad.1 ad.2.1 ad.2.2.1.1 ad.2.2.1.2.1 ad.2.2.1.2.2.1 af).bind fun(w,y,v,aa,ab,ac,u)=>
j16 g w u h k y v aa ab ac)) [
(getI h (Ho g a)).bind fun ad=>
(Ly ad.1 ad.2.1 ad.2.2.1.1 ad.2.2.1.2.1 ad.2.2.1.2.2.1 af).bind fun(w,y,v,aa,ab,ac,u)=>
j16 g w u h k y v aa ab ac],
both (
(getI h (Ho g a)).bind fun m=>
(Zz ag).bind fun ae=>
(Ly m.1 m.2.1 m.2.2.1.1 m.2.2.1.2.1 m.2.2.1.2.2.1 ae).bind fun(w,y,v,aa,ab,ac,u)=>
j16 g w u h k y v aa ab ac) [
(Zz ag).bind fun af=>
(getI h (Ho g a)).bind fun ad=>
(Ly ad.1 ad.2.1 ad.2.2.1.1 ad.2.2.1.2.1 ad.2.2.1.2.2.1 af).bind fun(w,y,v,aa,ab,ac,u)=>
j16 g w u h k y v aa ab ac]]
else
j18 a b k
theorem Ao1: @Zj= @Mi:=by
  unfold Zj Mi
  try simp only[Ah6,Xz,Xx]
  all_goals
    repeat (refine funext fun _=>?_)
    repeat' first
      |with_reducible rfl
      |with_reducible refine Hb ?_ ?_
      |with_reducible refine Hf ?_ ?_ ?_
      |with_reducible refine Hg ?_ ?_ ?_ ?_
      |((with_reducible refine Kr ?_ ?_);focus (intro h;first|(subst h;rfl)|(simp only[h];rfl)|(simp[Cx,Ac,h];done)))
      |with_reducible refine Kq fun x=>?_
      |with_reducible refine Rc (fun _=>?_) (fun _=>?_)
      |(refine Di (fun h=>by simp only[h,Kn,Cn,Ci,ite_self]) (fun x h=>?_);(try simp only[h,Cn]))
      |(refine Em (fun h=>?_) (fun h=>?_)<;>simp only[h,if_true,if_false,Bool.false_eq_true])
abbrev R_:=(LX×Int)
abbrev K_:=S→Option R_
noncomputable def H:Hd:=⟨[.agg [Si,Si], .lf (.vec 16 (.int .i32)) none,Sv],[Ow 21,Si],(.seq .d (.seq .d (.cut [2,3,8] [] (.seq .d (.blk (.loop [2,3,4,8,20] [] .d))) (.seq .d (.cut [3,10] [] (.seq .d (.blk (.loop [3,8,10,33,34,35] [⟨10,[], .own 21 (.int .i32)⟩] (.seq .d (.seq .d (.seq (.blk (.seq .d (.seq .d (.cut [3,8,10,13,14,15,16,33,34,35] [] (.mode false) .d)))) .d)))))) .d))))),⟨[(67,F67.c),(170,F170.c),(171,F171.c),(172,F172.c),(173,F173.c)],gl,false⟩,[],f119⟩
def t13(f:LU)(a b g:Int)(h:List (Int×Int32×(Int×LX×LX×Unit)×Unit))(k:LX):S:=⟨[(3, .ptr 0 []),(8, .ptr 1 []),(10, .own 2),(33,vv f),(34,vi (Ac f)),(35,vi g)],[.box 60 (.agg [vi a,vi b]), .box 237 (.val (.vec 6 (.cons (.int .i64) (.cons (.int .i32) (.cons (.cons (.int .i64) (.cons (.vec 16 (.int .i32)) (.cons (.vec 16 (.int .i32)) .nil))) .nil)))) h),Aw 21 k],[]⟩
def z13:Nat→S→Option R_:=H.i P_ [r,r,r,r,l,r,d]
def t10(f:LU)(a b:Int)(o:LX)(p:Int)(n:List (Int×Int32×(Int×LX×LX×Unit)×Unit)):S:=⟨[(2,vv f),(3, .ptr 0 []),(4, .ptr 1 []),(8, .ptr 2 []),(20,vi p)],[.box 60 (.agg [vi a,vi b]), .box 110 (.val (.vec 16 (.int .i32)) o), .box 237 (.val (.vec 6 (.cons (.int .i64) (.cons (.int .i32) (.cons (.cons (.int .i64) (.cons (.vec 16 (.int .i32)) (.cons (.vec 16 (.int .i32)) .nil))) .nil)))) n)],[]⟩
def z10:Nat→S→Option R_:=H.i P_ [r,r,l,r,d]
def x18(a b:Int)(k:LX):Option R_:=H.e P_ [r,r,r,r,r] ⟨[(3, .ptr 0 []),(10, .own 1)],[.box 60 (.agg [vi a,vi b]),Aw 21 k],[]⟩
def x16(kn13:K_)(a:Int)(f:LU)(b g:Int)(w:Int32)(u:Int)(h:List (Int×Int32×(Int×LX×LX×Unit)×Unit))(k:LX)(y:Int)(v:Int32)(aa:Int)(ab ac:LX):Option R_:=H.e P_ [r,r,r,r,l,r,d,(lp kn13),r,r,l,d,r,r,r] ⟨[(3, .ptr 0 []),(8, .ptr 1 []),(10, .own 2),(13, .ptr 1 [.idx (Ho g a) 35]),(14,vx w),(15, .ptr 3 []),(16,vi u),(33,vv f),(34,vi (Ac f)),(35,vi g)],[.box 60 (.agg [vi a,vi b]), .box 237 (.val (.vec 6 (.cons (.int .i64) (.cons (.int .i32) (.cons (.cons (.int .i64) (.cons (.vec 16 (.int .i32)) (.cons (.vec 16 (.int .i32)) .nil))) .nil)))) h),Aw 21 k, .box 236 (.agg [vi y,vx v, .agg [vi aa, .val (.vec 16 (.int .i32)) ab, .val (.vec 16 (.int .i32)) ac]])],[]⟩
def x13(f:LU)(a b g:Int)(h:List (Int×Int32×(Int×LX×LX×Unit)×Unit))(k:LX):Option R_:=H.e P_ [r,r,r,r,l,r,d] (t13 f a b g h k)
def x12(f:LU)(a b:Int)(n:List (Int×Int32×(Int×LX×LX×Unit)×Unit)):Option R_:=H.e P_ [r,r,r] ⟨[(2,vv f),(3, .ptr 0 []),(8, .ptr 1 [])],[.box 60 (.agg [vi a,vi b]), .box 237 (.val (.vec 6 (.cons (.int .i64) (.cons (.int .i32) (.cons (.cons (.int .i64) (.cons (.vec 16 (.int .i32)) (.cons (.vec 16 (.int .i32)) .nil))) .nil)))) n)],[]⟩
def x10(f:LU)(a b:Int)(o:LX)(p:Int)(n:List (Int×Int32×(Int×LX×LX×Unit)×Unit)):Option R_:=H.e P_ [r,r,l,r,d] (t10 f a b o p n)
theorem e18:x18=Mg:=by kernel_rfl
theorem e16(kn13:K_)(f:LU)(a b:Int):x16 kn13 a f b=Aan (fun g h k=>kn13 (t13 f a b g h k)) a f b:=by kernel_rfl
theorem i13(f:LU)(a b:Int):∀(q:Nat) (g:Int) (h:List (Int×Int32×(Int×LX×LX×Unit)×Unit)) (k:LX),z13 q (t13 f a b g h k)=Iy f a b q g h k:=
 ind (fun _ _ _=>by kernel_rfl) fun q ih g h k=>Eq.trans (b:=Zj (x16 (z13 q) a f b) x18 f a b g h k) (by kernel_rfl) (by rw[Ao1];simp only[e16,e18,ih]<;>rfl)
theorem e13:x13=Ajf:=by funext f a b g h k;exact Eq.trans (by kernel_rfl) ((i13 f a b Bi g h k).trans (by rw[Al];rfl))
theorem e12:x12=Aaz:=Eq.trans (b:=Ajd x13) (by kernel_rfl) (by simp only[e13]<;>rfl)
theorem i10(f:LU)(a b:Int)(o:LX):∀(q:Nat) (p:Int) (n:List (Int×Int32×(Int×LX×LX×Unit)×Unit)),z10 q (t10 f a b o p n)=Aay f a b o q p n:=
 ind (fun _ _=>by kernel_rfl) fun q ih p n=>Eq.trans (b:=Aji x12 (fun p n=>(z10 q) (t10 f a b o p n)) f a b o p n) (by kernel_rfl) (by simp only[e12,ih]<;>rfl)
theorem e10:x10=Rs:=by funext f a b o p n;exact Eq.trans (by kernel_rfl) ((i10 f a b o Bi p n).trans (by rw[Al];rfl))
noncomputable def F:=u4 Vh
theorem rn x:H.u P_ x=F x:=Eq.trans (b:=u4 (Abu x10) x) (by kernel_rfl) (by simp only[e10]<;>rfl)
noncomputable def c:Con:=⟨H.p,H.r,F⟩
theorem ok:ConOk P_ gl 119 c:=co H func119 (.cons F67.ok (.cons F170.ok (.cons F171.ok (.cons F172.ok (.cons F173.ok .nil))))) rn
end F119
namespace F66
noncomputable def H:Hd:=⟨[.agg [Si,Si], .lf (.vec 16 (.int .i32)) none,Si,Sb],[Ow 21,Si], .d,⟨[(114,F114.c),(115,F115.c),(116,F116.c),(117,F117.c),(118,F118.c),(119,F119.c)],gl,false⟩,[],f66⟩
noncomputable def F:=u5 deframe_Decode
theorem rn x:H.u P_ x=F x:=by kernel_rfl
noncomputable def c:Con:=⟨H.p,H.r,F⟩
theorem ok:ConOk P_ gl 66 c:=co H func66 (.cons F114.ok (.cons F115.ok (.cons F116.ok (.cons F117.ok (.cons F118.ok (.cons F119.ok .nil)))))) rn
end F66
namespace F25
abbrev R_:=(LB×Int)
abbrev K_:=S→Option R_
noncomputable def H:Hd:=⟨[Si,Sw],[Ob 5,Si],(.seq .d (.seq .d (.seq .d (.cut [7] [] (.seq .d (.blk (.loop [0,7,17,18,19] [⟨7,[], .own 5 (.int .u8)⟩] (.seq .d (.seq .d (.cut [0,7,17,18,19] [] (.blk (.seq .d (.cut [0,7,9,17,18,19] [] .d (.seq .d (.blk (.loop [0,7,9,17,18,19,28,29] [] .d)))))) .d)))))) .d)))),⟨[(67,F67.c)],gl,false⟩,[],f25⟩
def t26(b:Int)(a:LX)(k:Int32)(f m:Int)(h:LB):S:=⟨[(0,vi b),(7, .own 0),(9,vx k),(17,vw a),(18,vi (Ac a)),(19,vi f),(28,vi (Cp b (8:Int))),(29,vi m)],[Ab 5 h],[]⟩
def z26(kn16:K_):Nat→S→Option R_:=H.i P_ [r,r,r,l,r,d,(lp kn16),r,r,l,d,r,r,r,d]
def t16(b:Int)(a:LX)(f:Int)(g:LB):S:=⟨[(0,vi b),(7, .own 0),(17,vw a),(18,vi (Ac a)),(19,vi f)],[Ab 5 g],[]⟩
def z16:Nat→S→Option R_:=H.i P_ [r,r,r,l,r,d]
def x30(g:LB):Option R_:=H.e P_ [r,r,r,r] ⟨[(7, .own 0)],[Ab 5 g],[]⟩
def x28(kn16:K_)(b:Int)(a:LX)(f:Int)(h:LB):Option R_:=H.e P_ [r,r,r,l,r,d,(lp kn16),r,r,r] ⟨[(0,vi b),(7, .own 0),(17,vw a),(18,vi (Ac a)),(19,vi f)],[Ab 5 h],[]⟩
def x26(kn16:K_)(b:Int)(a:LX)(k:Int32)(f m:Int)(h:LB):Option R_:=H.e P_ [r,r,r,l,r,d,(lp kn16),r,r,l,d,r,r,r,d] (t26 b a k f m h)
def x25(kn16:K_)(b:Int)(a:LX)(f:Int)(g:LB)(k:Int32):Option R_:=H.e P_ [r,r,r,l,r,d,(lp kn16),r,r,l,d,r,r] ⟨[(0,vi b),(7, .own 0),(9,vx k),(17,vw a),(18,vi (Ac a)),(19,vi f)],[Ab 5 g],[]⟩
def x16(b:Int)(a:LX)(f:Int)(g:LB):Option R_:=H.e P_ [r,r,r,l,r,d] (t16 b a f g)
theorem e30:x30=Arp:=by kernel_rfl
theorem e28(kn16:K_)(b:Int)(a:LX):x28 kn16 b a=Air (fun f g=>kn16 (t16 b a f g)) b a:=by kernel_rfl
theorem i26(kn16:K_)(b:Int)(a:LX)(k:Int32)(f:Int):∀(q:Nat) (m:Int) (h:LB),z26 kn16 q (t26 b a k f m h)=Jj (fun f g=>kn16 (t16 b a f g)) b a k f q m h:=
 ind (fun _ _=>by kernel_rfl) fun q ih m h=>Eq.trans (b:=Abs (x28 kn16 b a) (fun m h=>(z26 kn16 q) (t26 b a k f m h)) b a k f m h) (by kernel_rfl) (by simp only[e28,ih]<;>rfl)
theorem e26(kn16:K_)(b:Int)(a:LX):x26 kn16 b a=Ain (fun f g=>kn16 (t16 b a f g)) b a:=by funext k f m h;exact Eq.trans (by kernel_rfl) ((i26 kn16 b a k f Bi m h).trans (by rw[Al];rfl))
theorem e25(kn16:K_)(b:Int)(a:LX):x25 kn16 b a=Mc (fun f g=>kn16 (t16 b a f g)) b a:=Eq.trans (b:=Ai7 (x26 kn16 b a) b a) (by kernel_rfl) (by simp only[e26]<;>rfl)
theorem i16(b:Int)(a:LX):∀(q:Nat) (f:Int) (g:LB),z16 q (t16 b a f g)=Ft b a q f g:=
 ind (fun _ _=>by kernel_rfl) fun q ih f g=>Eq.trans (b:=Abn (x25 (z16 q) b a) x30 b a f g) (by kernel_rfl) (by simp only[e25,e30,ih]<;>rfl)
theorem e16:x16=Ar4:=by funext b a f g;exact Eq.trans (by kernel_rfl) ((i16 b a Bi f g).trans (by rw[Al];rfl))
noncomputable def F:=u2 width_Bytes
theorem rn x:H.u P_ x=F x:=Eq.trans (b:=u2 (Alq x16) x) (by kernel_rfl) (by simp only[e16]<;>rfl)
noncomputable def c:Con:=⟨H.p,H.r,F⟩
theorem ok:ConOk P_ gl 25 c:=co H func25 (.cons F67.ok .nil) rn
end F25
namespace F132
abbrev R_:=Int
noncomputable def H:Hd:=⟨[Sl,Si],[Si],(.seq .d (.cut [] [] (.seq .d (.blk (.loop [0,1,7,8] [] .d))) .d)),⟨[],gl,false⟩,[],f132⟩
def t4(a:LI)(b f:Int):S:=⟨[(0,vl a),(1,vi b),(7,vi (Ac a)),(8,vi f)],[],[]⟩
def z4:Nat→S→Option R_:=H.i P_ [r,l,r,d]
def x6:Option R_:=H.e P_ [r,r] ⟨[],[],[]⟩
def x4(a:LI)(b f:Int):Option R_:=H.e P_ [r,l,r,d] (t4 a b f)
theorem e6:x6=Na:=by kernel_rfl
theorem i4(a:LI)(b:Int):∀(q:Nat) (f:Int),z4 q (t4 a b f)=Bl a b q f:=
 ind (fun _=>by kernel_rfl) fun q ih f=>Eq.trans (b:=Dr x6 (fun f=>(z4 q) (t4 a b f)) a b f) (by kernel_rfl) (by simp only[e6,ih]<;>rfl)
theorem e4:x4=Hj:=by funext a b f;exact Eq.trans (by kernel_rfl) ((i4 a b Bi f).trans (by rw[Al];rfl))
noncomputable def F:=u2 If
theorem rn x:H.u P_ x=F x:=Eq.trans (b:=u2 (Hc x4) x) (by kernel_rfl) (by simp only[e4]<;>rfl)
noncomputable def c:Con:=⟨H.p,H.r,F⟩
theorem ok:ConOk P_ gl 132 c:=co H func132 .nil rn
end F132
namespace F86
noncomputable def H:Hd:=⟨[Sl,Si],[Sz], .d,⟨[(132,F132.c)],gl,false⟩,[],f86⟩
noncomputable def F:=u2 He
theorem rn x:H.u P_ x=F x:=by kernel_rfl
noncomputable def c:Con:=⟨H.p,H.r,F⟩
theorem ok:ConOk P_ gl 86 c:=co H func86 (.cons F132.ok .nil) rn
end F86
namespace F44
noncomputable def H:Hd:=⟨[Si],[Sz], .d,⟨[(86,F86.c)],gl,false⟩,[],f44⟩
noncomputable def F:=Rg
theorem rn x:H.u P_ x=F x:=by kernel_rfl
noncomputable def c:Con:=⟨H.p,H.r,F⟩
theorem ok:ConOk P_ gl 44 c:=co H func44 (.cons F86.ok .nil) rn
end F44
namespace F15
def Ab5(j28:Bool→Int→Option Int)(w ah:Int)(g a:LB)(k p o u v b:Int)(m:Bool)(n:Int)(ao:LX)(f:LI)(h:LB):Option Int:=
if(Ay ah 0)then
(Ag ah).bind fun(br,bs)=>
j28 br bs
else
(width_Bytes o ao).bind fun(bt,be)=>
if(Ay be 0)then
(Ag be).bind fun(bu,bv)=>
j28 bu bv
else
(Cx h bt).bind fun dv=>
(fun fa:Option Int=>
bo (
fa)) (
(Az a w (Ac a)).bind fun dw=>
j28 false 0)
theorem Ash: @Ab5= @Xk:=by
  unfold Ab5 Xk
  simp only[Ah6,Xz,Xx]
def Aev(j13:Bool→Int→Option Int)(j12:LB→LB→Int→Int→Int→Int→Int→Int→Bool→Int→LI→LB→Option Int)(j25:Bool→Int→Option Int)(j23:LB→LB→Int→Int→Int→Int→Int→Int→Bool→Int→LI→LB→Option Int)(j24:LB→LB→Int→Int→Int→Int→Int→Int→Bool→Int→LI→LB→Int→Option Int)(j28:Bool→Int→Option Int)(j26:Int→LB→LB→Int→Int→Int→Int→Int→Int→Bool→Int→LX→LI→LI→LB→Option Int)(j22:Bool→Option Int)(j21:Option Int)(aq ar:LB)(au av aw ax ay:Int)(az:LI)(ai:Int)(aj:LB)(ac:Bool)(y:Int):Option Int:=
if(Ee (Ac aq) 64)then
some 8
else
if((geq y 0)&&(!ac))then
(Dd aq ar au av aw ax ay az ai aj ac y).bind fun(g,a,k,p,o,u,v,f,b,h,m,n)=>
(Zw aq ar au av aw ax ay az ai aj ac y).bind fun bw=>
if bw then
if(geq k 0)then
(Jg a).bind fun(al,ba)=>
if(geq ba 24)then
j13 true 0
else
if(Ay ba 0)then
(Ag ba).bind fun(bx,bz)=>
j13 bx bz
else
(Az a al (Ac a)).bind fun da=>
(Pq da).bind fun an=>
if an then
j13 true 0
else
(Az a al (Ac a)).bind fun db=>
(Mz db).bind fun(ae,af,aa,ag,ab,bb)=>
if(geq bb 24)then
j13 true 0
else
if(Ay bb 0)then
(Ag bb).bind fun(dc,dd)=>
j13 dc dd
else
both (
(Az a (Ae al 22) (Ac a)).bind fun ak=>
(fun fb:Option Int=>
bo (
fb)) (
j12 g ak ae af aa ag ab b m n f h)) [
(Az a (Ae al 22) (Ac a)).bind fun ak=>
j12 g ak ae af aa ag ab b m n f h]
else
if(geq (Ac f) 0)then
if(geq k 2)then
if(Cc (Ac a) 8)then
j25 true 0
else
j23 g a k p o u v b m n f h
else
j24 g a k p o u v b m n f h 0
else
if(Cc b (Ac f))then
(getI f b).bind fun _=>
(getI f b).bind fun w=>
if(Cc (Ac a) w)then
j28 true 0
else
(Tj g).bind fun(ap,am)=>
if(Ay am 0)then
(Ag am).bind fun(de,df)=>
j28 de df
else
(Cy k p o u v).bind fun(ad,dg)=>
if((Ay dg 0)||(Ni b (Ac ad)))then
(Ag 8).bind fun(dh,di)=>
j28 dh di
else
j26 w g a k p o u v b m n ap ad f h
else
if(Ee (Ac a) 4000)then
(Ag 38).bind fun(dj,bf)=>
j22 ((dj==true)&&((geq bf 0)&&true))
else
j21
else
j22 false
else
if((geq (Ac ar) 0)&&(geq (Ac az) 0))then
if((((geq au 0)&&((geq av 0)&&((geq aw 0)&&((geq ax 0)&&((geq ay 0)&&true)))))&&(geq ai 0))&&(gle (Ac aj) 12000))then
if(geq y 0)then
j22 true
else
if(!ac)then
(Rg y).bind fun dk=>
j22 dk
else
j22 false
else
j22 false
else
if((false&&(geq ai 0))&&(gle (Ac aj) 12000))then
if(geq y 0)then
j22 true
else
if(!ac)then
(Rg y).bind fun dl=>
j22 dl
else
j22 false
else
j22 false
theorem Aui: @Aev= @Zt:=by
  unfold Aev Zt
  try simp only[Ah6,Xz,Xx]
  all_goals
    repeat (refine funext fun _=>?_)
    repeat' first
      |with_reducible rfl
      |with_reducible refine Hb ?_ ?_
      |with_reducible refine Hf ?_ ?_ ?_
      |with_reducible refine Hg ?_ ?_ ?_ ?_
      |((with_reducible refine Kr ?_ ?_);focus (intro h;first|(subst h;rfl)|(simp only[h];rfl)|(simp[Cx,Ac,h];done)))
      |with_reducible refine Kq fun x=>?_
      |with_reducible refine Rc (fun _=>?_) (fun _=>?_)
      |(refine Di (fun h=>by simp only[h,Kn,Cn,Ci,ite_self]) (fun x h=>?_);(try simp only[h,Cn]))
      |(refine Em (fun h=>?_) (fun h=>?_)<;>simp only[h,if_true,if_false,Bool.false_eq_true])
abbrev R_:=Int
noncomputable def H:Hd:=⟨[.agg [Ss,Sb, .agg [Si,Si,Si,Si,Si],Sl,Si,Sb,Sz,Si]],[Si],(.seq .d (.seq .d (.seq .d (.cut [3] [] (.seq .d (.cond (.seq .d (.keep [3,21,22,23,24,25] false)) .d)) .d)))),⟨[(25,F25.c),(39,F39.c),(43,F43.c),(44,F44.c),(55,Abf),(56,F56.c),(57,F57.c),(58,F58.c),(59,F59.c),(65,F65.c),(66,F66.c),(82,F82.c),(84,F84.c),(130,F130.c),(131,F131.c)],gl,false⟩,[(38,(.seq .d (.cut [2] [] (.blk (.seq .d (.cond (.cut [2] [] (.keep [2,11] true) .d) (.seq .d (.cond (.cut [2] [] (.keep [2,20] true) .d) (.seq .d (.cond (.cut [2] [] (.keep [2,33] true) .d) .d))))))) .d))),(79,(.seq .d (.seq .d (.seq .d (.seq .d (.seq .d (.cut [0,2,5] [] (.mode false) .d))))))),(80,(.seq .d (.seq .d (.cut [0,2,3] [⟨0,[1], .ro (.int .u8)⟩] (.seq .d (.cond (.seq .d (.cut [0,2,3] [⟨0,[1], .ro (.int .u8)⟩,⟨9,[1], .ro (.int .u8)⟩,⟨10,[1], .ro (.int .u8)⟩,⟨15,[1], .ro (.int .u8)⟩,⟨16,[1], .ro (.int .u8)⟩,⟨18,[], .ro (.int .u8)⟩] .d (.cut [0,2,3,4,5] [] .d .d))) .d)) .d)))),(81,(.seq .d (.seq .d (.seq .d (.seq .d (.seq .d (.seq .d (.cut [0,2,3,4,6] [⟨0,[1], .ro (.int .u8)⟩,⟨9,[1], .ro (.int .u8)⟩,⟨10,[1], .ro (.int .u8)⟩,⟨13,[1], .ro (.int .u8)⟩,⟨14,[1], .ro (.int .u8)⟩,⟨19,[1], .ro (.int .u8)⟩,⟨20,[1], .ro (.int .u8)⟩,⟨22,[], .ro (.int .u8)⟩,⟨28,[1], .ro (.int .u8)⟩,⟨29,[1], .ro (.int .u8)⟩,⟨40,[1], .ro (.int .u8)⟩,⟨41,[1], .ro (.int .u8)⟩] .d (.cut [0,2,3,5,7] [] .d (.seq .d (.seq .d (.seq .d (.seq .d (.seq (.mode false) .d))))))))))))))],f15⟩
def x22(bi:Bool):Option R_:=H.e P_ [r,r,r,r] ⟨[(3,vt bi)],[],[]⟩
def x21:Option R_:=H.e P_ [r,r,r,l,r,l,r,(dcall 3 38 3 #[true,true,true,true,true,true,true,true] #[true,true,true,true,true,false,false,false]),r,r] ⟨[(2, .ptr 0 [])],[.box 77 (.agg [vt false,vi 0])],[[(3,vt false),(21, .cst (.bool true)),(23, .agg [vt true,vi 0])]]⟩
def x13(bj:Bool)(bk:Int):Option R_:=H.e P_ [r,r,r,l,r,l,r,(dcall 3 38 3 #[true,true,true,true,true,true,true,true] #[true,true,true,true,true,false,false,false]),r,l,d,r,l,r] ⟨[(2, .ptr 0 [])],[.box 77 (.agg [vt bj,vi bk])],[[(3,vt false),(21, .cst (.bool true)),(23, .agg [vt true,vi 0])]]⟩
def x12(g ak:LB)(ae af aa ag ab b:Int)(m:Bool)(n:Int)(f:LI)(h:LB):Option R_:=H.e P_ [r,r,r,l,r,l,r,(dcall 3 38 3 #[true,true,true,true,true,true,true,true] #[true,true,true,true,true,false,false,false]),r,l,d,r,l,l,(call 1 79),r,r,r,r,r,r] ⟨[(0, .ptr 0 []),(2, .ptr 1 []),(5, .ptr 2 [])],[.box 30 (.agg [vs g,vb ak, .agg [vi ae,vi af,vi aa,vi ag,vi ab], .own 4,vi b, .own 5,vt m,vi n]), .box 77 (.agg [vt false,vi 0]), .box 27 (.agg [vi ae,vi af,vi aa,vi ag,vi ab]), .box 77 (.agg [vt false,vi 0]),Ai 3 f,Ab 5 h],[[(2, .ptr 3 [])],[(3,vt false),(21, .cst (.bool true)),(23, .agg [vt true,vi 0])]]⟩
def x25(bl:Bool)(bm:Int):Option R_:=H.e P_ [r,r,r,l,r,l,r,(dcall 3 38 3 #[true,true,true,true,true,true,true,true] #[true,true,true,true,true,false,false,false]),r,l,d,r,r,r,l,r] ⟨[(2, .ptr 0 [])],[.box 77 (.agg [vt bl,vi bm])],[[(3,vt false),(21, .cst (.bool true)),(23, .agg [vt true,vi 0])]]⟩
def x24(g a:LB)(k p o u v b:Int)(m:Bool)(n:Int)(f:LI)(h:LB)(bg:Int):Option R_:=H.e P_ [r,r,r,l,r,l,r,(dcall 3 38 3 #[true,true,true,true,true,true,true,true] #[true,true,true,true,true,false,false,false]),r,l,d,r,r,r,l,l,(call 1 80),r,r,r] ⟨[(0, .ptr 0 []),(2, .ptr 1 []),(3,vi bg)],[.box 30 (.agg [vs g,vb a, .agg [vi k,vi p,vi o,vi u,vi v], .own 3,vi b, .own 4,vt m,vi n]), .box 77 (.agg [vt false,vi 0]), .box 77 (.agg [vt false,vi 0]),Ai 3 f,Ab 5 h],[[(2, .ptr 2 [])],[(3,vt false),(21, .cst (.bool true)),(23, .agg [vt true,vi 0])]]⟩
def x15(bd:Bool)(bc:Int)(g a:LB)(k p o u v b:Int)(m:Bool)(n:Int)(f:LI)(h:LB):Option R_:=H.e P_ [r,r,r,l,r,l,r,(dcall 3 38 3 #[true,true,true,true,true,true,true,true] #[true,true,true,true,true,false,false,false]),r,l,d,r,r,r,l,l,(call 1 80),r,r,l,r,l,r,r,r] ⟨[(0, .ptr 0 []),(2, .ptr 1 []),(3,vi 8),(4,vt bd),(5,vi bc)],[.box 30 (.agg [vs g,vb a, .agg [vi k,vi p,vi o,vi u,vi v], .own 3,vi b, .own 4,vt m,vi n]), .box 77 (.agg [vt false,vi 0]), .box 77 (.agg [vt false,vi 0]),Ai 3 f,Ab 5 h],[[(2, .ptr 2 [])],[(3,vt false),(21, .cst (.bool true)),(23, .agg [vt true,vi 0])]]⟩
def x23(g a:LB)(k p o u v b:Int)(m:Bool)(n:Int)(f:LI)(h:LB):Option R_:=H.e P_ [r,r,r,l,r,l,r,(dcall 3 38 3 #[true,true,true,true,true,true,true,true] #[true,true,true,true,true,false,false,false]),r,l,d,r,r,r,l,l,(call 1 80),r,r,l,r,l,r,r] ⟨[(0, .ptr 0 []),(2, .ptr 1 []),(3,vi 8)],[.box 30 (.agg [vs g,vb a, .agg [vi k,vi p,vi o,vi u,vi v], .own 3,vi b, .own 4,vt m,vi n]), .box 77 (.agg [vt false,vi 0]), .box 77 (.agg [vt false,vi 0]),Ai 3 f,Ab 5 h],[[(2, .ptr 2 [])],[(3,vt false),(21, .cst (.bool true)),(23, .agg [vt true,vi 0])]]⟩
def x28(bp:Bool)(bq:Int):Option R_:=H.e P_ [r,r,r,l,r,l,r,(dcall 3 38 3 #[true,true,true,true,true,true,true,true] #[true,true,true,true,true,false,false,false]),r,l,d,r,r,r,r,r,l,r] ⟨[(2, .ptr 0 [])],[.box 77 (.agg [vt bp,vi bq])],[[(3,vt false),(21, .cst (.bool true)),(23, .agg [vt true,vi 0])]]⟩
def x27(w ah:Int)(g a:LB)(k p o u v b:Int)(m:Bool)(n:Int)(ao:LX)(f:LI)(h:LB):Option R_:=H.e P_ [r,r,r,l,r,l,r,(dcall 3 38 3 #[true,true,true,true,true,true,true,true] #[true,true,true,true,true,false,false,false]),r,l,d,r,r,r,r,r,l,l,(call 1 81),r,r,r,r,r,r,r,r] ⟨[(0, .ptr 0 []),(2, .ptr 1 []),(3,vi w),(5,vi ah),(7, .own 2)],[.box 30 (.agg [vs g,vb a, .agg [vi k,vi p,vi o,vi u,vi v], .own 4,vi b, .own 5,vt m,vi n]), .box 77 (.agg [vt false,vi 0]),Aw 21 ao, .box 77 (.agg [vt false,vi 0]),Ai 3 f,Ab 5 h],[[(2, .ptr 3 [])],[(3,vt false),(21, .cst (.bool true)),(23, .agg [vt true,vi 0])]]⟩
def x26(w:Int)(g a:LB)(k p o u v b:Int)(m:Bool)(n:Int)(ap:LX)(ad f:LI)(h:LB):Option R_:=H.e P_ [r,r,r,l,r,l,r,(dcall 3 38 3 #[true,true,true,true,true,true,true,true] #[true,true,true,true,true,false,false,false]),r,l,d,r,r,r,r,r,l,l,(call 1 81),r,r,r,r,r,r,r] ⟨[(0, .ptr 0 []),(2, .ptr 1 []),(3,vi w),(4, .ptr 2 []),(6, .own 3)],[.box 30 (.agg [vs g,vb a, .agg [vi k,vi p,vi o,vi u,vi v], .own 5,vi b, .own 6,vt m,vi n]), .box 77 (.agg [vt false,vi 0]), .box 110 (.val (.vec 16 (.int .i32)) ap),Ai 3 ad, .box 77 (.agg [vt false,vi 0]),Ai 3 f,Ab 5 h],[[(2, .ptr 4 [])],[(3,vt false),(21, .cst (.bool true)),(23, .agg [vt true,vi 0])]]⟩
theorem e22:x22=Bb:=by kernel_rfl
theorem e21:x21=Xm:=Eq.trans (b:=Adj x22) (by kernel_rfl) (by simp only[e22]<;>rfl)
theorem e13:x13=Dq:=Eq.trans (b:=Aem x22) (by kernel_rfl) (by simp only[e22]<;>rfl)
theorem e12:x12=Xb:=Eq.trans (b:=Ae0 x13) (by kernel_rfl) (by simp only[e13]<;>rfl)
theorem e25:x25=Il:=Eq.trans (b:=Adt x22) (by kernel_rfl) (by simp only[e22]<;>rfl)
theorem e24:x24=Ii:=Eq.trans (b:=Aef x25) (by kernel_rfl) (by simp only[e25]<;>rfl)
theorem e15:x15=Ad4:=Eq.trans (b:=Afb x25 x24) (by kernel_rfl) (by simp only[e25,e24]<;>rfl)
theorem e23:x23=Xs:=Eq.trans (b:=Afa x15) (by kernel_rfl) (by simp only[e15]<;>rfl)
theorem e28:x28=Gn:=Eq.trans (b:=Adp x22) (by kernel_rfl) (by simp only[e22]<;>rfl)
theorem e27:x27=Adr:=Eq.trans (b:=Ab5 x28) (by kernel_rfl) (by rw[Ash];simp only[e28]<;>rfl)
theorem e26:x26=Wx:=Eq.trans (b:=Ad8 x27) (by kernel_rfl) (by simp only[e27]<;>rfl)
noncomputable def F:=u12 Ie
theorem rn x:H.u P_ x=F x:=Eq.trans (b:=u12 (Aev x13 x12 x25 x23 x24 x28 x26 x22 x21) x) (by kernel_rfl) (by unfold F;rw[Aui];simp only[e13,e12,e25,e23,e24,e28,e26,e22,e21]<;>rfl)
noncomputable def c:Con:=⟨H.p,H.r,F⟩
theorem ok:ConOk P_ gl 15 c:=cr H func15 (.cons F25.ok (.cons F39.ok (.cons F43.ok (.cons F44.ok (.cons Ak8 (.cons F56.ok (.cons F57.ok (.cons F58.ok (.cons F59.ok (.cons F65.ok (.cons F66.ok (.cons F82.ok (.cons F84.ok (.cons F130.ok (.cons F131.ok .nil))))))))))))))) (AnsOk.cons ent38 (AnsOk.cons ent79 (AnsOk.cons ent80 (AnsOk.cons ent81 AnsOk.nil)))) rn
end F15
namespace F37
def Ae2(f g:LB)(h k m n o:Int)(p:LI)(u:Int)(v:LB)(b:Bool)(a:Int):Option (LB×LB×Int×Int×Int×Int×Int×LI×Int×LB×Bool×Int×Int):=
(Ie f g h k m n o p u v b a).bind fun w=>
if(Ay w 0)then
some (([]:LB),([]:LB),0,0,0,0,0,([]:LI),0,([]:LB),false,0,w)
else
if(Ay a 0)then
(fun bl:Option (LB×LB×Int×Int×Int×Int×Int×LI×Int×LB×Bool×Int×Int)=>
both (
both (
(Dd f g h k m n o p u v b a).bind fun(y,aa,ab,ac,ad,ae,af,ag,ah,ai,aj,ak)=>
(fun bm:Option (LB×LB×Int×Int×Int×Int×Int×LI×Int×LB×Bool×Int×Int)=>
bo (
bm)) (
some (y,aa,ab,ac,ad,ae,af,ag,ah,ai,aj,ak,a))) [
bl]) [
bl]) (
(Dd f g h k m n o p u v b a).bind fun(y,aa,ab,ac,ad,ae,af,ag,ah,ai,aj,ak)=>
some (y,aa,ab,ac,ad,ae,af,ag,ah,ai,aj,ak,a))
else
if b then
(Dd f g h k m n o p u v b a).bind fun(al,am,an,ao,ap,aq,ar,au,av,aw,ax,ay)=>
some (al,am,an,ao,ap,aq,ar,au,av,aw,ax,ay,36)
else
(Dd f g h k m n o p u v b a).bind fun(az,ba,bb,bc,bd,be,bf,bg,bh,bi,bj,bk)=>
some (az,ba,bb,bc,bd,be,bf,bg,bh,bi,bj,bk,0)
theorem At6: @Ae2= @Qu:=by
  unfold Ae2 Qu
  try simp only[Ah6,Xz,Xx]
  all_goals
    repeat (refine funext fun _=>?_)
    repeat' first
      |with_reducible rfl
      |with_reducible refine Hb ?_ ?_
      |with_reducible refine Hf ?_ ?_ ?_
      |with_reducible refine Hg ?_ ?_ ?_ ?_
      |((with_reducible refine Kr ?_ ?_);focus (intro h;first|(subst h;rfl)|(simp only[h];rfl)|(simp[Cx,Ac,h];done)))
      |with_reducible refine Kq fun x=>?_
      |with_reducible refine Rc (fun _=>?_) (fun _=>?_)
      |(refine Di (fun h=>by simp only[h,Kn,Cn,Ci,ite_self]) (fun x h=>?_);(try simp only[h,Cn]))
      |(refine Em (fun h=>?_) (fun h=>?_)<;>simp only[h,if_true,if_false,Bool.false_eq_true])
noncomputable def H:Hd:=⟨[.agg [Ss,Sb, .agg [Si,Si,Si,Si,Si],Sl,Si,Sb,Sz,Si]],[.agg [Ss,Ob 5, .agg [Si,Si,Si,Si,Si],Ol 3,Si,Ob 5,Sz,Si],Si],(.seq .d (.seq .d (.seq (.blk (.seq .d (.cond (.seq (.mode false) .d) .d))) .d))),⟨[(15,F15.c),(39,F39.c)],gl,false⟩,[],f37⟩
noncomputable def F:=u12 Qu
theorem rn x:H.u P_ x=F x:=Eq.trans (b:=u12 Ae2 x) (by kernel_rfl) (by rw[At6];rfl)
noncomputable def c:Con:=⟨H.p,H.r,F⟩
theorem ok:ConOk P_ gl 37 c:=co H func37 (.cons F15.ok (.cons F39.ok .nil)) rn
end F37
namespace F40
noncomputable def H:Hd:=⟨[.agg [Ss,Sb, .agg [Si,Si,Si,Si,Si],Sl,Si,Sb,Sz,Si],Si],[.agg [Ss,Ob 5, .agg [Si,Si,Si,Si,Si],Ol 3,Si,Sb,Sz,Si],Si], .d,⟨[],gl,false⟩,[],f40⟩
noncomputable def F:=u13 Aqq
theorem rn x:H.u P_ x=F x:=by kernel_rfl
noncomputable def c:Con:=⟨H.p,H.r,F⟩
theorem ok:ConOk P_ gl 40 c:=co H func40 .nil rn
end F40
namespace F12
def Adn(j78:Int→Int→Int→Int→Int→LI→Bool→Int→LB→Int→LB→Option (LB×LB×Int×Int×Int×Int×Int×LI×Int×LB×Bool×Int×Int))(a:LB)(b:Bool)(f w ag:Int)(g:LB)(m p o u v h:Int)(am:LX)(k:LI)(n:LB):Option (LB×LB×Int×Int×Int×Int×Int×LI×Int×LB×Bool×Int×Int):=
if(Ay ag 0)then
(Ag ag).bind fun(dd,de)=>
j78 m p o u v k dd de g h n
else
(width_Bytes o am).bind fun(df,aj)=>
if(Ay aj 0)then
(Ag aj).bind fun(dg,dh)=>
j78 m p o u v k dg dh g h n
else
(Cx n df).bind fun di=>
(fun hb:Option (LB×LB×Int×Int×Int×Int×Int×LI×Int×LB×Bool×Int×Int)=>
bo (
hb)) (
(Az g w (Ac g)).bind fun dj=>
j78 m p o u v k false 0 dj (Ae h 1) di)
theorem Aus: @Adn= @Aaf:=by
  unfold Adn Aaf
  simp only[Ah6,Xz,Xx]
def Aew(j62:Int→LI→LB→Bool→Int→LB→Int→Int→Int→Int→Int→Option (LB×LB×Int×Int×Int×Int×Int×LI×Int×LB×Bool×Int×Int))(j61:LB→Int→Int→Int→Int→Int→Int→LI→LB→Option (LB×LB×Int×Int×Int×Int×Int×LI×Int×LB×Bool×Int×Int))(j75:Int→Int→Int→Int→Int→Int→LB→Bool→Int→LB→LI→Option (LB×LB×Int×Int×Int×Int×Int×LI×Int×LB×Bool×Int×Int))(j73:LB→Int→Int→Int→Int→Int→Int→LI→LB→Option (LB×LB×Int×Int×Int×Int×Int×LI×Int×LB×Bool×Int×Int))(j74:LB→Int→Int→Int→Int→Int→Int→LI→LB→Int→Option (LB×LB×Int×Int×Int×Int×Int×LI×Int×LB×Bool×Int×Int))(j78:Int→Int→Int→Int→Int→LI→Bool→Int→LB→Int→LB→Option (LB×LB×Int×Int×Int×Int×Int×LI×Int×LB×Bool×Int×Int))(j76:Int→LB→Int→Int→Int→Int→Int→Int→LX→LI→LI→LB→Option (LB×LB×Int×Int×Int×Int×Int×LI×Int×LB×Bool×Int×Int))(j71:LB→Int→Int→Int→Int→Int→Int→Bool→Int→LI→LB→Option (LB×LB×Int×Int×Int×Int×Int×LI×Int×LB×Bool×Int×Int))(j70:LB→Int→Int→Int→Int→Int→Int→LI→LB→Option (LB×LB×Int×Int×Int×Int×Int×LI×Int×LB×Bool×Int×Int))(a:LB)(b:Bool)(f:Int)(g:LB)(m p o u v h:Int)(k:LI)(n:LB):Option (LB×LB×Int×Int×Int×Int×Int×LI×Int×LB×Bool×Int×Int):=
if(geq m 0)then
(Jg g).bind fun(ah,ao)=>
if(geq ao 24)then
j62 h k n true 0 g m p o u v
else
if(Ay ao 0)then
(Ag ao).bind fun(dk,dl)=>
j62 h k n dk dl g m p o u v
else
(Az g ah (Ac g)).bind fun dm=>
(Pq dm).bind fun al=>
if al then
j62 h k n true 0 g m p o u v
else
(Az g ah (Ac g)).bind fun dn=>
(Mz dn).bind fun(ab,ac,y,ad,aa,ap)=>
if(geq ap 24)then
j62 h k n true 0 g m p o u v
else
if(Ay ap 0)then
(Ag ap).bind fun(dp,dq)=>
j62 h k n dp dq g m p o u v
else
both (
(Az g (Ae ah 22) (Ac g)).bind fun af=>
bo (
j61 af ab ac y ad aa h k n)) [
(Az g (Ae ah 22) (Ac g)).bind fun af=>
j61 af ab ac y ad aa h k n]
else
if(geq (Ac k) 0)then
if(geq m 2)then
if(Cc (Ac g) 8)then
j75 m p o u v h n true 0 g k
else
j73 g m p o u v h k n
else
j74 g m p o u v h k n 0
else
if(Cc h (Ac k))then
(getI k h).bind fun _=>
(getI k h).bind fun w=>
if(Cc (Ac g) w)then
j78 m p o u v k true 0 g h n
else
(Tj a).bind fun(an,ak)=>
if(Ay ak 0)then
(Ag ak).bind fun(dr,ds)=>
j78 m p o u v k dr ds g h n
else
(Cy m p o u v).bind fun(ae,dt)=>
if((Ay dt 0)||(Ni h (Ac ae)))then
(Ag 8).bind fun(du,bc)=>
j78 m p o u v k du bc g h n
else
j76 w g m p o u v h an ae k n
else
if(Ee (Ac g) 4000)then
(Ag 38).bind fun(dv,ai)=>
j71 g m p o u v h dv ai k n
else
j70 g m p o u v h k n
theorem At4: @Aew= @Hv:=by
  unfold Aew Hv
  repeat (refine funext fun _=>?_)
  repeat' first
    |with_reducible rfl
    |with_reducible refine Hb ?_ ?_
    |with_reducible refine Hf ?_ ?_ ?_
    |with_reducible refine Hg ?_ ?_ ?_ ?_
    |((with_reducible refine Kr ?_ ?_);focus (intro h;first|(subst h;rfl)|(simp only[h];rfl)|(simp[Cx,Ac,h];done)))
    |with_reducible refine Kq fun x=>?_
    |with_reducible refine Rc (fun _=>?_) (fun _=>?_)
    |(refine Di (fun h=>by simp only[h,Kn,Cn,Ci,ite_self]) (fun x h=>?_);(try simp only[h,Cn]))
    |(refine Em (fun h=>?_) (fun h=>?_)<;>simp only[h,if_true,if_false,Bool.false_eq_true])
abbrev R_:=(LB×LB×Int×Int×Int×Int×Int×LI×Int×LB×Bool×Int×Int)
abbrev K_:=S→Option R_
noncomputable def H:Hd:=⟨[.agg [Ss,Sb, .agg [Si,Si,Si,Si,Si],Sl,Si,Sb,Sz,Si],Sb],[.agg [Ss,Ob 5, .agg [Si,Si,Si,Si,Si],Ol 3,Si,Sb,Sz,Si],Si],(.seq .d (.seq .d (.seq .d (.seq .d (.blk (.loop [2,4] [⟨2,[1], .ro (.int .u8)⟩] (.blk (.cut [2,4,7] [] (.keep [2,4,7,22] true) .d)))))))),⟨[(25,F25.c),(37,F37.c),(39,F39.c),(40,F40.c),(55,Abf),(56,F56.c),(57,F57.c),(58,F58.c),(59,F59.c),(65,F65.c),(66,F66.c),(82,F82.c),(84,F84.c),(130,F130.c),(131,F131.c)],gl,false⟩,[(38,(.seq .d (.cut [2] [] (.blk (.seq .d (.cond (.cut [2] [] (.keep [2,11] true) .d) (.seq .d (.cond (.cut [2] [] (.keep [2,20] true) .d) (.seq .d (.cond (.cut [2] [] (.keep [2,33] true) .d) .d))))))) .d))),(79,(.seq .d (.seq .d (.seq .d (.seq .d (.seq .d (.cut [0,2,5] [] (.mode false) .d))))))),(80,(.seq .d (.seq .d (.cut [0,2,3] [] (.seq .d (.cond (.seq .d (.cut [0,2,3] [⟨0,[1], .ro (.int .u8)⟩,⟨9,[1], .ro (.int .u8)⟩,⟨10,[1], .ro (.int .u8)⟩,⟨15,[1], .ro (.int .u8)⟩,⟨16,[1], .ro (.int .u8)⟩,⟨18,[], .ro (.int .u8)⟩] .d (.cut [0,2,3,4,5] [] .d .d))) .d)) .d)))),(81,(.seq .d (.seq .d (.seq .d (.seq .d (.seq .d (.seq .d (.cut [0,2,3,4,6] [⟨0,[1], .ro (.int .u8)⟩,⟨9,[1], .ro (.int .u8)⟩,⟨10,[1], .ro (.int .u8)⟩,⟨13,[1], .ro (.int .u8)⟩,⟨14,[1], .ro (.int .u8)⟩,⟨19,[1], .ro (.int .u8)⟩,⟨20,[1], .ro (.int .u8)⟩,⟨22,[], .ro (.int .u8)⟩,⟨28,[1], .ro (.int .u8)⟩,⟨29,[1], .ro (.int .u8)⟩,⟨40,[1], .ro (.int .u8)⟩,⟨41,[1], .ro (.int .u8)⟩] .d (.cut [0,2,3,5,7] [] .d (.seq .d (.seq .d (.seq .d (.seq .d (.seq (.mode false) .d))))))))))))))],f12⟩
def t37(a:LB)(b:Bool)(f:Int)(g:LB)(m p o u v h:Int)(k:LI)(n:LB):S:=⟨[(2, .ptr 0 []),(4, .ptr 1 [])],[.box 30 (.agg [vs a,vb g, .agg [vi m,vi p,vi o,vi u,vi v], .own 2,vi h, .own 3,vt b,vi f]), .box 30 (.agg [vs ([]:LB), .nils, .agg [vi 0,vi 0,vi 0,vi 0,vi 0], .nils,vi 0, .nils,vt false,vi 0]),Ai 3 k,Ab 5 n],[]⟩
def z37:Nat→S→Option R_:=H.i P_ [r,r,r,r,d]
def x71(kn37:K_)(a:LB)(b:Bool)(f:Int)(ar:LB)(au av aw ax ay az:Int)(bh:Bool)(be:Int)(ba:LI)(bb:LB):Option R_:=H.e P_ [r,r,r,r,d,(lp kn37),d,r] ⟨[(2, .ptr 0 []),(4, .ptr 1 []),(7, .ptr 2 [])],[.box 30 (.agg [vs a,vb ar, .agg [vi au,vi av,vi aw,vi ax,vi ay], .own 3,vi az, .own 4,vt b,vi f]), .box 30 (.agg [vs ([]:LB), .nils, .agg [vi 0,vi 0,vi 0,vi 0,vi 0], .nils,vi 0, .nils,vt false,vi 0]), .box 77 (.agg [vt bh,vi be]),Ai 3 ba,Ab 5 bb],[]⟩
def x70(kn37:K_)(a:LB)(b:Bool)(f:Int)(g:LB)(m p o u v h:Int)(k:LI)(n:LB):Option R_:=H.e P_ [r,r,r,r,d,(lp kn37),d,l,(call 0 38),r,r] ⟨[(2, .ptr 0 [])],[.box 77 (.agg [vt false,vi 0]), .box 30 (.agg [vs a,vb g, .agg [vi m,vi p,vi o,vi u,vi v], .own 3,vi h, .own 4,vt b,vi f]), .box 30 (.agg [vs ([]:LB), .nils, .agg [vi 0,vi 0,vi 0,vi 0,vi 0], .nils,vi 0, .nils,vt false,vi 0]),Ai 3 k,Ab 5 n],[[(2, .ptr 1 []),(4, .ptr 2 [])]]⟩
def x62(kn37:K_)(a:LB)(b:Bool)(f h:Int)(k:LI)(n:LB)(bj:Bool)(bk:Int)(bl:LB)(bm bn bp bq br:Int):Option R_:=H.e P_ [r,r,r,r,d,(lp kn37),d,l,(call 0 38),r,l,d,r,l,r] ⟨[(2, .ptr 0 [])],[.box 77 (.agg [vt bj,vi bk]), .box 30 (.agg [vs a,vb bl, .agg [vi bm,vi bn,vi bp,vi bq,vi br], .own 3,vi h, .own 4,vt b,vi f]), .box 30 (.agg [vs ([]:LB), .nils, .agg [vi 0,vi 0,vi 0,vi 0,vi 0], .nils,vi 0, .nils,vt false,vi 0]),Ai 3 k,Ab 5 n],[[(2, .ptr 1 []),(4, .ptr 2 [])]]⟩
def x61(kn37:K_)(a:LB)(b:Bool)(f:Int)(af:LB)(ab ac y ad aa h:Int)(k:LI)(n:LB):Option R_:=H.e P_ [r,r,r,r,d,(lp kn37),d,l,(call 0 38),r,l,d,r,l,l,(call 1 79),r,r,r,r,r,r] ⟨[(0, .ptr 0 []),(2, .ptr 1 []),(5, .ptr 2 [])],[.box 30 (.agg [vs a,vb af, .agg [vi ab,vi ac,vi y,vi ad,vi aa], .own 5,vi h, .own 6,vt b,vi f]), .box 77 (.agg [vt false,vi 0]), .box 27 (.agg [vi ab,vi ac,vi y,vi ad,vi aa]), .box 77 (.agg [vt false,vi 0]), .box 30 (.agg [vs ([]:LB), .nils, .agg [vi 0,vi 0,vi 0,vi 0,vi 0], .nils,vi 0, .nils,vt false,vi 0]),Ai 3 k,Ab 5 n],[[(2, .ptr 3 [])],[(2, .ptr 0 []),(4, .ptr 4 [])]]⟩
def x75(kn37:K_)(a:LB)(b:Bool)(f m p o u v h:Int)(n:LB)(bs:Bool)(bt:Int)(bu:LB)(bv:LI):Option R_:=H.e P_ [r,r,r,r,d,(lp kn37),d,l,(call 0 38),r,l,d,r,r,r,l,r] ⟨[(2, .ptr 0 [])],[.box 77 (.agg [vt bs,vi bt]), .box 30 (.agg [vs a,vb bu, .agg [vi m,vi p,vi o,vi u,vi v], .own 3,vi h, .own 4,vt b,vi f]), .box 30 (.agg [vs ([]:LB), .nils, .agg [vi 0,vi 0,vi 0,vi 0,vi 0], .nils,vi 0, .nils,vt false,vi 0]),Ai 3 bv,Ab 5 n],[[(2, .ptr 1 []),(4, .ptr 2 [])]]⟩
def x74(kn37:K_)(a:LB)(b:Bool)(f:Int)(g:LB)(m p o u v h:Int)(k:LI)(n:LB)(bf:Int):Option R_:=H.e P_ [r,r,r,r,d,(lp kn37),d,l,(call 0 38),r,l,d,r,r,r,l,l,(call 1 80),r,r,r] ⟨[(0, .ptr 0 []),(2, .ptr 1 []),(3,vi bf)],[.box 30 (.agg [vs a,vb g, .agg [vi m,vi p,vi o,vi u,vi v], .own 4,vi h, .own 5,vt b,vi f]), .box 77 (.agg [vt false,vi 0]), .box 77 (.agg [vt false,vi 0]), .box 30 (.agg [vs ([]:LB), .nils, .agg [vi 0,vi 0,vi 0,vi 0,vi 0], .nils,vi 0, .nils,vt false,vi 0]),Ai 3 k,Ab 5 n],[[(2, .ptr 2 [])],[(2, .ptr 0 []),(4, .ptr 3 [])]]⟩
def x64(kn37:K_)(a:LB)(b:Bool)(f:Int)(bd:Bool)(aq:Int)(g:LB)(m p o u v h:Int)(k:LI)(n:LB):Option R_:=H.e P_ [r,r,r,r,d,(lp kn37),d,l,(call 0 38),r,l,d,r,r,r,l,l,(call 1 80),r,r,l,r,l,r,r,r] ⟨[(0, .ptr 0 []),(2, .ptr 1 []),(3,vi 8),(4,vt bd),(5,vi aq)],[.box 30 (.agg [vs a,vb g, .agg [vi m,vi p,vi o,vi u,vi v], .own 4,vi h, .own 5,vt b,vi f]), .box 77 (.agg [vt false,vi 0]), .box 77 (.agg [vt false,vi 0]), .box 30 (.agg [vs ([]:LB), .nils, .agg [vi 0,vi 0,vi 0,vi 0,vi 0], .nils,vi 0, .nils,vt false,vi 0]),Ai 3 k,Ab 5 n],[[(2, .ptr 2 [])],[(2, .ptr 0 []),(4, .ptr 3 [])]]⟩
def x73(kn37:K_)(a:LB)(b:Bool)(f:Int)(g:LB)(m p o u v h:Int)(k:LI)(n:LB):Option R_:=H.e P_ [r,r,r,r,d,(lp kn37),d,l,(call 0 38),r,l,d,r,r,r,l,l,(call 1 80),r,r,l,r,l,r,r] ⟨[(0, .ptr 0 []),(2, .ptr 1 []),(3,vi 8)],[.box 30 (.agg [vs a,vb g, .agg [vi m,vi p,vi o,vi u,vi v], .own 4,vi h, .own 5,vt b,vi f]), .box 77 (.agg [vt false,vi 0]), .box 77 (.agg [vt false,vi 0]), .box 30 (.agg [vs ([]:LB), .nils, .agg [vi 0,vi 0,vi 0,vi 0,vi 0], .nils,vi 0, .nils,vt false,vi 0]),Ai 3 k,Ab 5 n],[[(2, .ptr 2 [])],[(2, .ptr 0 []),(4, .ptr 3 [])]]⟩
def x78(kn37:K_)(a:LB)(b:Bool)(f m p o u v:Int)(k:LI)(bx:Bool)(bz:Int)(da:LB)(db:Int)(dc:LB):Option R_:=H.e P_ [r,r,r,r,d,(lp kn37),d,l,(call 0 38),r,l,d,r,r,r,r,r,l,r] ⟨[(2, .ptr 0 [])],[.box 77 (.agg [vt bx,vi bz]), .box 30 (.agg [vs a,vb da, .agg [vi m,vi p,vi o,vi u,vi v], .own 3,vi db, .own 4,vt b,vi f]), .box 30 (.agg [vs ([]:LB), .nils, .agg [vi 0,vi 0,vi 0,vi 0,vi 0], .nils,vi 0, .nils,vt false,vi 0]),Ai 3 k,Ab 5 dc],[[(2, .ptr 1 []),(4, .ptr 2 [])]]⟩
def x77(kn37:K_)(a:LB)(b:Bool)(f w ag:Int)(g:LB)(m p o u v h:Int)(am:LX)(k:LI)(n:LB):Option R_:=H.e P_ [r,r,r,r,d,(lp kn37),d,l,(call 0 38),r,l,d,r,r,r,r,r,l,l,(call 1 81),r,r,r,r,r,r,r,r] ⟨[(0, .ptr 0 []),(2, .ptr 1 []),(3,vi w),(5,vi ag),(7, .own 2)],[.box 30 (.agg [vs a,vb g, .agg [vi m,vi p,vi o,vi u,vi v], .own 5,vi h, .own 6,vt b,vi f]), .box 77 (.agg [vt false,vi 0]),Aw 21 am, .box 77 (.agg [vt false,vi 0]), .box 30 (.agg [vs ([]:LB), .nils, .agg [vi 0,vi 0,vi 0,vi 0,vi 0], .nils,vi 0, .nils,vt false,vi 0]),Ai 3 k,Ab 5 n],[[(2, .ptr 3 [])],[(2, .ptr 0 []),(4, .ptr 4 [])]]⟩
def x76(kn37:K_)(a:LB)(b:Bool)(f w:Int)(g:LB)(m p o u v h:Int)(an:LX)(ae k:LI)(n:LB):Option R_:=H.e P_ [r,r,r,r,d,(lp kn37),d,l,(call 0 38),r,l,d,r,r,r,r,r,l,l,(call 1 81),r,r,r,r,r,r,r] ⟨[(0, .ptr 0 []),(2, .ptr 1 []),(3,vi w),(4, .ptr 2 []),(6, .own 3)],[.box 30 (.agg [vs a,vb g, .agg [vi m,vi p,vi o,vi u,vi v], .own 6,vi h, .own 7,vt b,vi f]), .box 77 (.agg [vt false,vi 0]), .box 110 (.val (.vec 16 (.int .i32)) an),Ai 3 ae, .box 77 (.agg [vt false,vi 0]), .box 30 (.agg [vs ([]:LB), .nils, .agg [vi 0,vi 0,vi 0,vi 0,vi 0], .nils,vi 0, .nils,vt false,vi 0]),Ai 3 k,Ab 5 n],[[(2, .ptr 4 [])],[(2, .ptr 0 []),(4, .ptr 5 [])]]⟩
def x37(a:LB)(b:Bool)(f:Int)(g:LB)(m p o u v h:Int)(k:LI)(n:LB):Option R_:=H.e P_ [r,r,r,r,d] (t37 a b f g m p o u v h k n)
theorem e71(kn37:K_)(a:LB)(b:Bool)(f:Int):x71 kn37 a b f=Bn (fun g m p o u v h k n=>kn37 (t37 a b f g m p o u v h k n)) a b f:=by kernel_rfl
theorem e70(kn37:K_)(a:LB)(b:Bool)(f:Int):x70 kn37 a b f=Aae (fun g m p o u v h k n=>kn37 (t37 a b f g m p o u v h k n)) a b f:=Eq.trans (b:=Apa (x71 kn37 a b f) a b f) (by kernel_rfl) (by simp only[e71]<;>rfl)
theorem e62(kn37:K_)(a:LB)(b:Bool)(f:Int):x62 kn37 a b f=Nd (fun g m p o u v h k n=>kn37 (t37 a b f g m p o u v h k n)) a b f:=Eq.trans (b:=Apb (x71 kn37 a b f) a b f) (by kernel_rfl) (by simp only[e71]<;>rfl)
theorem e61(kn37:K_)(a:LB)(b:Bool)(f:Int):x61 kn37 a b f=Sn (fun g m p o u v h k n=>kn37 (t37 a b f g m p o u v h k n)) a b f:=Eq.trans (b:=Agr (x62 kn37 a b f) a b f) (by kernel_rfl) (by simp only[e62]<;>rfl)
theorem e75(kn37:K_)(a:LB)(b:Bool)(f:Int):x75 kn37 a b f=Kl (fun g m p o u v h k n=>kn37 (t37 a b f g m p o u v h k n)) a b f:=Eq.trans (b:=Apc (x71 kn37 a b f) a b f) (by kernel_rfl) (by simp only[e71]<;>rfl)
theorem e74(kn37:K_)(a:LB)(b:Bool)(f:Int):x74 kn37 a b f=Ka (fun g m p o u v h k n=>kn37 (t37 a b f g m p o u v h k n)) a b f:=Eq.trans (b:=Age (x75 kn37 a b f) a b f) (by kernel_rfl) (by simp only[e75]<;>rfl)
theorem e64(kn37:K_)(a:LB)(b:Bool)(f:Int):x64 kn37 a b f=Agi (fun g m p o u v h k n=>kn37 (t37 a b f g m p o u v h k n)) a b f:=Eq.trans (b:=Agq (x75 kn37 a b f) (x74 kn37 a b f) a b f) (by kernel_rfl) (by simp only[e75,e74]<;>rfl)
theorem e73(kn37:K_)(a:LB)(b:Bool)(f:Int):x73 kn37 a b f=Tn (fun g m p o u v h k n=>kn37 (t37 a b f g m p o u v h k n)) a b f:=Eq.trans (b:=Af5 (x64 kn37 a b f) a b f) (by kernel_rfl) (by simp only[e64]<;>rfl)
theorem e78(kn37:K_)(a:LB)(b:Bool)(f:Int):x78 kn37 a b f=Ng (fun g m p o u v h k n=>kn37 (t37 a b f g m p o u v h k n)) a b f:=Eq.trans (b:=Apo (x71 kn37 a b f) a b f) (by kernel_rfl) (by simp only[e71]<;>rfl)
theorem e77(kn37:K_)(a:LB)(b:Bool)(f:Int):x77 kn37 a b f=Af6 (fun g m p o u v h k n=>kn37 (t37 a b f g m p o u v h k n)) a b f:=Eq.trans (b:=Adn (x78 kn37 a b f) a b f) (by kernel_rfl) (by rw[Aus];simp only[e78]<;>rfl)
theorem e76(kn37:K_)(a:LB)(b:Bool)(f:Int):x76 kn37 a b f=Sy (fun g m p o u v h k n=>kn37 (t37 a b f g m p o u v h k n)) a b f:=Eq.trans (b:=Agb (x77 kn37 a b f) a b f) (by kernel_rfl) (by simp only[e77]<;>rfl)
theorem i37(a:LB)(b:Bool)(f:Int):∀(q:Nat) (g:LB) (m p o u v h:Int) (k:LI) (n:LB),z37 q (t37 a b f g m p o u v h k n)=Ar a b f q g m p o u v h k n:=
 ind (fun _ _ _ _ _ _ _ _ _=>by kernel_rfl) fun q ih g m p o u v h k n=>Eq.trans (b:=Aew (x62 (z37 q) a b f) (x61 (z37 q) a b f) (x75 (z37 q) a b f) (x73 (z37 q) a b f) (x74 (z37 q) a b f) (x78 (z37 q) a b f) (x76 (z37 q) a b f) (x71 (z37 q) a b f) (x70 (z37 q) a b f) a b f g m p o u v h k n) (by kernel_rfl) (by rw[At4];simp only[e62,e61,e75,e73,e74,e78,e76,e71,e70,ih]<;>rfl)
theorem e37:x37=Ao7:=by funext a b f g m p o u v h k n;exact Eq.trans (by kernel_rfl) ((i37 a b f Bi g m p o u v h k n).trans (by rw[Al];rfl))
noncomputable def F:=u13 Hm
theorem rn x:H.u P_ x=F x:=Eq.trans (b:=u13 (Va x37) x) (by kernel_rfl) (by simp only[e37]<;>rfl)
noncomputable def c:Con:=⟨H.p,H.r,F⟩
theorem ok:ConOk P_ gl 12 c:=cr H func12 (.cons F25.ok (.cons F37.ok (.cons F39.ok (.cons F40.ok (.cons Ak8 (.cons F56.ok (.cons F57.ok (.cons F58.ok (.cons F59.ok (.cons F65.ok (.cons F66.ok (.cons F82.ok (.cons F84.ok (.cons F130.ok (.cons F131.ok .nil))))))))))))))) (AnsOk.cons ent38 (AnsOk.cons ent79 (AnsOk.cons ent80 (AnsOk.cons ent81 AnsOk.nil)))) rn
end F12
namespace F35
noncomputable def H:Hd:=⟨[Sb],[.agg [Ss,Ob 5, .agg [Si,Si,Si,Si,Si],Ol 3,Si,Sb,Sz,Si],Sz], .d,⟨[(11,F11.c),(12,F12.c)],gl,false⟩,[],f35⟩
noncomputable def F:=Rh
theorem rn x:H.u P_ x=F x:=by kernel_rfl
noncomputable def c:Con:=⟨H.p,H.r,F⟩
theorem ok:ConOk P_ gl 35 c:=co H func35 (.cons F11.ok (.cons F12.ok .nil)) rn
end F35
namespace F111
abbrev R_:=(Int×Int)
noncomputable def H:Hd:=⟨[Sb],[Si,Si],(.seq .d (.seq .d (.cut [0,4] [] .d .d))),⟨[(52,F52.c),(161,F161.c),(162,F162.c),(163,F163.c)],gl,false⟩,[],f111⟩
def x2(a:LB):Option R_:=H.e P_ [r,r,r] ⟨[(0,vb a),(4,vi (Aj (Ac a) (32:Int)))],[],[]⟩
theorem e2:x2=Asx:=by kernel_rfl
noncomputable def F:=Aza
theorem rn x:H.u P_ x=F x:=Eq.trans (b:=At8 x2 x) (by kernel_rfl) (by simp only[e2]<;>rfl)
noncomputable def c:Con:=⟨H.p,H.r,F⟩
theorem ok:ConOk P_ gl 111 c:=co H func111 (.cons F52.ok (.cons F161.ok (.cons F162.ok (.cons F163.ok .nil)))) rn
end F111
namespace F61
abbrev R_:=(Int×Int)
abbrev K_:=S→Option R_
noncomputable def H:Hd:=⟨[Sb],[Si,Si],(.seq .d (.seq .d (.seq .d (.seq .d (.cut [5] [] (.blk (.loop [1,4,5] [] (.seq .d (.cut [1,4,5] [] (.blk (.cut [1,4,5,6] [] (.keep [1,4,5,6,16,17] true) .d)) .d)))) .d))))),⟨[(111,F111.c)],gl,false⟩,[(110, .d)],f61⟩
def t8(a:Int)(b:LB):S:=⟨[(1, .ptr 0 []),(4, .fn 110 [.ptr 0 []]),(5,vi a)],[.box 22 (vb b)],[]⟩
def z8:Nat→S→Option R_:=H.i P_ [r,r,r,r,l,d]
def x14(a:Int):Option R_:=H.e P_ [r,r,r,r,r] ⟨[(5,vi a)],[],[]⟩
def x12(kn8:K_)(a:Int)(g:LB):Option R_:=H.e P_ [r,r,r,r,l,d,(lp kn8),r,r] ⟨[(1, .ptr 0 []),(4, .fn 110 [.ptr 0 []]),(5,vi a)],[.box 22 (vb g)],[]⟩
def x11(kn8:K_)(a f:Int)(b:LB):Option R_:=H.e P_ [r,r,r,r,l,d,(lp kn8),r,l,d,r] ⟨[(1, .ptr 0 []),(4, .fn 110 [.ptr 0 []]),(5,vi a),(6,vi f)],[.box 22 (vb b)],[]⟩
def x8(a:Int)(b:LB):Option R_:=H.e P_ [r,r,r,r,l,d] (t8 a b)
theorem e14:x14=Ao8:=by kernel_rfl
theorem e12(kn8:K_):x12 kn8=Agl (fun a b=>kn8 (t8 a b)):=by kernel_rfl
theorem e11(kn8:K_):x11 kn8=Ag0 (fun a b=>kn8 (t8 a b)):=Eq.trans (b:=Agc (x12 kn8)) (by kernel_rfl) (by simp only[e12]<;>rfl)
theorem i8:∀(q:Nat) (a:Int) (b:LB),z8 q (t8 a b)=Vg q a b:=
 ind (fun _ _=>by kernel_rfl) fun q ih a b=>Eq.trans (b:=Ai8 (x11 (z8 q)) x14 a b) (by kernel_rfl) (by simp only[e11,e14,ih]<;>rfl)
theorem e8:x8=Ar1:=by funext a b;exact Eq.trans (by kernel_rfl) ((i8 Bi a b).trans (by rw[Al];rfl))
noncomputable def F:=Aeg
theorem rn x:H.u P_ x=F x:=Eq.trans (b:=Ai4 x8 x) (by kernel_rfl) (by simp only[e8]<;>rfl)
noncomputable def c:Con:=⟨H.p,H.r,F⟩
theorem ok:ConOk P_ gl 61 c:=cr H func61 (.cons F111.ok .nil) (AnsOk.cons ent110 AnsOk.nil) rn
end F61
namespace F47
noncomputable def H:Hd:=⟨[.agg [Ss,Sb, .agg [Si,Si,Si,Si,Si],Sl,Si,Sb,Sz,Si]],[Si], .d,⟨[(55,Abf),(56,F56.c),(61,F61.c)],gl,false⟩,[],f47⟩
noncomputable def F:=u12 Ae3
theorem rn x:H.u P_ x=F x:=by kernel_rfl
noncomputable def c:Con:=⟨H.p,H.r,F⟩
theorem ok:ConOk P_ gl 47 c:=co H func47 (.cons Ak8 (.cons F56.ok (.cons F61.ok .nil))) rn
end F47
namespace F17
noncomputable def H:Hd:=⟨[.agg [Ss,Sb, .agg [Si,Si,Si,Si,Si],Sl,Si,Sb,Sz,Si]],[.agg [Ss,Ob 5, .agg [Si,Si,Si,Si,Si],Ol 3,Si,Sb,Sz,Si],Si], .d,⟨[(37,F37.c),(40,F40.c),(47,F47.c)],gl,false⟩,[],f17⟩
noncomputable def F:=u12 It
theorem rn x:H.u P_ x=F x:=by kernel_rfl
noncomputable def c:Con:=⟨H.p,H.r,F⟩
theorem ok:ConOk P_ gl 17 c:=co H func17 (.cons F37.ok (.cons F40.ok (.cons F47.ok .nil))) rn
end F17
namespace F36
noncomputable def H:Hd:=⟨[Sb,Ss],[.agg [Ss,Ob 5, .agg [Si,Si,Si,Si,Si],Ol 3,Si,Sb,Sz,Si],Si], .d,⟨[(11,F11.c),(12,F12.c),(17,F17.c)],gl,false⟩,[],f36⟩
noncomputable def F:=u2 Lo
theorem rn x:H.u P_ x=F x:=by kernel_rfl
noncomputable def c:Con:=⟨H.p,H.r,F⟩
theorem ok:ConOk P_ gl 36 c:=co H func36 (.cons F11.ok (.cons F12.ok (.cons F17.ok .nil))) rn
end F36
namespace F9
noncomputable def H:Hd:=⟨[],[Sz], .d,⟨[(34,F34.c),(35,F35.c),(36,F36.c)],gl,false⟩,[],f9⟩
noncomputable def F(x:Unit):=Uc
theorem rn x:H.u P_ x=F x:=by kernel_rfl
noncomputable def c:Con:=⟨H.p,H.r,F⟩
theorem ok:ConOk P_ gl 9 c:=co H func9 (.cons F34.ok (.cons F35.ok (.cons F36.ok .nil))) rn
end F9
namespace F10
noncomputable def H:Hd:=⟨[Sb],[Sz], .d,⟨[],gl,false⟩,[],f10⟩
noncomputable def F:=Ll
theorem rn x:H.u P_ x=F x:=by kernel_rfl
noncomputable def c:Con:=⟨H.p,H.r,F⟩
theorem ok:ConOk P_ gl 10 c:=co H func10 .nil rn
end F10
namespace F133
noncomputable def H:Hd:=⟨[.agg [Si,Si,Si,Si,Si]],[Sz], .d,⟨[],gl,false⟩,[],f133⟩
noncomputable def F:=u5 Gl
theorem rn x:H.u P_ x=F x:=by kernel_rfl
noncomputable def c:Con:=⟨H.p,H.r,F⟩
theorem ok:ConOk P_ gl 133 c:=co H func133 .nil rn
end F133
namespace F68
noncomputable def H:Hd:=⟨[Si],[Si], .d,⟨[],gl,false⟩,[],f68⟩
noncomputable def F:=Qk
theorem rn x:H.u P_ x=F x:=by kernel_rfl
noncomputable def c:Con:=⟨H.p,H.r,F⟩
theorem ok:ConOk P_ gl 68 c:=co H func68 .nil rn
end F68
namespace F27
abbrev R_:=LI
noncomputable def H:Hd:=⟨[Si,Si],[Ol 3],(.seq .d (.seq .d (.cut [5] [] (.seq .d (.blk (.loop [0,5,6] [⟨5,[], .own 3 (.int .i64)⟩] .d))) .d))),⟨[(68,F68.c)],gl,false⟩,[],f27⟩
def t4(b f:Int)(a:LI):S:=⟨[(0,vi b),(5, .own 0),(6,vi f)],[Ai 3 a],[]⟩
def z4:Nat→S→Option R_:=H.i P_ [r,r,l,r,d]
def x6(a:LI):Option R_:=H.e P_ [r,r,r] ⟨[(5, .own 0)],[Ai 3 a],[]⟩
def x4(b f:Int)(a:LI):Option R_:=H.e P_ [r,r,l,r,d] (t4 b f a)
theorem e6:x6=Jv:=by kernel_rfl
theorem i4(b:Int):∀(q:Nat) (f:Int) (a:LI),z4 q (t4 b f a)=Dl b q f a:=
 ind (fun _ _=>by kernel_rfl) fun q ih f a=>Eq.trans (b:=Gz x6 (fun f a=>(z4 q) (t4 b f a)) b f a) (by kernel_rfl) (by simp only[e6,ih]<;>rfl)
theorem e4:x4=Wj:=by funext b f a;exact Eq.trans (by kernel_rfl) ((i4 b Bi f a).trans (by rw[Al];rfl))
noncomputable def F:=u2 Fp
theorem rn x:H.u P_ x=F x:=Eq.trans (b:=u2 (Wq x4) x) (by kernel_rfl) (by simp only[e4]<;>rfl)
noncomputable def c:Con:=⟨H.p,H.r,F⟩
theorem ok:ConOk P_ gl 27 c:=co H func27 (.cons F68.ok .nil) rn
end F27
namespace F134
def Wi(h a k f b:Int):Option Bool:=
(fun m:Option Bool=>
(fun n:Option Bool=>
bo (
n)) (
(Kj (Ay a 0)).bind fun _=>
bo (
m))) (
if(Ee b (Cp 4000 a))then
some true
else
(Fp f b).bind fun g=>
some (Ee (Ac g) 1000))
theorem Ans: @Wi= @Ij:=by
  unfold Wi Ij
  simp only[Ah6,Xz,Xx]
noncomputable def H:Hd:=⟨[.agg [Si,Si,Si,Si,Si]],[Sz],(.seq .d (.seq (.mode false) .d)),⟨[(27,F27.c)],gl,false⟩,[],f134⟩
noncomputable def F:=u5 Ij
theorem rn x:H.u P_ x=F x:=Eq.trans (b:=u5 Wi x) (by kernel_rfl) (by rw[Ans];rfl)
noncomputable def c:Con:=⟨H.p,H.r,F⟩
theorem ok:ConOk P_ gl 134 c:=co H func134 (.cons F27.ok .nil) rn
end F134
namespace F87
noncomputable def H:Hd:=⟨[.agg [Si,Si,Si,Si,Si]],[Si], .d,⟨[(133,F133.c),(134,F134.c)],gl,false⟩,[],f87⟩
noncomputable def F:=u5 Hs
theorem rn x:H.u P_ x=F x:=by kernel_rfl
noncomputable def c:Con:=⟨H.p,H.r,F⟩
theorem ok:ConOk P_ gl 87 c:=co H func87 (.cons F133.ok (.cons F134.ok .nil)) rn
end F87
namespace F88
noncomputable def H:Hd:=⟨[.agg [Si,Si,Si,Si,Si],Ss],[Si], .d,⟨[],gl,false⟩,[],f88⟩
noncomputable def F:=u6 Dh
theorem rn x:H.u P_ x=F x:=by kernel_rfl
noncomputable def c:Con:=⟨H.p,H.r,F⟩
theorem ok:ConOk P_ gl 88 c:=co H func88 .nil rn
end F88
namespace F89
abbrev R_:=Int
abbrev K_:=S→Option R_
noncomputable def H:Hd:=⟨[Sl],[Si],(.seq .d (.seq .d (.seq .d (.cut [3] [] (.seq .d (.blk (.loop [0,3,4] [] (.seq .d (.seq (.blk (.cut [0,3,4] [] .d .d)) .d))))) .d)))),⟨[],gl,false⟩,[],f89⟩
def t6(a:LI)(b f:Int):S:=⟨[(0,vl a),(3,vi b),(4,vi f)],[],[]⟩
def z6:Nat→S→Option R_:=H.i P_ [r,r,r,l,r,d]
def x10(b:Int):Option R_:=H.e P_ [r,r,r,r] ⟨[(3,vi b)],[],[]⟩
def x8(kn6:K_)(a:LI)(b f:Int):Option R_:=H.e P_ [r,r,r,l,r,d,(lp kn6),r,l,d,r] ⟨[(0,vl a),(3,vi b),(4,vi f)],[],[]⟩
def x6(a:LI)(b f:Int):Option R_:=H.e P_ [r,r,r,l,r,d] (t6 a b f)
theorem e10:x10=Ua:=by kernel_rfl
theorem e8(kn6:K_)(a:LI):x8 kn6 a=Wf (fun b f=>kn6 (t6 a b f)) a:=by kernel_rfl
theorem i6(a:LI):∀(q:Nat) (b f:Int),z6 q (t6 a b f)=Gx a q b f:=
 ind (fun _ _=>by kernel_rfl) fun q ih b f=>Eq.trans (b:=Oq (x8 (z6 q) a) x10 a b f) (by kernel_rfl) (by simp only[e8,e10,ih]<;>rfl)
theorem e6:x6=Wu:=by funext a b f;exact Eq.trans (by kernel_rfl) ((i6 a Bi b f).trans (by rw[Al];rfl))
noncomputable def F:=Fj
theorem rn x:H.u P_ x=F x:=Eq.trans (b:=Nx x6 x) (by kernel_rfl) (by simp only[e6]<;>rfl)
noncomputable def c:Con:=⟨H.p,H.r,F⟩
theorem ok:ConOk P_ gl 89 c:=co H func89 .nil rn
end F89
namespace F90
noncomputable def H:Hd:=⟨[.agg [Si,Si,Si,Si,Si]],[Ol 3], .d,⟨[(27,F27.c)],gl,false⟩,[],f90⟩
noncomputable def F:=u5 Du
theorem rn x:H.u P_ x=F x:=by kernel_rfl
noncomputable def c:Con:=⟨H.p,H.r,F⟩
theorem ok:ConOk P_ gl 90 c:=co H func90 (.cons F27.ok .nil) rn
end F90
namespace F135
noncomputable def H:Hd:=⟨[.agg [Si,Si,Si,Si,Si]],[.agg [Si,Si]], .d,⟨[],gl,false⟩,[],f135⟩
noncomputable def F:=u5 Fh
theorem rn x:H.u P_ x=F x:=by kernel_rfl
noncomputable def c:Con:=⟨H.p,H.r,F⟩
theorem ok:ConOk P_ gl 135 c:=co H func135 .nil rn
end F135
namespace F26
noncomputable def H:Hd:=⟨[.agg [Si,Si]],[Si], .d,⟨[],gl,false⟩,[],f26⟩
noncomputable def F:=u2 Aap
theorem rn x:H.u P_ x=F x:=by kernel_rfl
noncomputable def c:Con:=⟨H.p,H.r,F⟩
theorem ok:ConOk P_ gl 26 c:=co H func26 .nil rn
end F26
namespace F91
abbrev R_:=Int
noncomputable def H:Hd:=⟨[.agg [Si,Si,Si,Si,Si],Si],[Si],(.seq .d (.seq .d (.seq .d (.cut [2,6] [] (.seq .d (.blk (.loop [1,2,5,6,7] [] .d))) .d)))),⟨[(26,F26.c),(90,F90.c),(135,F135.c)],gl,false⟩,[],f91⟩
def t4(n a b f g h:Int)(m:LI)(k o:Int):S:=⟨[(1,vi n),(2, .ptr 0 []),(5, .own 1),(6,vi k),(7,vi o)],[.box 27 (.agg [vi a,vi b,vi f,vi g,vi h]),Ai 3 m],[]⟩
def z4:Nat→S→Option R_:=H.i P_ [r,r,r,l,r,d]
def x6(k a b f g h:Int):Option R_:=H.e P_ [r,r,r,r] ⟨[(2, .ptr 0 []),(6,vi k)],[.box 27 (.agg [vi a,vi b,vi f,vi g,vi h])],[]⟩
def x4(n a b f g h:Int)(m:LI)(k o:Int):Option R_:=H.e P_ [r,r,r,l,r,d] (t4 n a b f g h m k o)
theorem e6:x6=Xw:=by kernel_rfl
theorem i4(n a b f g h:Int)(m:LI):∀(q:Nat) (k o:Int),z4 q (t4 n a b f g h m k o)=Hz n a b f g h m q k o:=
 ind (fun _ _=>by kernel_rfl) fun q ih k o=>Eq.trans (b:=Pv x6 (fun k o=>(z4 q) (t4 n a b f g h m k o)) n a b f g h m k o) (by kernel_rfl) (by simp only[e6,ih]<;>rfl)
theorem e4:x4=Ahq:=by funext n a b f g h m k o;exact Eq.trans (by kernel_rfl) ((i4 n a b f g h m Bi k o).trans (by rw[Al];rfl))
noncomputable def F:=u6 Qc
theorem rn x:H.u P_ x=F x:=Eq.trans (b:=u6 (Zf x4) x) (by kernel_rfl) (by simp only[e4]<;>rfl)
noncomputable def c:Con:=⟨H.p,H.r,F⟩
theorem ok:ConOk P_ gl 91 c:=co H func91 (.cons F26.ok (.cons F90.ok (.cons F135.ok .nil))) rn
end F91
namespace F278
abbrev R_:=(Int×Int)
noncomputable def H:Hd:=⟨[Sb],[Si,Si],(.seq .d (.seq .d (.seq .d (.cut [4] [] (.seq .d (.blk (.loop [0,4,5] [] .d))) .d)))),⟨[],gl,false⟩,[],f278⟩
def t4(b:LB)(a f:Int):S:=⟨[(0,vb b),(4,vi a),(5,vi f)],[],[]⟩
def z4:Nat→S→Option R_:=H.i P_ [r,r,r,l,r,d]
def x6(a:Int):Option R_:=H.e P_ [r,r,r,r] ⟨[(4,vi a)],[],[]⟩
def x4(b:LB)(a f:Int):Option R_:=H.e P_ [r,r,r,l,r,d] (t4 b a f)
theorem e6:x6=Afp:=by kernel_rfl
theorem i4(b:LB):∀(q:Nat) (a f:Int),z4 q (t4 b a f)=Gy b q a f:=
 ind (fun _ _=>by kernel_rfl) fun q ih a f=>Eq.trans (b:=Of x6 (fun a f=>(z4 q) (t4 b a f)) b a f) (by kernel_rfl) (by simp only[e6,ih]<;>rfl)
theorem e4:x4=Vy:=by funext b a f;exact Eq.trans (by kernel_rfl) ((i4 b Bi a f).trans (by rw[Al];rfl))
noncomputable def F:=Tz
theorem rn x:H.u P_ x=F x:=Eq.trans (b:=Vu x4 x) (by kernel_rfl) (by simp only[e4]<;>rfl)
noncomputable def c:Con:=⟨H.p,H.r,F⟩
theorem ok:ConOk P_ gl 278 c:=co H func278 .nil rn
end F278
namespace F251
abbrev R_:=(Int×Int)
noncomputable def H:Hd:=⟨[Sb],[Si,Si],(.seq .d (.cut [0] [] .d (.seq .d (.seq .d (.cut [0,4] [] .d (.seq .d (.cut [0,6] [] .d .d))))))),⟨[(278,F278.c)],gl,false⟩,[],f251⟩
def x6(a:LB)(g:Int):Option R_:=H.e P_ [r,r,r,r,r,r,r] ⟨[(0,vb a),(6,vi g)],[],[]⟩
def x5(a:LB)(b:Int):Option R_:=H.e P_ [r,r,r,r,r] ⟨[(0,vb a),(4,vi b)],[],[]⟩
def x4(a:LB):Option R_:=H.e P_ [r,r] ⟨[(0,vb a)],[],[]⟩
theorem e6:x6=Qj:=by kernel_rfl
theorem e5:x5=Pm:=Eq.trans (b:=Zn x6) (by kernel_rfl) (by simp only[e6]<;>rfl)
theorem e4:x4=Zm:=Eq.trans (b:=Yd x5) (by kernel_rfl) (by simp only[e5]<;>rfl)
noncomputable def F:=Xc
theorem rn x:H.u P_ x=F x:=Eq.trans (b:=Zk x4 x) (by kernel_rfl) (by simp only[e4]<;>rfl)
noncomputable def c:Con:=⟨H.p,H.r,F⟩
theorem ok:ConOk P_ gl 251 c:=co H func251 (.cons F278.ok .nil) rn
end F251
namespace F216
abbrev R_:=UInt64
noncomputable def H:Hd:=⟨[Sb],[Sq],(.seq .d (.seq .d (.cut [3] [] (.seq .d (.blk (.loop [0,3,4] [] .d))) .d))),⟨[],gl,false⟩,[],f216⟩
def t4(b:LB)(a:UInt64)(f:Int):S:=⟨[(0,vb b),(3,vq a),(4,vi f)],[],[]⟩
def z4:Nat→S→Option R_:=H.i P_ [r,r,l,r,d]
def x6(a:UInt64):Option R_:=H.e P_ [r,r,r] ⟨[(3,vq a)],[],[]⟩
def x4(b:LB)(a:UInt64)(f:Int):Option R_:=H.e P_ [r,r,l,r,d] (t4 b a f)
theorem e6:x6=Ab3:=by kernel_rfl
theorem i4(b:LB):∀(q:Nat) (a:UInt64) (f:Int),z4 q (t4 b a f)=Kk b q a f:=
 ind (fun _ _=>by kernel_rfl) fun q ih a f=>Eq.trans (b:=Tv x6 (fun a f=>(z4 q) (t4 b a f)) b a f) (by kernel_rfl) (by simp only[e6,ih]<;>rfl)
theorem e4:x4=Ab7:=by funext b a f;exact Eq.trans (by kernel_rfl) ((i4 b Bi a f).trans (by rw[Al];rfl))
noncomputable def F:=Am
theorem rn x:H.u P_ x=F x:=Eq.trans (b:=Abz x4 x) (by kernel_rfl) (by simp only[e4]<;>rfl)
noncomputable def c:Con:=⟨H.p,H.r,F⟩
theorem ok:ConOk P_ gl 216 c:=co H func216 .nil rn
end F216
namespace F279
noncomputable def H:Hd:=⟨[Sb],[Si,Si,Sz], .d,⟨[(216,F216.c)],gl,false⟩,[],f279⟩
noncomputable def F:=Pk
theorem rn x:H.u P_ x=F x:=by kernel_rfl
noncomputable def c:Con:=⟨H.p,H.r,F⟩
theorem ok:ConOk P_ gl 279 c:=co H func279 (.cons F216.ok .nil) rn
end F279
namespace F218
abbrev R_:=LB
noncomputable def H:Hd:=⟨[Sq,Si],[Ob 5],(.seq .d (.seq .d (.cut [5] [] (.seq .d (.blk (.loop [0,1,5,6] [⟨5,[], .own 5 (.int .u8)⟩] .d))) .d))),⟨[],gl,false⟩,[],f218⟩
def t4(b:Int)(f:UInt64)(g:Int)(a:LB):S:=⟨[(0,vq f),(1,vi b),(5, .own 0),(6,vi g)],[Ab 5 a],[]⟩
def z4:Nat→S→Option R_:=H.i P_ [r,r,l,r,d]
def x6(a:LB):Option R_:=H.e P_ [r,r,r] ⟨[(5, .own 0)],[Ab 5 a],[]⟩
def x4(b:Int)(f:UInt64)(g:Int)(a:LB):Option R_:=H.e P_ [r,r,l,r,d] (t4 b f g a)
theorem e6:x6=Sm:=by kernel_rfl
theorem i4(b:Int):∀(q:Nat) (f:UInt64) (g:Int) (a:LB),z4 q (t4 b f g a)=Fb b q f g a:=
 ind (fun _ _ _=>by kernel_rfl) fun q ih f g a=>Eq.trans (b:=Lu x6 (fun f g a=>(z4 q) (t4 b f g a)) b f g a) (by kernel_rfl) (by simp only[e6,ih]<;>rfl)
theorem e4:x4=Ry:=by funext b f g a;exact Eq.trans (by kernel_rfl) ((i4 b Bi f g a).trans (by rw[Al];rfl))
noncomputable def F:=u2 De
theorem rn x:H.u P_ x=F x:=Eq.trans (b:=u2 (Th x4) x) (by kernel_rfl) (by simp only[e4]<;>rfl)
noncomputable def c:Con:=⟨H.p,H.r,F⟩
theorem ok:ConOk P_ gl 218 c:=co H func218 .nil rn
end F218
namespace F297
noncomputable def H:Hd:=⟨[Si,Si,Sq],[Ob 5], .d,⟨[(218,F218.c)],gl,false⟩,[],f297⟩
noncomputable def F:=u3 Nb
theorem rn x:H.u P_ x=F x:=by kernel_rfl
noncomputable def c:Con:=⟨H.p,H.r,F⟩
theorem ok:ConOk P_ gl 297 c:=co H func297 (.cons F218.ok .nil) rn
end F297
namespace F280
noncomputable def H:Hd:=⟨[Si,Si],[Ob 5], .d,⟨[(297,F297.c)],gl,false⟩,[],f280⟩
noncomputable def F:=u2 Qd
theorem rn x:H.u P_ x=F x:=by kernel_rfl
noncomputable def c:Con:=⟨H.p,H.r,F⟩
theorem ok:ConOk P_ gl 280 c:=co H func280 (.cons F297.ok .nil) rn
end F280
namespace F281
noncomputable def H:Hd:=⟨[Si,Si,Sz],[Ob 5], .d,⟨[(297,F297.c)],gl,false⟩,[],f281⟩
noncomputable def F:=u3 Iv
theorem rn x:H.u P_ x=F x:=by kernel_rfl
noncomputable def c:Con:=⟨H.p,H.r,F⟩
theorem ok:ConOk P_ gl 281 c:=co H func281 (.cons F297.ok .nil) rn
end F281
namespace F252
abbrev R_:=(Int×Int)
noncomputable def H:Hd:=⟨[Sb],[Si,Si],(.seq .d (.cut [0] [] .d (.seq .d (.seq .d (.cut [0,4,5] [] .d .d))))),⟨[(279,F279.c),(280,F280.c),(281,F281.c)],gl,false⟩,[],f252⟩
def x4(a:LB)(b f:Int):Option R_:=H.e P_ [r,r,r,r,r] ⟨[(0,vb a),(4,vi b),(5,vi f)],[],[]⟩
def x3(a:LB):Option R_:=H.e P_ [r,r] ⟨[(0,vb a)],[],[]⟩
theorem e4:x4=Vx:=by kernel_rfl
theorem e3:x3=Vw:=Eq.trans (b:=Wg x4) (by kernel_rfl) (by simp only[e4]<;>rfl)
noncomputable def F:=Ui
theorem rn x:H.u P_ x=F x:=Eq.trans (b:=Vt x3 x) (by kernel_rfl) (by simp only[e3]<;>rfl)
noncomputable def c:Con:=⟨H.p,H.r,F⟩
theorem ok:ConOk P_ gl 252 c:=co H func252 (.cons F279.ok (.cons F280.ok (.cons F281.ok .nil))) rn
end F252
namespace F215
abbrev R_:=(LI×Int)
abbrev K_:=S→Option R_
noncomputable def H:Hd:=⟨[Sb],[Ol 3,Si],(.seq .d (.seq .d (.seq .d (.blk (.loop [0,4,5] [⟨4,[], .own 3 (.int .i64)⟩] (.blk (.seq .d (.cut [0,4,5,6,7] [] .d .d)))))))),⟨[(251,F251.c),(252,F252.c)],gl,false⟩,[],f215⟩
def t6(a:LB)(b:Int)(f:LI):S:=⟨[(0,vb a),(4, .own 0),(5,vi b)],[Ai 3 f],[]⟩
def z6:Nat→S→Option R_:=H.i P_ [r,r,r,d]
def x9(kn6:K_)(a:LB)(b:Int)(f:LI)(g h:Int):Option R_:=H.e P_ [r,r,r,d,(lp kn6),d,r,r] ⟨[(0,vb a),(4, .own 0),(5,vi b),(6,vi g),(7,vi h)],[Ai 3 f],[]⟩
def x6(a:LB)(b:Int)(f:LI):Option R_:=H.e P_ [r,r,r,d] (t6 a b f)
theorem e9(kn6:K_)(a:LB):x9 kn6 a=Js (fun b f=>kn6 (t6 a b f)) a:=by kernel_rfl
theorem i6(a:LB):∀(q:Nat) (b:Int) (f:LI),z6 q (t6 a b f)=Jy a q b f:=
 ind (fun _ _=>by kernel_rfl) fun q ih b f=>Eq.trans (b:=Oe (x9 (z6 q) a) a b f) (by kernel_rfl) (by simp only[e9,ih]<;>rfl)
theorem e6:x6=Afk:=by funext a b f;exact Eq.trans (by kernel_rfl) ((i6 a Bi b f).trans (by rw[Al];rfl))
noncomputable def F:=Aby
theorem rn x:H.u P_ x=F x:=Eq.trans (b:=Afm x6 x) (by kernel_rfl) (by simp only[e6]<;>rfl)
noncomputable def c:Con:=⟨H.p,H.r,F⟩
theorem ok:ConOk P_ gl 215 c:=co H func215 (.cons F251.ok (.cons F252.ok .nil)) rn
end F215
namespace F179
abbrev R_:=(Int×Int)
noncomputable def H:Hd:=⟨[Sb],[Si,Si],(.seq .d (.seq .d (.seq .d (.cut [5,6] [] (.seq .d (.blk (.loop [4,5,6,7] [] .d))) .d)))),⟨[(215,F215.c)],gl,false⟩,[],f179⟩
def t4(a:Int)(f:LI)(b g:Int):S:=⟨[(4, .own 0),(5,vi a),(6,vi b),(7,vi g)],[Ai 3 f],[]⟩
def z4:Nat→S→Option R_:=H.i P_ [r,r,r,l,r,d]
def x6(a b:Int):Option R_:=H.e P_ [r,r,r,r] ⟨[(5,vi a),(6,vi b)],[],[]⟩
def x4(a:Int)(f:LI)(b g:Int):Option R_:=H.e P_ [r,r,r,l,r,d] (t4 a f b g)
theorem e6:x6=Vr:=by kernel_rfl
theorem i4(a:Int)(f:LI):∀(q:Nat) (b g:Int),z4 q (t4 a f b g)=Gw a f q b g:=
 ind (fun _ _=>by kernel_rfl) fun q ih b g=>Eq.trans (b:=Og x6 (fun b g=>(z4 q) (t4 a f b g)) a f b g) (by kernel_rfl) (by simp only[e6,ih]<;>rfl)
theorem e4:x4=Oj:=by funext a f b g;exact Eq.trans (by kernel_rfl) ((i4 a f Bi b g).trans (by rw[Al];rfl))
noncomputable def F:=Ki
theorem rn x:H.u P_ x=F x:=Eq.trans (b:=Wm x4 x) (by kernel_rfl) (by simp only[e4]<;>rfl)
noncomputable def c:Con:=⟨H.p,H.r,F⟩
theorem ok:ConOk P_ gl 179 c:=co H func179 (.cons F215.ok .nil) rn
end F179
namespace F180
noncomputable def H:Hd:=⟨[Sb,Ss],[Sz], .d,⟨[],gl,false⟩,[],f180⟩
noncomputable def F:=u2 Me
theorem rn x:H.u P_ x=F x:=by kernel_rfl
noncomputable def c:Con:=⟨H.p,H.r,F⟩
theorem ok:ConOk P_ gl 180 c:=co H func180 .nil rn
end F180
namespace F298
abbrev R_:=UInt32
noncomputable def H:Hd:=⟨[Su,Si],[Su],(.seq .d (.seq .d (.cut [0,5] [] .d .d))),⟨[],gl,false⟩,[],f298⟩
def x2(a:UInt32)(b:Bool):Option R_:=H.e P_ [r,r,r] ⟨[(0,vu a),(5,vt b)],[],[]⟩
theorem e2:x2=Yb:=by kernel_rfl
noncomputable def F:=u2 Wv
theorem rn x:H.u P_ x=F x:=Eq.trans (b:=u2 (Ym x2) x) (by kernel_rfl) (by simp only[e2]<;>rfl)
noncomputable def c:Con:=⟨H.p,H.r,F⟩
theorem ok:ConOk P_ gl 298 c:=co H func298 .nil rn
end F298
namespace F282
abbrev R_:=UInt32
noncomputable def H:Hd:=⟨[Su,Sc],[Su],(.seq .d (.cut [0] [] (.seq .d (.blk (.loop [0,1,5] [] .d))) .d)),⟨[(298,F298.c)],gl,false⟩,[],f282⟩
def t4(a:UInt32)(b:UInt8)(f:Int):S:=⟨[(0,vu a),(1,vc b),(5,vi f)],[],[]⟩
def z4:Nat→S→Option R_:=H.i P_ [r,l,r,d]
def x6(a:UInt32):Option R_:=H.e P_ [r,r] ⟨[(0,vu a)],[],[]⟩
def x4(a:UInt32)(b:UInt8)(f:Int):Option R_:=H.e P_ [r,l,r,d] (t4 a b f)
theorem e6:x6=Yx:=by kernel_rfl
theorem i4:∀(q:Nat) (a:UInt32) (b:UInt8) (f:Int),z4 q (t4 a b f)=Ib q a b f:=
 ind (fun _ _ _=>by kernel_rfl) fun q ih a b f=>Eq.trans (b:=Pu x6 (fun a b f=>(z4 q) (t4 a b f)) a b f) (by kernel_rfl) (by simp only[e6,ih]<;>rfl)
theorem e4:x4=Ahh:=by funext a b f;exact Eq.trans (by kernel_rfl) ((i4 Bi a b f).trans (by rw[Al];rfl))
noncomputable def F:=u2 Aed
theorem rn x:H.u P_ x=F x:=Eq.trans (b:=u2 (Aic x4) x) (by kernel_rfl) (by simp only[e4]<;>rfl)
noncomputable def c:Con:=⟨H.p,H.r,F⟩
theorem ok:ConOk P_ gl 282 c:=co H func282 (.cons F298.ok .nil) rn
end F282
namespace F253
abbrev R_:=UInt32
noncomputable def H:Hd:=⟨[Su,Sb],[Su],(.seq .d (.cut [0] [] (.seq .d (.blk (.loop [0,1,5] [] .d))) .d)),⟨[(282,F282.c)],gl,false⟩,[],f253⟩
def t4(b:LB)(a:UInt32)(f:Int):S:=⟨[(0,vu a),(1,vb b),(5,vi f)],[],[]⟩
def z4:Nat→S→Option R_:=H.i P_ [r,l,r,d]
def x6(a:UInt32):Option R_:=H.e P_ [r,r] ⟨[(0,vu a)],[],[]⟩
def x4(b:LB)(a:UInt32)(f:Int):Option R_:=H.e P_ [r,l,r,d] (t4 b a f)
theorem e6:x6=Tx:=by kernel_rfl
theorem i4(b:LB):∀(q:Nat) (a:UInt32) (f:Int),z4 q (t4 b a f)=Gc b q a f:=
 ind (fun _ _=>by kernel_rfl) fun q ih a f=>Eq.trans (b:=Mv x6 (fun a f=>(z4 q) (t4 b a f)) b a f) (by kernel_rfl) (by simp only[e6,ih]<;>rfl)
theorem e4:x4=Ud:=by funext b a f;exact Eq.trans (by kernel_rfl) ((i4 b Bi a f).trans (by rw[Al];rfl))
noncomputable def F:=u2 Aat
theorem rn x:H.u P_ x=F x:=Eq.trans (b:=u2 (Ux x4) x) (by kernel_rfl) (by simp only[e4]<;>rfl)
noncomputable def c:Con:=⟨H.p,H.r,F⟩
theorem ok:ConOk P_ gl 253 c:=co H func253 (.cons F282.ok .nil) rn
end F253
namespace F217
noncomputable def H:Hd:=⟨[Sb],[Su], .d,⟨[(253,F253.c)],gl,false⟩,[],f217⟩
noncomputable def F:=Ph
theorem rn x:H.u P_ x=F x:=by kernel_rfl
noncomputable def c:Con:=⟨H.p,H.r,F⟩
theorem ok:ConOk P_ gl 217 c:=co H func217 (.cons F253.ok .nil) rn
end F217
namespace F181
def Wo(j6:UInt64→UInt64→UInt64→UInt64→UInt64→Option (Int×Int×Int×Int×Int×Int))(a:LB):Option (Int×Int×Int×Int×Int×Int):=
(Az a 4 6).bind fun u=>
(Az a 6 8).bind fun p=>
(Az a 8 10).bind fun o=>
(Az a 10 14).bind fun n=>
(Az a 14 18).bind fun m=>
both (
(Am u).bind fun k=>
both (
(Am p).bind fun h=>
both (
(Am o).bind fun g=>
both (
(Am n).bind fun f=>
both (
(Am m).bind fun b=>
bo (
j6 k h g f b)) [
(Am m).bind fun b=>
j6 k h g f b]) [
(Am n).bind fun f=>
(Am m).bind fun b=>
j6 k h g f b]) [
(Am o).bind fun g=>
(Am n).bind fun f=>
(Am m).bind fun b=>
j6 k h g f b]) [
(Am p).bind fun h=>
(Am o).bind fun g=>
(Am n).bind fun f=>
(Am m).bind fun b=>
j6 k h g f b]) [
(Am u).bind fun k=>
(Am p).bind fun h=>
(Am o).bind fun g=>
(Am n).bind fun f=>
(Am m).bind fun b=>
j6 k h g f b]
theorem An6: @Wo= @Qo:=by
  unfold Wo Qo
  repeat (refine funext fun _=>?_)
  repeat' first
    |with_reducible rfl
    |with_reducible refine Hb ?_ ?_
    |with_reducible refine Hf ?_ ?_ ?_
    |with_reducible refine Hg ?_ ?_ ?_ ?_
    |((with_reducible refine Kr ?_ ?_);focus (intro h;first|(subst h;rfl)|(simp only[h];rfl)|(simp[Cx,Ac,h];done)))
    |with_reducible refine Kq fun x=>?_
    |with_reducible refine Rc (fun _=>?_) (fun _=>?_)
    |(refine Di (fun h=>by simp only[h,Kn,Cn,Ci,ite_self]) (fun x h=>?_);(try simp only[h,Cn]))
    |(refine Em (fun h=>?_) (fun h=>?_)<;>simp only[h,if_true,if_false,Bool.false_eq_true])
abbrev R_:=(Int×Int×Int×Int×Int×Int)
noncomputable def H:Hd:=⟨[Sb],[.agg [Si,Si,Si,Si,Si],Si],(.seq .d (.seq .d (.cut [0,2] [] .d (.seq .d (.cut [0,2] [] .d (.cut [2,5] [] .d .d)))))),⟨[(133,F133.c),(134,F134.c),(216,F216.c),(217,F217.c)],gl,false⟩,[],f181⟩
def x6(k h g f b:UInt64):Option R_:=H.e P_ [r,r,r,r,r,r] ⟨[(2, .ptr 0 []),(5, .ptr 1 [])],[.box 27 (.agg [vi 0,vi 0,vi 0,vi 0,vi 0]), .box 27 (.agg [vi (Ad k:Int),vi (Ad h:Int),vi (Ad g:Int),vi (Ad f:Int),vi (Ad b:Int)])],[]⟩
def x5(a:LB):Option R_:=H.e P_ [r,r,r,r,r] ⟨[(0,vb a),(2, .ptr 0 [])],[.box 27 (.agg [vi 0,vi 0,vi 0,vi 0,vi 0])],[]⟩
def x4(a:LB):Option R_:=H.e P_ [r,r,r] ⟨[(0,vb a),(2, .ptr 0 [])],[.box 27 (.agg [vi 0,vi 0,vi 0,vi 0,vi 0])],[]⟩
theorem e6:x6=Xv:=by kernel_rfl
theorem e5:x5=Zg:=Eq.trans (b:=Wo x6) (by kernel_rfl) (by rw[An6];simp only[e6]<;>rfl)
theorem e4:x4=Zh:=Eq.trans (b:=Yw x5) (by kernel_rfl) (by simp only[e5]<;>rfl)
noncomputable def F:=Lp
theorem rn x:H.u P_ x=F x:=Eq.trans (b:=Zq x4 x) (by kernel_rfl) (by simp only[e4]<;>rfl)
noncomputable def c:Con:=⟨H.p,H.r,F⟩
theorem ok:ConOk P_ gl 181 c:=co H func181 (.cons F133.ok (.cons F134.ok (.cons F216.ok (.cons F217.ok .nil)))) rn
end F181
namespace F136
abbrev R_:=(Int×Int×Int×Int×Int×Int×Int)
noncomputable def H:Hd:=⟨[Sb],[Si, .agg [Si,Si,Si,Si,Si],Si],(.seq .d (.seq .d (.seq .d (.seq .d (.seq .d (.cut [3,5,7] [] .d (.seq .d (.seq .d (.seq (.mode false) .d))))))))),⟨[(179,F179.c),(180,F180.c),(181,F181.c)],gl,false⟩,[],f136⟩
def x2(b:Int)(a:LB):Option R_:=H.e P_ [r,r,r,r,r,r] ⟨[(3, .ptr 0 []),(5,vi b),(7,vb a)],[.box 27 (.agg [vi 0,vi 0,vi 0,vi 0,vi 0])],[]⟩
theorem e2:x2=Td:=by kernel_rfl
noncomputable def F:=Ld
theorem rn x:H.u P_ x=F x:=Eq.trans (b:=Tc x2 x) (by kernel_rfl) (by simp only[e2]<;>rfl)
noncomputable def c:Con:=⟨H.p,H.r,F⟩
theorem ok:ConOk P_ gl 136 c:=co H func136 (.cons F179.ok (.cons F180.ok (.cons F181.ok .nil))) rn
end F136
namespace F299
abbrev R_:=UInt64
noncomputable def H:Hd:=⟨[Sq,Si],[Sq],(.seq .d (.seq .d (.cut [0,5] [] .d .d))),⟨[],gl,false⟩,[],f299⟩
def x2(a:UInt64)(b:Bool):Option R_:=H.e P_ [r,r,r] ⟨[(0,vq a),(5,vt b)],[],[]⟩
theorem e2:x2=Ps:=by kernel_rfl
noncomputable def F:=u2 Xj
theorem rn x:H.u P_ x=F x:=Eq.trans (b:=u2 (Zr x2) x) (by kernel_rfl) (by simp only[e2]<;>rfl)
noncomputable def c:Con:=⟨H.p,H.r,F⟩
theorem ok:ConOk P_ gl 299 c:=co H func299 .nil rn
end F299
namespace F283
abbrev R_:=UInt64
noncomputable def H:Hd:=⟨[Sq,Sc],[Sq],(.seq .d (.cut [0] [] (.seq .d (.blk (.loop [0,1,5] [] .d))) .d)),⟨[(299,F299.c)],gl,false⟩,[],f283⟩
def t4(b:UInt8)(a:UInt64)(f:Int):S:=⟨[(0,vq a),(1,vc b),(5,vi f)],[],[]⟩
def z4:Nat→S→Option R_:=H.i P_ [r,l,r,d]
def x6(a:UInt64):Option R_:=H.e P_ [r,r] ⟨[(0,vq a)],[],[]⟩
def x4(b:UInt8)(a:UInt64)(f:Int):Option R_:=H.e P_ [r,l,r,d] (t4 b a f)
theorem e6:x6=Yi:=by kernel_rfl
theorem i4(b:UInt8):∀(q:Nat) (a:UInt64) (f:Int),z4 q (t4 b a f)=Ht b q a f:=
 ind (fun _ _=>by kernel_rfl) fun q ih a f=>Eq.trans (b:=Qh x6 (fun a f=>(z4 q) (t4 b a f)) b a f) (by kernel_rfl) (by simp only[e6,ih]<;>rfl)
theorem e4:x4=Ah1:=by funext b a f;exact Eq.trans (by kernel_rfl) ((i4 b Bi a f).trans (by rw[Al];rfl))
noncomputable def F:=u2 Aec
theorem rn x:H.u P_ x=F x:=Eq.trans (b:=u2 (Aii x4) x) (by kernel_rfl) (by simp only[e4]<;>rfl)
noncomputable def c:Con:=⟨H.p,H.r,F⟩
theorem ok:ConOk P_ gl 283 c:=co H func283 (.cons F299.ok .nil) rn
end F283
namespace F254
abbrev R_:=UInt64
noncomputable def H:Hd:=⟨[Sq,Sb],[Sq],(.seq .d (.cut [0] [] (.seq .d (.blk (.loop [0,1,5] [] .d))) .d)),⟨[(283,F283.c)],gl,false⟩,[],f254⟩
def t4(b:LB)(a:UInt64)(f:Int):S:=⟨[(0,vq a),(1,vb b),(5,vi f)],[],[]⟩
def z4:Nat→S→Option R_:=H.i P_ [r,l,r,d]
def x6(a:UInt64):Option R_:=H.e P_ [r,r] ⟨[(0,vq a)],[],[]⟩
def x4(b:LB)(a:UInt64)(f:Int):Option R_:=H.e P_ [r,l,r,d] (t4 b a f)
theorem e6:x6=Uy:=by kernel_rfl
theorem i4(b:LB):∀(q:Nat) (a:UInt64) (f:Int),z4 q (t4 b a f)=Fw b q a f:=
 ind (fun _ _=>by kernel_rfl) fun q ih a f=>Eq.trans (b:=Mq x6 (fun a f=>(z4 q) (t4 b a f)) b a f) (by kernel_rfl) (by simp only[e6,ih]<;>rfl)
theorem e4:x4=Adq:=by funext b a f;exact Eq.trans (by kernel_rfl) ((i4 b Bi a f).trans (by rw[Al];rfl))
noncomputable def F:=u2 Rm
theorem rn x:H.u P_ x=F x:=Eq.trans (b:=u2 (Aeo x4) x) (by kernel_rfl) (by simp only[e4]<;>rfl)
noncomputable def c:Con:=⟨H.p,H.r,F⟩
theorem ok:ConOk P_ gl 254 c:=co H func254 (.cons F283.ok .nil) rn
end F254
namespace F219
noncomputable def H:Hd:=⟨[Ss],[Sq], .d,⟨[(254,F254.c)],gl,false⟩,[],f219⟩
noncomputable def F:=Ad0
theorem rn x:H.u P_ x=F x:=by kernel_rfl
noncomputable def c:Con:=⟨H.p,H.r,F⟩
theorem ok:ConOk P_ gl 219 c:=co H func219 (.cons F254.ok .nil) rn
end F219
namespace F182
noncomputable def H:Hd:=⟨[Ss],[Ob 5], .d,⟨[(218,F218.c),(219,F219.c)],gl,false⟩,[],f182⟩
noncomputable def F:=Lc
theorem rn x:H.u P_ x=F x:=by kernel_rfl
noncomputable def c:Con:=⟨H.p,H.r,F⟩
theorem ok:ConOk P_ gl 182 c:=co H func182 (.cons F218.ok (.cons F219.ok .nil)) rn
end F182
namespace F183
abbrev R_:=(LI×Int)
noncomputable def H:Hd:=⟨[Sb,Si],[Ol 3,Si],(.seq .d (.seq .d (.seq .d (.cut [0,1] [] .d (.seq .d (.cut [6] [] (.seq .d (.blk (.loop [0,1,6,7] [⟨6,[], .own 3 (.int .i64)⟩] .d))) .d)))))),⟨[(89,F89.c),(216,F216.c),(217,F217.c)],gl,false⟩,[],f183⟩
def t6(b:LB)(a g:Int)(f:LI):S:=⟨[(0,vb b),(1,vi a),(6, .own 0),(7,vi g)],[Ai 3 f],[]⟩
def z6:Nat→S→Option R_:=H.i P_ [r,r,r,r,r,l,r,d]
def x8(f:LI):Option R_:=H.e P_ [r,r,r,r,r,r] ⟨[(6, .own 0)],[Ai 3 f],[]⟩
def x6(b:LB)(a g:Int)(f:LI):Option R_:=H.e P_ [r,r,r,r,r,l,r,d] (t6 b a g f)
def x5(b:LB)(a:Int):Option R_:=H.e P_ [r,r,r,r] ⟨[(0,vb b),(1,vi a)],[],[]⟩
theorem e8:x8=Py:=by kernel_rfl
theorem i6(b:LB)(a:Int):∀(q:Nat) (g:Int) (f:LI),z6 q (t6 b a g f)=Hu b a q g f:=
 ind (fun _ _=>by kernel_rfl) fun q ih g f=>Eq.trans (b:=Px x8 (fun g f=>(z6 q) (t6 b a g f)) b a g f) (by kernel_rfl) (by simp only[e8,ih]<;>rfl)
theorem e6:x6=Yr:=by funext b a g f;exact Eq.trans (by kernel_rfl) ((i6 b a Bi g f).trans (by rw[Al];rfl))
theorem e5:x5=Ze:=Eq.trans (b:=Xy x6) (by kernel_rfl) (by simp only[e6]<;>rfl)
noncomputable def F:=u2 Qn
theorem rn x:H.u P_ x=F x:=Eq.trans (b:=u2 (Zc x5) x) (by kernel_rfl) (by simp only[e5]<;>rfl)
noncomputable def c:Con:=⟨H.p,H.r,F⟩
theorem ok:ConOk P_ gl 183 c:=co H func183 (.cons F89.ok (.cons F216.ok (.cons F217.ok .nil))) rn
end F183
namespace F137
abbrev R_:=(Int×LI×Int)
noncomputable def H:Hd:=⟨[Sb, .agg [Si,Si,Si,Si,Si],Ss],[Si,Ol 3,Si],(.seq .d (.seq .d (.cut [0,4,9] [] .d (.cut [9,10,11] [] .d .d)))),⟨[(90,F90.c),(182,F182.c),(183,F183.c)],gl,false⟩,[],f137⟩
def x4(b g:Int)(h:LI):Option R_:=H.e P_ [r,r,r,r] ⟨[(9,vi b),(10, .own 0),(11,vi g)],[Ai 3 h],[]⟩
def x3(a:LB)(f k m n o b:Int):Option R_:=H.e P_ [r,r,r] ⟨[(0,vb a),(4, .ptr 0 []),(9,vi b)],[.box 27 (.agg [vi f,vi k,vi m,vi n,vi o])],[]⟩
theorem e4:x4=Un:=by kernel_rfl
theorem e3:x3=Cr:=Eq.trans (b:=Uu x4) (by kernel_rfl) (by simp only[e4]<;>rfl)
noncomputable def F:=u7 Da
theorem rn x:H.u P_ x=F x:=Eq.trans (b:=u7 (Fx x3) x) (by kernel_rfl) (by simp only[e3]<;>rfl)
noncomputable def c:Con:=⟨H.p,H.r,F⟩
theorem ok:ConOk P_ gl 137 c:=co H func137 (.cons F90.ok (.cons F182.ok (.cons F183.ok .nil))) rn
end F137
namespace F255
noncomputable def H:Hd:=⟨[Sq,Sb],[Sq,Si], .d,⟨[(254,F254.c)],gl,false⟩,[],f255⟩
noncomputable def F:=u2 Afc
theorem rn x:H.u P_ x=F x:=by kernel_rfl
noncomputable def c:Con:=⟨H.p,H.r,F⟩
theorem ok:ConOk P_ gl 255 c:=co H func255 (.cons F254.ok .nil) rn
end F255
namespace F220
noncomputable def H:Hd:=⟨[Sb],[Sq,Si], .d,⟨[(255,F255.c)],gl,false⟩,[],f220⟩
noncomputable def F:=Agv
theorem rn x:H.u P_ x=F x:=by kernel_rfl
noncomputable def c:Con:=⟨H.p,H.r,F⟩
theorem ok:ConOk P_ gl 220 c:=co H func220 (.cons F255.ok .nil) rn
end F220
namespace F221
abbrev R_:=LX
abbrev K_:=S→Option R_
noncomputable def H:Hd:=⟨[Sq],[.lf (.vec 16 (.int .i32)) none],(.seq .d (.seq .d (.cut [2,3] [] (.seq .d (.blk (.loop [0,2,3,4] [] (.seq .d (.seq (.blk (.seq .d (.cut [0,2,3,4,5] [] .d .d))) .d))))) .d))),⟨[],gl,false⟩,[],f221⟩
def t6(b:UInt64)(f:Int)(a:LX):S:=⟨[(0,vq b),(2, .ptr 0 []),(3, .ptr 1 []),(4,vi f)],[.box 110 (.val (.vec 16 (.int .i32)) (List.replicate 16 (0:Int32))), .box 110 (.val (.vec 16 (.int .i32)) a)],[]⟩
def z6:Nat→S→Option R_:=H.i P_ [r,r,l,r,d]
def x10(a:LX):Option R_:=H.e P_ [r,r,r] ⟨[(2, .ptr 0 []),(3, .ptr 1 [])],[.box 110 (.val (.vec 16 (.int .i32)) (List.replicate 16 (0:Int32))), .box 110 (.val (.vec 16 (.int .i32)) a)],[]⟩
def x8(kn6:K_)(b:UInt64)(f:Int)(a:LX)(g:Int32):Option R_:=H.e P_ [r,r,l,r,d,(lp kn6),r,l,d,r,r] ⟨[(0,vq b),(2, .ptr 0 []),(3, .ptr 1 []),(4,vi f),(5,vx g)],[.box 110 (.val (.vec 16 (.int .i32)) (List.replicate 16 (0:Int32))), .box 110 (.val (.vec 16 (.int .i32)) a)],[]⟩
def x6(b:UInt64)(f:Int)(a:LX):Option R_:=H.e P_ [r,r,l,r,d] (t6 b f a)
theorem e10:x10=Aje:=by kernel_rfl
theorem e8(kn6:K_):x8 kn6=Uj (fun b f a=>kn6 (t6 b f a)):=by kernel_rfl
theorem i6:∀(q:Nat) (b:UInt64) (f:Int) (a:LX),z6 q (t6 b f a)=Hp q b f a:=
 ind (fun _ _ _=>by kernel_rfl) fun q ih b f a=>Eq.trans (b:=Us (x8 (z6 q)) x10 b f a) (by kernel_rfl) (by simp only[e8,e10,ih]<;>rfl)
theorem e6:x6=Akt:=by funext b f a;exact Eq.trans (by kernel_rfl) ((i6 Bi b f a).trans (by rw[Al];rfl))
noncomputable def F:=Aiw
theorem rn x:H.u P_ x=F x:=Eq.trans (b:=Al5 x6 x) (by kernel_rfl) (by simp only[e6]<;>rfl)
noncomputable def c:Con:=⟨H.p,H.r,F⟩
theorem ok:ConOk P_ gl 221 c:=co H func221 .nil rn
end F221
namespace F184
noncomputable def H:Hd:=⟨[Ss],[.lf (.vec 16 (.int .i32)) none,Si], .d,⟨[(220,F220.c),(221,F221.c)],gl,false⟩,[],f184⟩
noncomputable def F:=Qb
theorem rn x:H.u P_ x=F x:=by kernel_rfl
noncomputable def c:Con:=⟨H.p,H.r,F⟩
theorem ok:ConOk P_ gl 184 c:=co H func184 (.cons F220.ok (.cons F221.ok .nil)) rn
end F184
namespace F267
noncomputable def H:Hd:=⟨[Si],[Si], .d,⟨[],gl,false⟩,[],f267⟩
noncomputable def F:=Qg
theorem rn x:H.u P_ x=F x:=by kernel_rfl
noncomputable def c:Con:=⟨H.p,H.r,F⟩
theorem ok:ConOk P_ gl 267 c:=co H func267 .nil rn
end F267
namespace F256
noncomputable def H:Hd:=⟨[.agg [Si,Si]],[Si], .d,⟨[(267,F267.c)],gl,false⟩,[],f256⟩
noncomputable def F:=u2 Uv
theorem rn x:H.u P_ x=F x:=by kernel_rfl
noncomputable def c:Con:=⟨H.p,H.r,F⟩
theorem ok:ConOk P_ gl 256 c:=co H func256 (.cons F267.ok .nil) rn
end F256
namespace F222
noncomputable def H:Hd:=⟨[.agg [Si,Si],Si],[Si], .d,⟨[(256,F256.c)],gl,false⟩,[],f222⟩
noncomputable def F:=u3 Ke
theorem rn x:H.u P_ x=F x:=by kernel_rfl
noncomputable def c:Con:=⟨H.p,H.r,F⟩
theorem ok:ConOk P_ gl 222 c:=co H func222 (.cons F256.ok .nil) rn
end F222
namespace F257
noncomputable def H:Hd:=⟨[Sb],[Ob 5], .d,⟨[(217,F217.c)],gl,false⟩,[],f257⟩
noncomputable def F:=Rr
theorem rn x:H.u P_ x=F x:=by kernel_rfl
noncomputable def c:Con:=⟨H.p,H.r,F⟩
theorem ok:ConOk P_ gl 257 c:=co H func257 (.cons F217.ok .nil) rn
end F257
namespace F223
noncomputable def H:Hd:=⟨[Sb],[Si], .d,⟨[(257,F257.c)],gl,false⟩,[],f223⟩
noncomputable def F:=Md
theorem rn x:H.u P_ x=F x:=by kernel_rfl
noncomputable def c:Con:=⟨H.p,H.r,F⟩
theorem ok:ConOk P_ gl 223 c:=co H func223 (.cons F257.ok .nil) rn
end F223
namespace F258
noncomputable def H:Hd:=⟨[],[.agg [Si,Si,Sq,Sq]], .d,⟨[],gl,false⟩,[],f258⟩
noncomputable def F(x:Unit):=Kf
theorem rn x:H.u P_ x=F x:=by kernel_rfl
noncomputable def c:Con:=⟨H.p,H.r,F⟩
theorem ok:ConOk P_ gl 258 c:=co H func258 .nil rn
end F258
namespace F288
abbrev R_:=UInt64
noncomputable def H:Hd:=⟨[Si],[Sq],(.seq .d (.seq .d (.cut [3] [] (.seq .d (.blk (.loop [0,3,4] [] .d))) .d))),⟨[],gl,false⟩,[],f288⟩
def t4(b:Int)(a:UInt64)(f:Int):S:=⟨[(0,vi b),(3,vq a),(4,vi f)],[],[]⟩
def z4:Nat→S→Option R_:=H.i P_ [r,r,l,r,d]
def x6(a:UInt64):Option R_:=H.e P_ [r,r,r] ⟨[(3,vq a)],[],[]⟩
def x4(b:Int)(a:UInt64)(f:Int):Option R_:=H.e P_ [r,r,l,r,d] (t4 b a f)
theorem e6:x6=Afw:=by kernel_rfl
theorem i4(b:Int):∀(q:Nat) (a:UInt64) (f:Int),z4 q (t4 b a f)=Ha b q a f:=
 ind (fun _ _=>by kernel_rfl) fun q ih a f=>Eq.trans (b:=Nz x6 (fun a f=>(z4 q) (t4 b a f)) b a f) (by kernel_rfl) (by simp only[e6,ih]<;>rfl)
theorem e4:x4=Afz:=by funext b a f;exact Eq.trans (by kernel_rfl) ((i4 b Bi a f).trans (by rw[Al];rfl))
noncomputable def F:=Eb
theorem rn x:H.u P_ x=F x:=Eq.trans (b:=Afr x4 x) (by kernel_rfl) (by simp only[e4]<;>rfl)
noncomputable def c:Con:=⟨H.p,H.r,F⟩
theorem ok:ConOk P_ gl 288 c:=co H func288 .nil rn
end F288
namespace F300
noncomputable def H:Hd:=⟨[.agg [Si,Si,Sq,Sq],Su],[Sz], .d,⟨[(288,F288.c)],gl,false⟩,[],f300⟩
noncomputable def F:=u5 Sg
theorem rn x:H.u P_ x=F x:=by kernel_rfl
noncomputable def c:Con:=⟨H.p,H.r,F⟩
theorem ok:ConOk P_ gl 300 c:=co H func300 (.cons F288.ok .nil) rn
end F300
namespace F302
noncomputable def H:Hd:=⟨[.agg [Si,Si,Sq,Sq],Su],[Su], .d,⟨[(288,F288.c)],gl,false⟩,[],f302⟩
noncomputable def F:=u5 Ls
theorem rn x:H.u P_ x=F x:=by kernel_rfl
noncomputable def c:Con:=⟨H.p,H.r,F⟩
theorem ok:ConOk P_ gl 302 c:=co H func302 (.cons F288.ok .nil) rn
end F302
namespace F301
abbrev R_:=(Int×UInt64)
noncomputable def H:Hd:=⟨[Si,Sq,Sq],[Si,Sq],(.seq .d (.seq .d (.cut [0,1] [] .d .d))),⟨[(288,F288.c)],gl,false⟩,[],f301⟩
def x2(b:Int)(a f:UInt64):Option R_:=H.e P_ [r,r,r] ⟨[(0,vi b),(1,vq (Aj (Ae a f) (Cp a (16:UInt64))))],[],[]⟩
theorem e2:x2=Qi:=by kernel_rfl
noncomputable def F:=u3 Io
theorem rn x:H.u P_ x=F x:=Eq.trans (b:=u3 (Za x2) x) (by kernel_rfl) (by simp only[e2]<;>rfl)
noncomputable def c:Con:=⟨H.p,H.r,F⟩
theorem ok:ConOk P_ gl 301 c:=co H func301 (.cons F288.ok .nil) rn
end F301
namespace F284
def Sf(j2:UInt32→Int→Int→UInt64→UInt64→Int→UInt64→Option (Int×Int×UInt64×UInt64))(f a:Int)(g b:UInt64)(h:UInt32):Option (Int×Int×UInt64×UInt64):=
(Sg f a g b h).bind fun u=>
if(!u)then
(fun w:Option (Int×Int×UInt64×UInt64)=>
(fun v:Option (Int×Int×UInt64×UInt64)=>
(fun y:Option (Int×Int×UInt64×UInt64)=>
both (
y) [
y,
both (
v) [
v,
(Ls f a g b h).bind fun k=>
(fun ac:Option (Int×Int×UInt64×UInt64)=>
bo (
ac)) (
(Io a b (Ad k:UInt64)).bind fun(m,n)=>
j2 h f a g b m n)]]) (
both (
w) [
v])) (
bo (
w))) (
(Ls f a g b h).bind fun k=>
(Io a b (Ad k:UInt64)).bind fun(m,n)=>
j2 h f a g b m n)
else
j2 h f a g b a b
theorem Aku: @Sf= @Mw:=by
  unfold Sf Mw
  try simp only[Ah6,Xz,Xx]
  all_goals
    repeat (refine funext fun _=>?_)
    repeat' first
      |with_reducible rfl
      |with_reducible refine Hb ?_ ?_
      |with_reducible refine Hf ?_ ?_ ?_
      |with_reducible refine Hg ?_ ?_ ?_ ?_
      |((with_reducible refine Kr ?_ ?_);focus (intro h;first|(subst h;rfl)|(simp only[h];rfl)|(simp[Cx,Ac,h];done)))
      |with_reducible refine Kq fun x=>?_
      |with_reducible refine Rc (fun _=>?_) (fun _=>?_)
      |(refine Di (fun h=>by simp only[h,Kn,Cn,Ci,ite_self]) (fun x h=>?_);(try simp only[h,Cn]))
      |(refine Em (fun h=>?_) (fun h=>?_)<;>simp only[h,if_true,if_false,Bool.false_eq_true])
abbrev R_:=(Int×Int×UInt64×UInt64)
noncomputable def H:Hd:=⟨[.agg [Si,Si,Sq,Sq],Su],[.agg [Si,Si,Sq,Sq]],(.seq .d (.seq .d (.cut [1,2,4,5] [] (.seq .d (.cond (.mode false) .d)) .d))),⟨[(300,F300.c),(301,F301.c),(302,F302.c)],gl,false⟩,[],f284⟩
def x2(h:UInt32)(f a:Int)(g b:UInt64)(o:Int)(p:UInt64):Option R_:=H.e P_ [r,r,r] ⟨[(1,vu h),(2, .ptr 0 []),(4, .ptr 1 []),(5, .ptr 2 [])],[.box 225 (.agg [vi f,vi a,vq g,vq b]), .box 225 (.agg [vi 0,vi 0,vq 0,vq 0]), .box 225 (.agg [vi f,vi o,vq g,vq p])],[]⟩
theorem e2:x2=Mp:=by kernel_rfl
noncomputable def F:=u5 Ro
theorem rn x:H.u P_ x=F x:=Eq.trans (b:=u5 (Sf x2) x) (by kernel_rfl) (by unfold F;rw[Aku];simp only[e2]<;>rfl)
noncomputable def c:Con:=⟨H.p,H.r,F⟩
theorem ok:ConOk P_ gl 284 c:=co H func284 (.cons F300.ok (.cons F301.ok (.cons F302.ok .nil))) rn
end F284
namespace F259
abbrev R_:=(Int×Int×UInt64×UInt64)
noncomputable def H:Hd:=⟨[Si,Sv],[.agg [Si,Si,Sq,Sq]],(.seq .d (.seq .d (.cut [4,5] [] (.seq .d (.blk (.loop [0,1,4,5,6] [] .d))) .d))),⟨[(258,F258.c),(284,F284.c)],gl,false⟩,[],f259⟩
def t4(h:Int)(k:LU)(m a b:Int)(f g:UInt64):S:=⟨[(0,vi h),(1,vv k),(4, .ptr 0 []),(5, .ptr 1 []),(6,vi m)],[.box 225 (.agg [vi 0,vi 0,vq 0,vq 0]), .box 225 (.agg [vi a,vi b,vq f,vq g])],[]⟩
def z4:Nat→S→Option R_:=H.i P_ [r,r,l,r,d]
def x6(a b:Int)(f g:UInt64):Option R_:=H.e P_ [r,r,r] ⟨[(4, .ptr 0 []),(5, .ptr 1 [])],[.box 225 (.agg [vi 0,vi 0,vq 0,vq 0]), .box 225 (.agg [vi a,vi b,vq f,vq g])],[]⟩
def x4(h:Int)(k:LU)(m a b:Int)(f g:UInt64):Option R_:=H.e P_ [r,r,l,r,d] (t4 h k m a b f g)
theorem e6:x6=Aeh:=by kernel_rfl
theorem i4(h:Int)(k:LU):∀(q:Nat) (m a b:Int) (f g:UInt64),z4 q (t4 h k m a b f g)=Ir h k q m a b f g:=
 ind (fun _ _ _ _ _=>by kernel_rfl) fun q ih m a b f g=>Eq.trans (b:=Ty x6 (fun m a b f g=>(z4 q) (t4 h k m a b f g)) h k m a b f g) (by kernel_rfl) (by simp only[e6,ih]<;>rfl)
theorem e4:x4=Aeb:=by funext h k m a b f g;exact Eq.trans (by kernel_rfl) ((i4 h k Bi m a b f g).trans (by rw[Al];rfl))
noncomputable def F:=u2 Mj
theorem rn x:H.u P_ x=F x:=Eq.trans (b:=u2 (Uz x4) x) (by kernel_rfl) (by simp only[e4]<;>rfl)
noncomputable def c:Con:=⟨H.p,H.r,F⟩
theorem ok:ConOk P_ gl 259 c:=co H func259 (.cons F258.ok (.cons F284.ok .nil)) rn
end F259
namespace F262
abbrev R_:=Int
noncomputable def H:Hd:=⟨[.agg [Sb,Si],Si],[Si],(.seq .d (.seq .d (.cut [5] [] (.seq .d (.blk (.loop [1,5,6] [] .d))) .d))),⟨[],gl,false⟩,[],f262⟩
def t4(b a f:Int):S:=⟨[(1,vi b),(5,vi a),(6,vi f)],[],[]⟩
def z4:Nat→S→Option R_:=H.i P_ [r,r,l,r,d]
def x6(a:Int):Option R_:=H.e P_ [r,r,r] ⟨[(5,vi a)],[],[]⟩
def x4(b a f:Int):Option R_:=H.e P_ [r,r,l,r,d] (t4 b a f)
theorem e6:x6=Abv:=by kernel_rfl
theorem i4(b:Int):∀(q:Nat) (a f:Int),z4 q (t4 b a f)=Kb b q a f:=
 ind (fun _ _=>by kernel_rfl) fun q ih a f=>Eq.trans (b:=Um x6 (fun a f=>(z4 q) (t4 b a f)) b a f) (by kernel_rfl) (by simp only[e6,ih]<;>rfl)
theorem e4:x4=Acd:=by funext b a f;exact Eq.trans (by kernel_rfl) ((i4 b Bi a f).trans (by rw[Al];rfl))
noncomputable def F:=u3 Je
theorem rn x:H.u P_ x=F x:=Eq.trans (b:=u3 (Aca x4) x) (by kernel_rfl) (by simp only[e4]<;>rfl)
noncomputable def c:Con:=⟨H.p,H.r,F⟩
theorem ok:ConOk P_ gl 262 c:=co H func262 .nil rn
end F262
namespace F285
abbrev R_:=(LB×Int)
noncomputable def H:Hd:=⟨[.agg [Ob 5,Si],Si],[.agg [Ob 5,Si]],(.seq .d (.cut [1,2,4] [] .d (.seq .d (.cut [1,2,4,5] [] (.seq .d (.blk (.loop [1,2,4,5,6] [] .d))) .d)))),⟨[],gl,false⟩,[],f285⟩
def t6(b a:Int)(f:LB)(g h:Int):S:=⟨[(1,vi b),(2, .ptr 0 []),(4, .ptr 1 []),(5,vi g),(6,vi h)],[.box 170 (.agg [.own 2,vi a]), .box 170 (.agg [.nils,vi 0]),Ab 5 f],[]⟩
def z6:Nat→S→Option R_:=H.i P_ [r,r,r,l,r,d]
def x8(b g a:Int)(f:LB):Option R_:=H.e P_ [r,r,r,r] ⟨[(1,vi b),(2, .ptr 0 []),(4, .ptr 1 []),(5,vi g)],[.box 170 (.agg [.own 2,vi a]), .box 170 (.agg [.nils,vi 0]),Ab 5 f],[]⟩
def x6(b a:Int)(f:LB)(g h:Int):Option R_:=H.e P_ [r,r,r,l,r,d] (t6 b a f g h)
def x5(b a:Int)(f:LB):Option R_:=H.e P_ [r,r] ⟨[(1,vi b),(2, .ptr 0 []),(4, .ptr 1 [])],[.box 170 (.agg [.own 2,vi a]), .box 170 (.agg [.nils,vi 0]),Ab 5 f],[]⟩
theorem e8:x8=Ri:=by kernel_rfl
theorem i6(b a:Int)(f:LB):∀(q:Nat) (g h:Int),z6 q (t6 b a f g h)=Jd b a f q g h:=
 ind (fun _ _=>by kernel_rfl) fun q ih g h=>Eq.trans (b:=Rn x8 (fun g h=>(z6 q) (t6 b a f g h)) b a f g h) (by kernel_rfl) (by simp only[e8,ih]<;>rfl)
theorem e6:x6=Aa0:=by funext b a f g h;exact Eq.trans (by kernel_rfl) ((i6 b a f Bi g h).trans (by rw[Al];rfl))
theorem e5:x5=Rp:=Eq.trans (b:=Aa1 x6) (by kernel_rfl) (by simp only[e6]<;>rfl)
noncomputable def F:=u3 Tf
theorem rn x:H.u P_ x=F x:=Eq.trans (b:=u3 (Aaq x5) x) (by kernel_rfl) (by simp only[e5]<;>rfl)
noncomputable def c:Con:=⟨H.p,H.r,F⟩
theorem ok:ConOk P_ gl 285 c:=co H func285 .nil rn
end F285
namespace F260
abbrev R_:=(LB×Int)
noncomputable def H:Hd:=⟨[.agg [Sb,Si],Si,Si],[.agg [Ob 5,Si]],(.seq .d (.seq .d (.cut [6,7] [] (.seq .d (.blk (.loop [2,3,6,7,8] [⟨7,[0], .own 5 (.int .u8)⟩] .d))) .d))),⟨[(262,F262.c),(285,F285.c)],gl,false⟩,[],f260⟩
def t4(f:Int)(g:LB)(h k a:Int)(b:LB):S:=⟨[(2,vi f),(3, .ptr 0 []),(6, .ptr 1 []),(7, .ptr 2 []),(8,vi k)],[.box 170 (.agg [vb g,vi h]), .box 170 (.agg [.nils,vi 0]), .box 170 (.agg [.own 3,vi a]),Ab 5 b],[]⟩
def z4:Nat→S→Option R_:=H.i P_ [r,r,l,r,d]
def x6(a:Int)(b:LB):Option R_:=H.e P_ [r,r,r] ⟨[(6, .ptr 0 []),(7, .ptr 1 [])],[.box 170 (.agg [.nils,vi 0]), .box 170 (.agg [.own 2,vi a]),Ab 5 b],[]⟩
def x4(f:Int)(g:LB)(h k a:Int)(b:LB):Option R_:=H.e P_ [r,r,l,r,d] (t4 f g h k a b)
theorem e6:x6=Ac1:=by kernel_rfl
theorem i4(f:Int)(g:LB)(h:Int):∀(q:Nat) (k a:Int) (b:LB),z4 q (t4 f g h k a b)=Ez f g h q k a b:=
 ind (fun _ _ _=>by kernel_rfl) fun q ih k a b=>Eq.trans (b:=Ln x6 (fun k a b=>(z4 q) (t4 f g h k a b)) f g h k a b) (by kernel_rfl) (by simp only[e6,ih]<;>rfl)
theorem e4:x4=Acq:=by funext f g h k a b;exact Eq.trans (by kernel_rfl) ((i4 f g h Bi k a b).trans (by rw[Al];rfl))
noncomputable def F:=u4 Yp
theorem rn x:H.u P_ x=F x:=Eq.trans (b:=u4 (Ac4 x4) x) (by kernel_rfl) (by simp only[e4]<;>rfl)
noncomputable def c:Con:=⟨H.p,H.r,F⟩
theorem ok:ConOk P_ gl 260 c:=co H func260 (.cons F262.ok (.cons F285.ok .nil)) rn
end F260
namespace F286
abbrev R_:=UInt64
noncomputable def H:Hd:=⟨[.agg [Sb,Si],Si,Si],[Sq],(.seq .d (.seq .d (.cut [7] [] (.seq .d (.blk (.loop [1,3,7,8] [] .d))) .d))),⟨[(262,F262.c)],gl,false⟩,[],f286⟩
def t4(b:Int)(f:LB)(g:Int)(a:UInt64)(h:Int):S:=⟨[(1,vi b),(3, .ptr 0 []),(7,vq a),(8,vi h)],[.box 170 (.agg [vb f,vi g])],[]⟩
def z4:Nat→S→Option R_:=H.i P_ [r,r,l,r,d]
def x6(a:UInt64):Option R_:=H.e P_ [r,r,r] ⟨[(7,vq a)],[],[]⟩
def x4(b:Int)(f:LB)(g:Int)(a:UInt64)(h:Int):Option R_:=H.e P_ [r,r,l,r,d] (t4 b f g a h)
theorem e6:x6=Aft:=by kernel_rfl
theorem i4(b:Int)(f:LB)(g:Int):∀(q:Nat) (a:UInt64) (h:Int),z4 q (t4 b f g a h)=Gs b f g q a h:=
 ind (fun _ _=>by kernel_rfl) fun q ih a h=>Eq.trans (b:=Oo x6 (fun a h=>(z4 q) (t4 b f g a h)) b f g a h) (by kernel_rfl) (by simp only[e6,ih]<;>rfl)
theorem e4:x4=Wl:=by funext b f g a h;exact Eq.trans (by kernel_rfl) ((i4 b f g Bi a h).trans (by rw[Al];rfl))
noncomputable def F:=u4 Nj
theorem rn x:H.u P_ x=F x:=Eq.trans (b:=u4 (Wa x4) x) (by kernel_rfl) (by simp only[e4]<;>rfl)
noncomputable def c:Con:=⟨H.p,H.r,F⟩
theorem ok:ConOk P_ gl 286 c:=co H func286 (.cons F262.ok .nil) rn
end F286
namespace F303
abbrev R_:=(Int×Int)
noncomputable def H:Hd:=⟨[.agg [Sb,Si],Si],[Si,Si],(.seq .d (.seq .d (.cut [1,2,6] [] (.blk (.loop [1,2,6] [] .d)) .d))),⟨[(262,F262.c)],gl,false⟩,[],f303⟩
def t4(b:Int)(g:LB)(f a:Int):S:=⟨[(1,vi b),(2, .ptr 0 []),(6,vi a)],[.box 170 (.agg [vb g,vi f])],[]⟩
def z4:Nat→S→Option R_:=H.i P_ [r,r,l,d]
def x6(b a:Int)(g:LB)(f:Int):Option R_:=H.e P_ [r,r,r] ⟨[(1,vi b),(2, .ptr 0 []),(6,vi a)],[.box 170 (.agg [vb g,vi f])],[]⟩
def x4(b:Int)(g:LB)(f a:Int):Option R_:=H.e P_ [r,r,l,d] (t4 b g f a)
theorem e6:x6=Rq:=by kernel_rfl
theorem i4(b:Int)(g:LB)(f:Int):∀(q:Nat) (a:Int),z4 q (t4 b g f a)=Ja b g f q a:=
 ind (fun _=>by kernel_rfl) fun q ih a=>Eq.trans (b:=Rw x6 (fun a=>(z4 q) (t4 b g f a)) b g f a) (by kernel_rfl) (by simp only[e6,ih]<;>rfl)
theorem e4:x4=Ajc:=by funext b g f a;exact Eq.trans (by kernel_rfl) ((i4 b g f Bi a).trans (by rw[Al];rfl))
noncomputable def F:=u3 Agp
theorem rn x:H.u P_ x=F x:=Eq.trans (b:=u3 (Ajm x4) x) (by kernel_rfl) (by simp only[e4]<;>rfl)
noncomputable def c:Con:=⟨H.p,H.r,F⟩
theorem ok:ConOk P_ gl 303 c:=co H func303 (.cons F262.ok .nil) rn
end F303
namespace F304
noncomputable def H:Hd:=⟨[Su,Si],[Si], .d,⟨[(288,F288.c)],gl,false⟩,[],f304⟩
noncomputable def F:=u2 Xt
theorem rn x:H.u P_ x=F x:=by kernel_rfl
noncomputable def c:Con:=⟨H.p,H.r,F⟩
theorem ok:ConOk P_ gl 304 c:=co H func304 (.cons F288.ok .nil) rn
end F304
namespace F287
abbrev R_:=(UInt32×Int×Int)
noncomputable def H:Hd:=⟨[.agg [Sb,Si],Si,Si],[Su,Si,Si],(.seq .d (.seq .d (.seq .d (.seq .d (.cut [2,3,9,10,11] [] .d .d))))),⟨[(286,F286.c),(288,F288.c),(303,F303.c),(304,F304.c)],gl,false⟩,[],f287⟩
def x2(g a b:Int)(h:LB)(f k:Int):Option R_:=H.e P_ [r,r,r,r,r] ⟨[(2,vi g),(3, .ptr 0 []),(9,vi a),(10,vi b),(11,vi k)],[.box 170 (.agg [vb h,vi f])],[]⟩
theorem e2:x2=Rj:=by kernel_rfl
noncomputable def F:=u4 Zs
theorem rn x:H.u P_ x=F x:=Eq.trans (b:=u4 (Aa4 x2) x) (by kernel_rfl) (by simp only[e2]<;>rfl)
noncomputable def c:Con:=⟨H.p,H.r,F⟩
theorem ok:ConOk P_ gl 287 c:=co H func287 (.cons F286.ok (.cons F288.ok (.cons F303.ok (.cons F304.ok .nil)))) rn
end F287
namespace F261
noncomputable def H:Hd:=⟨[.agg [Sb,Si],Si, .agg [Si,Si,Sq,Sq]],[Su,Si,Si], .d,⟨[(262,F262.c),(286,F286.c),(287,F287.c),(288,F288.c)],gl,false⟩,[],f261⟩
noncomputable def F:=u7 Aaa
theorem rn x:H.u P_ x=F x:=by kernel_rfl
noncomputable def c:Con:=⟨H.p,H.r,F⟩
theorem ok:ConOk P_ gl 261 c:=co H func261 (.cons F262.ok (.cons F286.ok (.cons F287.ok (.cons F288.ok .nil)))) rn
end F261
namespace F224
abbrev R_:=(LU×Int)
abbrev K_:=S→Option R_
noncomputable def H:Hd:=⟨[Si,Si,Sb],[Ov 154,Si],(.seq .d (.seq .d (.seq .d (.seq .d (.cut [8,9,10] [] (.seq .d (.blk (.loop [0,1,8,9,10,11] [⟨9,[], .own 154 (.int .u32)⟩] (.seq .d (.seq (.blk (.seq .d (.cut [0,1,8,9,10,11,12] [] .d .d))) .d))))) (.seq .d (.cut [9] [] (.blk (.loop [8,9,10] [] .d)) .d))))))),⟨[(258,F258.c),(259,F259.c),(260,F260.c),(261,F261.c),(262,F262.c)],gl,false⟩,[],f224⟩
def t16(a:LB)(b:LU)(m:Int):S:=⟨[(8, .ptr 0 []),(9, .own 1),(10,vi m)],[.box 170 (.agg [vb a,vi (Bj (8:Int) (Ac a))]),Av 154 b],[]⟩
def z16:Nat→S→Option R_:=H.i P_ [r,r,r,r,r,r,l,d]
def t10(g h:Int)(a:LB)(f k:Int)(b:LU):S:=⟨[(0,vi g),(1,vi h),(8, .ptr 0 []),(9, .own 1),(10,vi f),(11,vi k)],[.box 170 (.agg [vb a,vi (Bj (8:Int) (Ac a))]),Av 154 b],[]⟩
def z10:Nat→S→Option R_:=H.i P_ [r,r,r,r,l,r,d]
def x18(b:LU):Option R_:=H.e P_ [r,r,r,r,r,r,r] ⟨[(9, .own 0)],[Av 154 b],[]⟩
def x16(a:LB)(b:LU)(m:Int):Option R_:=H.e P_ [r,r,r,r,r,r,l,d] (t16 a b m)
def x15(f:Int)(a:LB)(b:LU):Option R_:=H.e P_ [r,r,r,r,r] ⟨[(8, .ptr 0 []),(9, .own 1),(10,vi f)],[.box 170 (.agg [vb a,vi (Bj (8:Int) (Ac a))]),Av 154 b],[]⟩
def x13(kn10:K_)(g h:Int)(a:LB)(f k:Int)(b:LU)(o p:Int)(u v:UInt64):Option R_:=H.e P_ [r,r,r,r,l,r,d,(lp kn10),r,l,d,r,r] ⟨[(0,vi g),(1,vi h),(8, .ptr 0 []),(9, .own 1),(10,vi f),(11,vi k),(12, .ptr 2 [])],[.box 170 (.agg [vb a,vi (Bj (8:Int) (Ac a))]),Av 154 b, .box 225 (.agg [vi o,vi p,vq u,vq v])],[]⟩
def x10(g h:Int)(a:LB)(f k:Int)(b:LU):Option R_:=H.e P_ [r,r,r,r,l,r,d] (t10 g h a f k b)
theorem e18:x18=Afy:=by kernel_rfl
theorem i16(a:LB)(b:LU):∀(q:Nat) (m:Int),z16 q (t16 a b m)=Gu a b q m:=
 ind (fun _=>by kernel_rfl) fun q ih m=>Eq.trans (b:=On x18 (fun m=>(z16 q) (t16 a b m)) a b m) (by kernel_rfl) (by simp only[e18,ih]<;>rfl)
theorem e16:x16=Ws:=by funext a b m;exact Eq.trans (by kernel_rfl) ((i16 a b Bi m).trans (by rw[Al];rfl))
theorem e15:x15=Oa:=Eq.trans (b:=We x16) (by kernel_rfl) (by simp only[e16]<;>rfl)
theorem e13(kn10:K_)(g h:Int)(a:LB):x13 kn10 g h a=Gq (fun f k b=>kn10 (t10 g h a f k b)) g h a:=by kernel_rfl
theorem i10(g h:Int)(a:LB):∀(q:Nat) (f k:Int) (b:LU),z10 q (t10 g h a f k b)=Dm g h a q f k b:=
 ind (fun _ _ _=>by kernel_rfl) fun q ih f k b=>Eq.trans (b:=Vz (x13 (z10 q) g h a) x15 g h a f k b) (by kernel_rfl) (by simp only[e13,e15,ih]<;>rfl)
theorem e10:x10=Afx:=by funext g h a f k b;exact Eq.trans (by kernel_rfl) ((i10 g h a Bi f k b).trans (by rw[Al];rfl))
noncomputable def F:=u3 Wy
theorem rn x:H.u P_ x=F x:=Eq.trans (b:=u3 (Zb x10) x) (by kernel_rfl) (by simp only[e10]<;>rfl)
noncomputable def c:Con:=⟨H.p,H.r,F⟩
theorem ok:ConOk P_ gl 224 c:=co H func224 (.cons F258.ok (.cons F259.ok (.cons F260.ok (.cons F261.ok (.cons F262.ok .nil))))) rn
end F224
namespace F305
noncomputable def H:Hd:=⟨[Si],[Si,Si], .d,⟨[],gl,false⟩,[],f305⟩
noncomputable def F:=Alk
theorem rn x:H.u P_ x=F x:=by kernel_rfl
noncomputable def c:Con:=⟨H.p,H.r,F⟩
theorem ok:ConOk P_ gl 305 c:=co H func305 .nil rn
end F305
namespace F289
noncomputable def H:Hd:=⟨[Si, .lf (.vec 16 (.int .i32)) none],[.agg [Si, .lf (.vec 16 (.int .i32)) none, .lf (.vec 16 (.int .i32)) none],Si], .d,⟨[(305,F305.c)],gl,false⟩,[],f289⟩
noncomputable def F:=u2 Aox
theorem rn x:H.u P_ x=F x:=by kernel_rfl
noncomputable def c:Con:=⟨H.p,H.r,F⟩
theorem ok:ConOk P_ gl 289 c:=co H func289 (.cons F305.ok .nil) rn
end F289
namespace F263
noncomputable def H:Hd:=⟨[Si, .lf (.vec 16 (.int .i32)) none],[.agg [Si,Sx, .agg [Si, .lf (.vec 16 (.int .i32)) none, .lf (.vec 16 (.int .i32)) none]],Si], .d,⟨[(289,F289.c)],gl,false⟩,[],f263⟩
noncomputable def F:=u2 Ags
theorem rn x:H.u P_ x=F x:=by kernel_rfl
noncomputable def c:Con:=⟨H.p,H.r,F⟩
theorem ok:ConOk P_ gl 263 c:=co H func263 (.cons F289.ok .nil) rn
end F263
namespace F265
noncomputable def H:Hd:=⟨[Su],[Sx], .d,⟨[],gl,false⟩,[],f265⟩
noncomputable def F:=Lf
theorem rn x:H.u P_ x=F x:=by kernel_rfl
noncomputable def c:Con:=⟨H.p,H.r,F⟩
theorem ok:ConOk P_ gl 265 c:=co H func265 .nil rn
end F265
namespace F291
noncomputable def H:Hd:=⟨[Si],[Sx], .d,⟨[],gl,false⟩,[],f291⟩
noncomputable def F:=Cf
theorem rn x:H.u P_ x=F x:=by kernel_rfl
noncomputable def c:Con:=⟨H.p,H.r,F⟩
theorem ok:ConOk P_ gl 291 c:=co H func291 .nil rn
end F291
namespace F310
abbrev R_:=Int32
noncomputable def H:Hd:=⟨[.agg [Si, .lf (.vec 16 (.int .i32)) none, .lf (.vec 16 (.int .i32)) none]],[Sx],(.seq .d (.seq .d (.cut [3] [] (.seq .d (.blk (.loop [1,3,4] [] .d))) .d))),⟨[(291,F291.c)],gl,false⟩,[],f310⟩
def t4(h:Int)(f g:LX)(a b:Int):S:=⟨[(1, .ptr 0 []),(3,vi a),(4,vi b)],[.box 234 (.agg [vi h, .val (.vec 16 (.int .i32)) f, .val (.vec 16 (.int .i32)) g])],[]⟩
def z4:Nat→S→Option R_:=H.i P_ [r,r,l,r,d]
def x6(a:Int):Option R_:=H.e P_ [r,r,r] ⟨[(3,vi a)],[],[]⟩
def x4(h:Int)(f g:LX)(a b:Int):Option R_:=H.e P_ [r,r,l,r,d] (t4 h f g a b)
theorem e6:x6=Aas:=by kernel_rfl
theorem i4(h:Int)(f g:LX):∀(q:Nat) (a b:Int),z4 q (t4 h f g a b)=Jb h f g q a b:=
 ind (fun _ _=>by kernel_rfl) fun q ih a b=>Eq.trans (b:=Rk x6 (fun a b=>(z4 q) (t4 h f g a b)) h f g a b) (by kernel_rfl) (by simp only[e6,ih]<;>rfl)
theorem e4:x4=Ajl:=by funext h f g a b;exact Eq.trans (by kernel_rfl) ((i4 h f g Bi a b).trans (by rw[Al];rfl))
noncomputable def F:=u3 Agw
theorem rn x:H.u P_ x=F x:=Eq.trans (b:=u3 (Ai9 x4) x) (by kernel_rfl) (by simp only[e4]<;>rfl)
noncomputable def c:Con:=⟨H.p,H.r,F⟩
theorem ok:ConOk P_ gl 310 c:=co H func310 (.cons F291.ok .nil) rn
end F310
namespace F306
abbrev R_:=Int32
noncomputable def H:Hd:=⟨[.agg [Si, .lf (.vec 16 (.int .i32)) none, .lf (.vec 16 (.int .i32)) none]],[Sx],(.seq .d (.seq .d (.cut [1,3] [] .d .d))),⟨[(291,F291.c),(310,F310.c)],gl,false⟩,[],f306⟩
def x2(b:Int)(f g:LX)(a:Int):Option R_:=H.e P_ [r,r,r] ⟨[(1, .ptr 0 []),(3,vi a)],[.box 234 (.agg [vi b, .val (.vec 16 (.int .i32)) f, .val (.vec 16 (.int .i32)) g])],[]⟩
theorem e2:x2=Pw:=by kernel_rfl
noncomputable def F:=u3 Xh
theorem rn x:H.u P_ x=F x:=Eq.trans (b:=u3 (Yo x2) x) (by kernel_rfl) (by simp only[e2]<;>rfl)
noncomputable def c:Con:=⟨H.p,H.r,F⟩
theorem ok:ConOk P_ gl 306 c:=co H func306 (.cons F291.ok (.cons F310.ok .nil)) rn
end F306
namespace F311
noncomputable def H:Hd:=⟨[Si],[Sx], .d,⟨[],gl,false⟩,[],f311⟩
noncomputable def F:=Ww
theorem rn x:H.u P_ x=F x:=by kernel_rfl
noncomputable def c:Con:=⟨H.p,H.r,F⟩
theorem ok:ConOk P_ gl 311 c:=co H func311 .nil rn
end F311
namespace F312
noncomputable def H:Hd:=⟨[Sx],[Sx], .d,⟨[],gl,false⟩,[],f312⟩
noncomputable def F:=Pp
theorem rn x:H.u P_ x=F x:=by kernel_rfl
noncomputable def c:Con:=⟨H.p,H.r,F⟩
theorem ok:ConOk P_ gl 312 c:=co H func312 .nil rn
end F312
namespace F308
abbrev R_:=(Int×LX×LX)
noncomputable def H:Hd:=⟨[.agg [Si, .lf (.vec 16 (.int .i32)) none, .lf (.vec 16 (.int .i32)) none],Sx],[.agg [Si, .lf (.vec 16 (.int .i32)) none, .lf (.vec 16 (.int .i32)) none]],(.seq .d (.cut [2,4] [] (.seq .d (.blk (.loop [1,2,4,5] [] .d))) .d)),⟨[(311,F311.c),(312,F312.c)],gl,false⟩,[],f308⟩
def t4(h:Int32)(g:Int)(a:LX)(f:Int)(b:LX):S:=⟨[(1,vx h),(2, .ptr 0 []),(4, .ptr 1 []),(5,vi f)],[.box 234 (.agg [vi g, .val (.vec 16 (.int .i32)) b, .val (.vec 16 (.int .i32)) a]), .box 234 (.agg [vi 0, .val (.vec 16 (.int .i32)) (List.replicate 16 (0:Int32)), .val (.vec 16 (.int .i32)) (List.replicate 16 (0:Int32))])],[]⟩
def z4:Nat→S→Option R_:=H.i P_ [r,l,r,d]
def x6(g:Int)(b a:LX):Option R_:=H.e P_ [r,r] ⟨[(2, .ptr 0 []),(4, .ptr 1 [])],[.box 234 (.agg [vi g, .val (.vec 16 (.int .i32)) b, .val (.vec 16 (.int .i32)) a]), .box 234 (.agg [vi 0, .val (.vec 16 (.int .i32)) (List.replicate 16 (0:Int32)), .val (.vec 16 (.int .i32)) (List.replicate 16 (0:Int32))])],[]⟩
def x4(h:Int32)(g:Int)(a:LX)(f:Int)(b:LX):Option R_:=H.e P_ [r,l,r,d] (t4 h g a f b)
theorem e6:x6=Acl:=by kernel_rfl
theorem i4(h:Int32)(g:Int)(a:LX):∀(q:Nat) (f:Int) (b:LX),z4 q (t4 h g a f b)=Fc h g a q f b:=
 ind (fun _ _=>by kernel_rfl) fun q ih f b=>Eq.trans (b:=Lr x6 (fun f b=>(z4 q) (t4 h g a f b)) h g a f b) (by kernel_rfl) (by simp only[e6,ih]<;>rfl)
theorem e4:x4=Ac5:=by funext h g a f b;exact Eq.trans (by kernel_rfl) ((i4 h g a Bi f b).trans (by rw[Al];rfl))
noncomputable def F:=u4 Yv
theorem rn x:H.u P_ x=F x:=Eq.trans (b:=u4 (Acm x4) x) (by kernel_rfl) (by simp only[e4]<;>rfl)
noncomputable def c:Con:=⟨H.p,H.r,F⟩
theorem ok:ConOk P_ gl 308 c:=co H func308 (.cons F311.ok (.cons F312.ok .nil)) rn
end F308
namespace F307
abbrev R_:=(Int×LX×LX)
noncomputable def H:Hd:=⟨[.agg [Si, .lf (.vec 16 (.int .i32)) none, .lf (.vec 16 (.int .i32)) none],Sx],[.agg [Si, .lf (.vec 16 (.int .i32)) none, .lf (.vec 16 (.int .i32)) none]],(.seq .d (.cut [1,2,4] [] (.seq .d (.blk (.loop [1,2,4,5] [] .d))) .d)),⟨[],gl,false⟩,[],f307⟩
def t4(b:Int32)(f:Int)(g:LX)(h:Int)(a:LX):S:=⟨[(1,vx b),(2, .ptr 0 []),(4, .ptr 1 []),(5,vi h)],[.box 234 (.agg [vi f, .val (.vec 16 (.int .i32)) g, .val (.vec 16 (.int .i32)) a]), .box 234 (.agg [vi 0, .val (.vec 16 (.int .i32)) (List.replicate 16 (0:Int32)), .val (.vec 16 (.int .i32)) (List.replicate 16 (0:Int32))])],[]⟩
def z4:Nat→S→Option R_:=H.i P_ [r,l,r,d]
def x6(b:Int32)(f:Int)(g a:LX):Option R_:=H.e P_ [r,r] ⟨[(1,vx b),(2, .ptr 0 []),(4, .ptr 1 [])],[.box 234 (.agg [vi f, .val (.vec 16 (.int .i32)) g, .val (.vec 16 (.int .i32)) a]), .box 234 (.agg [vi 0, .val (.vec 16 (.int .i32)) (List.replicate 16 (0:Int32)), .val (.vec 16 (.int .i32)) (List.replicate 16 (0:Int32))])],[]⟩
def x4(b:Int32)(f:Int)(g:LX)(h:Int)(a:LX):Option R_:=H.e P_ [r,l,r,d] (t4 b f g h a)
theorem e6:x6=Uf:=by kernel_rfl
theorem i4(b:Int32)(f:Int)(g:LX):∀(q:Nat) (h:Int) (a:LX),z4 q (t4 b f g h a)=Fz b f g q h a:=
 ind (fun _ _=>by kernel_rfl) fun q ih h a=>Eq.trans (b:=Mu x6 (fun h a=>(z4 q) (t4 b f g h a)) b f g h a) (by kernel_rfl) (by simp only[e6,ih]<;>rfl)
theorem e4:x4=Ado:=by funext b f g h a;exact Eq.trans (by kernel_rfl) ((i4 b f g Bi h a).trans (by rw[Al];rfl))
noncomputable def F:=u4 Aao
theorem rn x:H.u P_ x=F x:=Eq.trans (b:=u4 (Ae8 x4) x) (by kernel_rfl) (by simp only[e4]<;>rfl)
noncomputable def c:Con:=⟨H.p,H.r,F⟩
theorem ok:ConOk P_ gl 307 c:=co H func307 .nil rn
end F307
namespace F290
noncomputable def H:Hd:=⟨[.agg [Si, .lf (.vec 16 (.int .i32)) none, .lf (.vec 16 (.int .i32)) none],Sx],[Sx, .agg [Si, .lf (.vec 16 (.int .i32)) none, .lf (.vec 16 (.int .i32)) none]], .d,⟨[(291,F291.c),(306,F306.c),(307,F307.c),(308,F308.c)],gl,false⟩,[],f290⟩
noncomputable def F:=u4 Pr
theorem rn x:H.u P_ x=F x:=by kernel_rfl
noncomputable def c:Con:=⟨H.p,H.r,F⟩
theorem ok:ConOk P_ gl 290 c:=co H func290 (.cons F291.ok (.cons F306.ok (.cons F307.ok (.cons F308.ok .nil)))) rn
end F290
namespace F309
abbrev R_:=Int32
noncomputable def H:Hd:=⟨[Si,Sx],[Sx],(.seq .d (.seq .d (.cut [1,5] [] .d .d))),⟨[],gl,false⟩,[],f309⟩
def x2(b:Int32)(a:Int):Option R_:=H.e P_ [r,r,r] ⟨[(1,vx b),(5,vi a)],[],[]⟩
theorem e2:x2=My:=by kernel_rfl
noncomputable def F:=u2 Mf
theorem rn x:H.u P_ x=F x:=Eq.trans (b:=u2 (Ub x2) x) (by kernel_rfl) (by simp only[e2]<;>rfl)
noncomputable def c:Con:=⟨H.p,H.r,F⟩
theorem ok:ConOk P_ gl 309 c:=co H func309 .nil rn
end F309
namespace F292
noncomputable def H:Hd:=⟨[.agg [Si,Sx, .agg [Si, .lf (.vec 16 (.int .i32)) none, .lf (.vec 16 (.int .i32)) none]]],[Si], .d,⟨[(309,F309.c)],gl,false⟩,[],f292⟩
noncomputable def F:=u5 Rv
theorem rn x:H.u P_ x=F x:=by kernel_rfl
noncomputable def c:Con:=⟨H.p,H.r,F⟩
theorem ok:ConOk P_ gl 292 c:=co H func292 (.cons F309.ok .nil) rn
end F292
namespace F264
noncomputable def H:Hd:=⟨[.agg [Si,Sx, .agg [Si, .lf (.vec 16 (.int .i32)) none, .lf (.vec 16 (.int .i32)) none]],Sx],[Sx, .agg [Si,Sx, .agg [Si, .lf (.vec 16 (.int .i32)) none, .lf (.vec 16 (.int .i32)) none]]], .d,⟨[(290,F290.c),(291,F291.c),(292,F292.c)],gl,false⟩,[],f264⟩
noncomputable def F:=u6 Ia
theorem rn x:H.u P_ x=F x:=by kernel_rfl
noncomputable def c:Con:=⟨H.p,H.r,F⟩
theorem ok:ConOk P_ gl 264 c:=co H func264 (.cons F290.ok (.cons F291.ok (.cons F292.ok .nil))) rn
end F264
namespace F293
noncomputable def H:Hd:=⟨[Si,Sw],[Si], .d,⟨[],gl,false⟩,[],f293⟩
noncomputable def F:=u2 Nw
theorem rn x:H.u P_ x=F x:=by kernel_rfl
noncomputable def c:Con:=⟨H.p,H.r,F⟩
theorem ok:ConOk P_ gl 293 c:=co H func293 .nil rn
end F293
namespace F294
abbrev R_:=LX
noncomputable def H:Hd:=⟨[Sw],[Ow 21],(.seq .d (.seq .d (.seq .d (.seq .d (.cut [0,3,4] [] .d (.cut [4] [] (.seq .d (.blk (.loop [0,4,5] [] .d))) .d)))))),⟨[(291,F291.c)],gl,false⟩,[],f294⟩
def t6(a:LX)(f:Int)(b:LX):S:=⟨[(0,vw a),(4, .own 0),(5,vi f)],[Aw 21 b],[]⟩
def z6:Nat→S→Option R_:=H.i P_ [r,r,r,r,r,l,r,d]
def x8(b:LX):Option R_:=H.e P_ [r,r,r,r,r,r] ⟨[(4, .own 0)],[Aw 21 b],[]⟩
def x6(a:LX)(f:Int)(b:LX):Option R_:=H.e P_ [r,r,r,r,r,l,r,d] (t6 a f b)
def x5(a g:LX):Option R_:=H.e P_ [r,r,r,r,r] ⟨[(0,vw a),(3,vi (Ac a)),(4, .own 0)],[Aw 21 g],[]⟩
theorem e8:x8=Acy:=by kernel_rfl
theorem i6(a:LX):∀(q:Nat) (f:Int) (b:LX),z6 q (t6 a f b)=Fa a q f b:=
 ind (fun _ _=>by kernel_rfl) fun q ih f b=>Eq.trans (b:=Lg x8 (fun f b=>(z6 q) (t6 a f b)) a f b) (by kernel_rfl) (by simp only[e8,ih]<;>rfl)
theorem e6:x6=Ac6:=by funext a f b;exact Eq.trans (by kernel_rfl) ((i6 a Bi f b).trans (by rw[Al];rfl))
theorem e5:x5=Lk:=Eq.trans (b:=Ti x6) (by kernel_rfl) (by simp only[e6]<;>rfl)
noncomputable def F:=Qf
theorem rn x:H.u P_ x=F x:=Eq.trans (b:=Sa x5 x) (by kernel_rfl) (by simp only[e5]<;>rfl)
noncomputable def c:Con:=⟨H.p,H.r,F⟩
theorem ok:ConOk P_ gl 294 c:=co H func294 (.cons F291.ok .nil) rn
end F294
namespace F266
abbrev R_:=(LX×Int)
noncomputable def H:Hd:=⟨[Si,Sw],[Ow 21,Si],(.seq .d (.seq .d (.seq .d (.cut [6] [] (.seq .d (.blk (.loop [0,1,6,7] [⟨6,[], .own 21 (.int .i32)⟩] .d))) .d)))),⟨[(293,F293.c),(294,F294.c)],gl,false⟩,[],f266⟩
def t4(a:Int)(b:LX)(g:Int)(f:LX):S:=⟨[(0,vi a),(1,vw b),(6, .own 0),(7,vi g)],[Aw 21 f],[]⟩
def z4:Nat→S→Option R_:=H.i P_ [r,r,r,l,r,d]
def x6(f:LX):Option R_:=H.e P_ [r,r,r,r] ⟨[(6, .own 0)],[Aw 21 f],[]⟩
def x4(a:Int)(b:LX)(g:Int)(f:LX):Option R_:=H.e P_ [r,r,r,l,r,d] (t4 a b g f)
theorem e6:x6=Aho:=by kernel_rfl
theorem i4(a:Int)(b:LX):∀(q:Nat) (g:Int) (f:LX),z4 q (t4 a b g f)=Ku a b q g f:=
 ind (fun _ _=>by kernel_rfl) fun q ih g f=>Eq.trans (b:=Yq x6 (fun g f=>(z4 q) (t4 a b g f)) a b g f) (by kernel_rfl) (by simp only[e6,ih]<;>rfl)
theorem e4:x4=Ah4:=by funext a b g f;exact Eq.trans (by kernel_rfl) ((i4 a b Bi g f).trans (by rw[Al];rfl))
noncomputable def F:=u2 Xa
theorem rn x:H.u P_ x=F x:=Eq.trans (b:=u2 (Zo x4) x) (by kernel_rfl) (by simp only[e4]<;>rfl)
noncomputable def c:Con:=⟨H.p,H.r,F⟩
theorem ok:ConOk P_ gl 266 c:=co H func266 (.cons F293.ok (.cons F294.ok .nil)) rn
end F266
namespace F226
def Qy(j29:Int→Int32→LX→Int→Int32→Int→LX→LX→Int→Int32→Int→LX→LX→Option (LX))(j32:Int→LX→Option (LX))(b:LU)(a f:Int)(g:LX)(h k:Int)(m:LX)(n:Int)(o:Int32)(p:Int)(u v:LX):Option (LX):=
if(Cc k (Ac b))then
(getI b k).bind fun ah=>
both (
(Lf ah).bind fun ag=>
(fun ap:Option (LX)=>
bo (
ap)) (
(Ia n o p u v ag).bind fun(ae,y,aa,ab,ac,ad)=>
j29 k ae m n o p u v y aa ab ac ad)) [
(Lf ah).bind fun ag=>
(Ia n o p u v ag).bind fun(ae,y,aa,ab,ac,ad)=>
j29 k ae m n o p u v y aa ab ac ad]
else
j32 h m
theorem Ajw: @Qy= @Lt:=by
  unfold Qy Lt
  try simp only[Ah6,Xz,Xx]
  all_goals
    repeat (refine funext fun _=>?_)
    repeat' first
      |with_reducible rfl
      |with_reducible refine Hb ?_ ?_
      |with_reducible refine Hf ?_ ?_ ?_
      |with_reducible refine Hg ?_ ?_ ?_ ?_
      |((with_reducible refine Kr ?_ ?_);focus (intro h;first|(subst h;rfl)|(simp only[h];rfl)|(simp[Cx,Ac,h];done)))
      |with_reducible refine Kq fun x=>?_
      |with_reducible refine Rc (fun _=>?_) (fun _=>?_)
      |(refine Di (fun h=>by simp only[h,Kn,Cn,Ci,ite_self]) (fun x h=>?_);(try simp only[h,Cn]))
      |(refine Em (fun h=>?_) (fun h=>?_)<;>simp only[h,if_true,if_false,Bool.false_eq_true])
abbrev R_:=LX
abbrev K_:=S→Option R_
noncomputable def H:Hd:=⟨[.agg [Si,Si], .lf (.vec 16 (.int .i32)) none,Sv],[Ow 21],(.seq .d (.seq .d (.cut [3,7] [] (.seq .d (.blk (.loop [2,3,4,7,8] [] (.seq .d (.cut [2,3,4,7,8] [] (.blk (.seq .d (.seq .d (.blk (.loop [2,3,4,7,8,9,11] [] (.seq .d (.cut [2,3,4,7,8,9,11] [] (.blk (.cut [2,3,4,7,8,9,11,12,13] [] .d .d)) .d))))))) .d))))) .d))),⟨[(263,F263.c),(264,F264.c),(265,F265.c),(266,F266.c)],gl,false⟩,[],f226⟩
def t26(b:LU)(a f:Int)(g:LX)(h k:Int)(m:LX)(n:Int)(o:Int32)(p:Int)(u v:LX):S:=⟨[(2,vv b),(3, .ptr 0 []),(4, .ptr 1 []),(7, .own 2),(8,vi h),(9, .ptr 3 []),(11,vi k)],[.box 60 (.agg [vi a,vi f]), .box 110 (.val (.vec 16 (.int .i32)) g),Aw 21 m, .box 236 (.agg [vi n,vx o, .agg [vi p, .val (.vec 16 (.int .i32)) u, .val (.vec 16 (.int .i32)) v]])],[]⟩
def z26(kn18:K_):Nat→S→Option R_:=H.i P_ [r,r,l,r,d,(lp kn18),r,l,d,r,r,d]
def t18(b:LU)(a f:Int)(g:LX)(h:Int)(w:LX):S:=⟨[(2,vv b),(3, .ptr 0 []),(4, .ptr 1 []),(7, .own 2),(8,vi h)],[.box 60 (.agg [vi a,vi f]), .box 110 (.val (.vec 16 (.int .i32)) g),Aw 21 w],[]⟩
def z18:Nat→S→Option R_:=H.i P_ [r,r,l,r,d]
def x34(a f:Int)(w:LX):Option R_:=H.e P_ [r,r,r] ⟨[(3, .ptr 0 []),(7, .own 1)],[.box 60 (.agg [vi a,vi f]),Aw 21 w],[]⟩
def x32(kn18:K_)(b:LU)(a f:Int)(g:LX)(h:Int)(m:LX):Option R_:=H.e P_ [r,r,l,r,d,(lp kn18),r,r] ⟨[(2,vv b),(3, .ptr 0 []),(4, .ptr 1 []),(7, .own 2),(8,vi h)],[.box 60 (.agg [vi a,vi f]), .box 110 (.val (.vec 16 (.int .i32)) g),Aw 21 m],[]⟩
def x30(kn18 kn26:K_)(b:LU)(h a f:Int)(g:LX)(k:Int)(af:LX)(y:Int)(aa:Int32)(ab:Int)(ac ad:LX):Option R_:=H.e P_ [r,r,l,r,d,(lp kn18),r,l,d,r,r,d,(lp kn26),r,r] ⟨[(2,vv b),(3, .ptr 0 []),(4, .ptr 1 []),(7, .own 2),(8,vi h),(9, .ptr 3 []),(11,vi k)],[.box 60 (.agg [vi a,vi f]), .box 110 (.val (.vec 16 (.int .i32)) g),Aw 21 af, .box 236 (.agg [vi y,vx aa, .agg [vi ab, .val (.vec 16 (.int .i32)) ac, .val (.vec 16 (.int .i32)) ad]])],[]⟩
def x29(kn18 kn26:K_)(b:LU)(h a f:Int)(g:LX)(k:Int)(ae:Int32)(m:LX)(n:Int)(o:Int32)(p:Int)(u v:LX)(y:Int)(aa:Int32)(ab:Int)(ac ad:LX):Option R_:=H.e P_ [r,r,l,r,d,(lp kn18),r,l,d,r,r,d,(lp kn26),r,l,d,r] ⟨[(2,vv b),(3, .ptr 0 []),(4, .ptr 1 []),(7, .own 2),(8,vi h),(9, .ptr 3 []),(11,vi k),(12,vx ae),(13, .ptr 4 [])],[.box 60 (.agg [vi a,vi f]), .box 110 (.val (.vec 16 (.int .i32)) g),Aw 21 m, .box 236 (.agg [vi n,vx o, .agg [vi p, .val (.vec 16 (.int .i32)) u, .val (.vec 16 (.int .i32)) v]]), .box 236 (.agg [vi y,vx aa, .agg [vi ab, .val (.vec 16 (.int .i32)) ac, .val (.vec 16 (.int .i32)) ad]])],[]⟩
def x26(kn18:K_)(b:LU)(a f:Int)(g:LX)(h k:Int)(m:LX)(n:Int)(o:Int32)(p:Int)(u v:LX):Option R_:=H.e P_ [r,r,l,r,d,(lp kn18),r,l,d,r,r,d] (t26 b a f g h k m n o p u v)
def x18(b:LU)(a f:Int)(g:LX)(h:Int)(w:LX):Option R_:=H.e P_ [r,r,l,r,d] (t18 b a f g h w)
theorem e34:x34=Lj:=by kernel_rfl
theorem e32(kn18:K_)(b:LU)(a f:Int)(g:LX):x32 kn18 b a f g=Tp (fun h w=>kn18 (t18 b a f g h w)) b a f g:=by kernel_rfl
theorem e30(kn18 kn26:K_)(b:LU)(a f:Int)(g:LX)(h:Int):x30 kn18 kn26 b h a f g=Tg (fun k m n o p u v=>kn26 (t26 b a f g h k m n o p u v)) b h a f g:=by kernel_rfl
theorem e29(kn18 kn26:K_)(b:LU)(a f:Int)(g:LX)(h:Int):x29 kn18 kn26 b h a f g=Sp (fun k m n o p u v=>kn26 (t26 b a f g h k m n o p u v)) b h a f g:=Eq.trans (b:=Tk (x30 kn18 kn26 b h a f g) b h a f g) (by kernel_rfl) (by simp only[e30]<;>rfl)
theorem i26(kn18:K_)(b:LU)(a f:Int)(g:LX)(h:Int):∀(q:Nat) (k:Int) (m:LX) (n:Int) (o:Int32) (p:Int) (u v:LX),z26 kn18 q (t26 b a f g h k m n o p u v)=Hy (fun h w=>kn18 (t18 b a f g h w)) b a f g h q k m n o p u v:=
 ind (fun _ _ _ _ _ _ _=>by kernel_rfl) fun q ih k m n o p u v=>Eq.trans (b:=Qy (x29 kn18 (z26 kn18 q) b h a f g) (x32 kn18 b a f g) b a f g h k m n o p u v) (by kernel_rfl) (by rw[Ajw];simp only[e29,e32,ih]<;>rfl)
theorem e26(kn18:K_)(b:LU)(a f:Int)(g:LX):x26 kn18 b a f g=Sr (fun h w=>kn18 (t18 b a f g h w)) b a f g:=by funext h k m n o p u v;exact Eq.trans (by kernel_rfl) ((i26 kn18 b a f g h Bi k m n o p u v).trans (by rw[Al];rfl))
theorem i18(b:LU)(a f:Int)(g:LX):∀(q:Nat) (h:Int) (w:LX),z18 q (t18 b a f g h w)=Dp b a f g q h w:=
 ind (fun _ _=>by kernel_rfl) fun q ih h w=>Eq.trans (b:=Lq (x26 (z18 q) b a f g) x34 b a f g h w) (by kernel_rfl) (by simp only[e26,e34,ih]<;>rfl)
theorem e18:x18=To:=by funext b a f g h w;exact Eq.trans (by kernel_rfl) ((i18 b a f g Bi h w).trans (by rw[Al];rfl))
noncomputable def F:=u4 Iz
theorem rn x:H.u P_ x=F x:=Eq.trans (b:=u4 (Ur x18) x) (by kernel_rfl) (by simp only[e18]<;>rfl)
noncomputable def c:Con:=⟨H.p,H.r,F⟩
theorem ok:ConOk P_ gl 226 c:=co H func226 (.cons F263.ok (.cons F264.ok (.cons F265.ok (.cons F266.ok .nil)))) rn
end F226
namespace F227
abbrev R_:=Int
noncomputable def H:Hd:=⟨[Si,Sw],[Si],(.seq .d (.seq .d (.seq .d (.seq .d (.cut [] [] (.seq .d (.blk (.loop [1,5,6] [] .d))) .d))))),⟨[(267,F267.c)],gl,false⟩,[],f227⟩
def t4(a:LX)(b f:Int):S:=⟨[(1,vw a),(5,vi b),(6,vi f)],[],[]⟩
def z4:Nat→S→Option R_:=H.i P_ [r,r,r,r,l,r,d]
def x6:Option R_:=H.e P_ [r,r,r,r,r] ⟨[],[],[]⟩
def x4(a:LX)(b f:Int):Option R_:=H.e P_ [r,r,r,r,l,r,d] (t4 a b f)
theorem e6:x6=Afs:=by kernel_rfl
theorem i4(a:LX)(b:Int):∀(q:Nat) (f:Int),z4 q (t4 a b f)=Bc a b q f:=
 ind (fun _=>by kernel_rfl) fun q ih f=>Eq.trans (b:=Dk x6 (fun f=>(z4 q) (t4 a b f)) a b f) (by kernel_rfl) (by simp only[e6,ih]<;>rfl)
theorem e4:x4=Afu:=by funext a b f;exact Eq.trans (by kernel_rfl) ((i4 a b Bi f).trans (by rw[Al];rfl))
noncomputable def F:=u2 cadenzaref18_Check
theorem rn x:H.u P_ x=F x:=Eq.trans (b:=u2 (Gv x4) x) (by kernel_rfl) (by simp only[e4]<;>rfl)
noncomputable def c:Con:=⟨H.p,H.r,F⟩
theorem ok:ConOk P_ gl 227 c:=co H func227 (.cons F267.ok .nil) rn
end F227
namespace F225
noncomputable def H:Hd:=⟨[.agg [Si,Si],Sw],[Sw,Si], .d,⟨[(227,F227.c)],gl,false⟩,[],f225⟩
noncomputable def F:=u3 Mm
theorem rn x:H.u P_ x=F x:=by kernel_rfl
noncomputable def c:Con:=⟨H.p,H.r,F⟩
theorem ok:ConOk P_ gl 225 c:=co H func225 (.cons F227.ok .nil) rn
end F225
namespace F185
def Te(f a b:Int)(g:LX)(h:LU):Option (LX×Int):=
if(Ay f 0)then
some (([]:LX),f)
else
(fun u:Option (LX×Int)=>
(fun v:Option (LX×Int)=>
(fun w:Option (LX×Int)=>
both (
v) [
w,
w]) (
both (
u) [
v])) (
bo (
u))) (
(Iz a b g h).bind fun m=>
(Mm a b m).bind fun(n,o)=>
some (n,o))
theorem Akw: @Te= @Dw:=by
  unfold Te Dw
  try simp only[Ah6,Xz,Xx]
  all_goals
    repeat (refine funext fun _=>?_)
    repeat' first
      |with_reducible rfl
      |with_reducible refine Hb ?_ ?_
      |with_reducible refine Hf ?_ ?_ ?_
      |with_reducible refine Hg ?_ ?_ ?_ ?_
      |((with_reducible refine Kr ?_ ?_);focus (intro h;first|(subst h;rfl)|(simp only[h];rfl)|(simp[Cx,Ac,h];done)))
      |with_reducible refine Kq fun x=>?_
      |with_reducible refine Rc (fun _=>?_) (fun _=>?_)
      |(refine Di (fun h=>by simp only[h,Kn,Cn,Ci,ite_self]) (fun x h=>?_);(try simp only[h,Cn]))
      |(refine Em (fun h=>?_) (fun h=>?_)<;>simp only[h,if_true,if_false,Bool.false_eq_true])
abbrev R_:=(LX×Int)
noncomputable def H:Hd:=⟨[.agg [Si,Si], .lf (.vec 16 (.int .i32)) none,Si,Sb],[Sw,Si],(.seq .d (.seq .d (.seq .d (.cut [4,5,10,11] [] .d (.seq .d (.seq (.mode false) .d)))))),⟨[(222,F222.c),(223,F223.c),(224,F224.c),(225,F225.c),(226,F226.c)],gl,false⟩,[],f185⟩
def x2(f a b:Int)(g:LX)(h:LU):Option R_:=H.e P_ [r,r,r,r] ⟨[(4, .ptr 0 []),(5, .ptr 1 []),(10, .own 2),(11,vi f)],[.box 60 (.agg [vi a,vi b]), .box 110 (.val (.vec 16 (.int .i32)) g),Av 154 h],[]⟩
theorem e2:x2=Gb:=Eq.trans (b:=Te) (by kernel_rfl) (by rw[Akw];rfl)
noncomputable def F:=u5 cadenzaref21_Decode
theorem rn x:H.u P_ x=F x:=Eq.trans (b:=u5 (Ms x2) x) (by kernel_rfl) (by simp only[e2]<;>rfl)
noncomputable def c:Con:=⟨H.p,H.r,F⟩
theorem ok:ConOk P_ gl 185 c:=co H func185 (.cons F222.ok (.cons F223.ok (.cons F224.ok (.cons F225.ok (.cons F226.ok .nil))))) rn
end F185
namespace F228
abbrev R_:=LB
noncomputable def H:Hd:=⟨[Si,Sx],[Ob 5],(.seq .d (.seq .d (.seq .d (.cut [0,5] [] .d .d)))),⟨[(267,F267.c)],gl,false⟩,[],f228⟩
def x2(a b:Int):Option R_:=H.e P_ [r,r,r,r] ⟨[(0,vi a),(5,vi b)],[],[]⟩
theorem e2:x2=Jc:=by kernel_rfl
noncomputable def F:=u2 Zx
theorem rn x:H.u P_ x=F x:=Eq.trans (b:=u2 (Aal x2) x) (by kernel_rfl) (by simp only[e2]<;>rfl)
noncomputable def c:Con:=⟨H.p,H.r,F⟩
theorem ok:ConOk P_ gl 228 c:=co H func228 (.cons F267.ok .nil) rn
end F228
namespace F186
abbrev R_:=(LB×Int)
noncomputable def H:Hd:=⟨[Si,Sw],[Ob 5,Si],(.seq .d (.seq .d (.seq .d (.cut [6] [] (.seq .d (.blk (.loop [0,1,6,7] [⟨6,[], .own 5 (.int .u8)⟩] .d))) .d)))),⟨[(227,F227.c),(228,F228.c)],gl,false⟩,[],f186⟩
def t4(f:Int)(a:LX)(g:Int)(b:LB):S:=⟨[(0,vi f),(1,vw a),(6, .own 0),(7,vi g)],[Ab 5 b],[]⟩
def z4:Nat→S→Option R_:=H.i P_ [r,r,r,l,r,d]
def x6(b:LB):Option R_:=H.e P_ [r,r,r,r] ⟨[(6, .own 0)],[Ab 5 b],[]⟩
def x4(f:Int)(a:LX)(g:Int)(b:LB):Option R_:=H.e P_ [r,r,r,l,r,d] (t4 f a g b)
theorem e6:x6=Afo:=by kernel_rfl
theorem i4(f:Int)(a:LX):∀(q:Nat) (g:Int) (b:LB),z4 q (t4 f a g b)=Gt f a q g b:=
 ind (fun _ _=>by kernel_rfl) fun q ih g b=>Eq.trans (b:=Ok x6 (fun g b=>(z4 q) (t4 f a g b)) f a g b) (by kernel_rfl) (by simp only[e6,ih]<;>rfl)
theorem e4:x4=Afq:=by funext f a g b;exact Eq.trans (by kernel_rfl) ((i4 f a Bi g b).trans (by rw[Al];rfl))
noncomputable def F:=u2 Nt
theorem rn x:H.u P_ x=F x:=Eq.trans (b:=u2 (Wc x4) x) (by kernel_rfl) (by simp only[e4]<;>rfl)
noncomputable def c:Con:=⟨H.p,H.r,F⟩
theorem ok:ConOk P_ gl 186 c:=co H func186 (.cons F227.ok (.cons F228.ok .nil)) rn
end F186
namespace F138
abbrev R_:=(LB×Int)
noncomputable def H:Hd:=⟨[.agg [Ss,Sb, .agg [Si,Si,Si,Si,Si],Sl,Si,Sb,Sz,Si]],[Ob 5,Si],(.seq .d (.seq .d (.seq .d (.seq .d (.cut [1,7,8] [] .d .d))))),⟨[(90,F90.c),(135,F135.c),(184,F184.c),(185,F185.c),(186,F186.c)],gl,false⟩,[],f138⟩
def x2(o:LX)(f:Int)(p g:LB)(h k a m n:Int)(u:LI)(b:Int)(v:LB)(w:Bool)(y:Int):Option R_:=H.e P_ [r,r,r,r,r] ⟨[(1, .ptr 0 []),(7,vw o),(8,vi f)],[.box 30 (.agg [vs p,vb g, .agg [vi h,vi k,vi a,vi m,vi n],vl u,vi b,vb v,vt w,vi y])],[]⟩
theorem e2:x2=Ed:=by kernel_rfl
noncomputable def F:=u12 Ch
theorem rn x:H.u P_ x=F x:=Eq.trans (b:=u12 (Ec x2) x) (by kernel_rfl) (by simp only[e2]<;>rfl)
noncomputable def c:Con:=⟨H.p,H.r,F⟩
theorem ok:ConOk P_ gl 138 c:=co H func138 (.cons F90.ok (.cons F135.ok (.cons F184.ok (.cons F185.ok (.cons F186.ok .nil))))) rn
end F138
namespace F92
def Wp(g a:LB)(m o p u v:Int)(b:LI)(f:Int)(n:LB)(h:Bool)(k:Int):Option (LB×LB×Int×Int×Int×Int×Int×LI×Int×LB×Bool×Int×Int):=
if(geq (Ac b) 0)then
(Da a m o p u v g).bind fun(ag,ak,w)=>
if(Ay w 0)then
some (g,a,m,o,p,u,v,b,f,n,h,k,w)
else
(Az a ag (Ac a)).bind fun al=>
some (g,al,m,o,p,u,v,ak,f,n,h,k,0)
else
if(geq f (Ac b))then
if(Ee (Ac a) 4000)then
some (g,a,m,o,p,u,v,b,f,n,h,k,38)
else
some (g,a,m,o,p,u,v,b,f,n,h,k,(-1:Int))
else
(Ch g a m o p u v b f n h k).bind fun(am,y)=>
if(Ay y 0)then
some (g,a,m,o,p,u,v,b,f,n,h,k,y)
else
(Cx ([]:LB) n).bind fun an=>
(Cx an am).bind fun ah=>
(fun aj:Option (LB×LB×Int×Int×Int×Int×Int×LI×Int×LB×Bool×Int×Int)=>
(fun ap:Option (LB×LB×Int×Int×Int×Int×Int×LI×Int×LB×Bool×Int×Int)=>
(fun ao:Option (LB×LB×Int×Int×Int×Int×Int×LI×Int×LB×Bool×Int×Int)=>
(fun aq:Option (LB×LB×Int×Int×Int×Int×Int×LI×Int×LB×Bool×Int×Int)=>
(fun ar:Option (LB×LB×Int×Int×Int×Int×Int×LI×Int×LB×Bool×Int×Int)=>
(fun au:Option (LB×LB×Int×Int×Int×Int×Int×LI×Int×LB×Bool×Int×Int)=>
both (
both (
aq) [
aq,
au]) [
ap,
ap,
both (
au) [
ar,
ar]]) (
bo (
ao))) (
both (
ao) [
aj])) (
both (
aj) [
ao])) (
(getI b f).bind fun ad=>
(Az a ad (Ac a)).bind fun ae=>
some (g,ae,m,o,p,u,v,b,(Ae f 1),ah,h,k,0))) (
(fun av:Option (LB×LB×Int×Int×Int×Int×Int×LI×Int×LB×Bool×Int×Int)=>
both (
both (
aj) [
av]) [
(getI b f).bind fun ad=>
(fun ax:Option (LB×LB×Int×Int×Int×Int×Int×LI×Int×LB×Bool×Int×Int)=>
(fun ay:Option (LB×LB×Int×Int×Int×Int×Int×LI×Int×LB×Bool×Int×Int)=>
bo2 (
ay)) (
bo (
ax))) (
(Az a ad (Ac a)).bind fun ae=>
some (g,ae,m,o,p,u,v,b,(Ae f 1),ah,h,k,0)),
both (
av) [
aj]]) (
(getI b f).bind fun ad=>
(Az a ad (Ac a)).bind fun ae=>
some (g,ae,m,o,p,u,v,b,(Ae f 1),ah,h,k,0)))) (
(getI b f).bind fun ad=>
(fun az:Option (LB×LB×Int×Int×Int×Int×Int×LI×Int×LB×Bool×Int×Int)=>
bo (
az)) (
(Az a ad (Ac a)).bind fun ae=>
some (g,ae,m,o,p,u,v,b,(Ae f 1),ah,h,k,0)))
theorem An9: @Wp= @Bp:=by
  unfold Wp Bp
  try simp only[Ah6,Xz,Xx]
  all_goals
    repeat (refine funext fun _=>?_)
    repeat' first
      |with_reducible rfl
      |with_reducible refine Hb ?_ ?_
      |with_reducible refine Hf ?_ ?_ ?_
      |with_reducible refine Hg ?_ ?_ ?_ ?_
      |((with_reducible refine Kr ?_ ?_);focus (intro h;first|(subst h;rfl)|(simp only[h];rfl)|(simp[Cx,Ac,h];done)))
      |with_reducible refine Kq fun x=>?_
      |with_reducible refine Rc (fun _=>?_) (fun _=>?_)
      |(refine Di (fun h=>by simp only[h,Kn,Cn,Ci,ite_self]) (fun x h=>?_);(try simp only[h,Cn]))
      |(refine Em (fun h=>?_) (fun h=>?_)<;>simp only[h,if_true,if_false,Bool.false_eq_true])
def Vv(j3:LB→LB→Int→Int→Int→Int→Int→LI→Int→LB→Bool→Int→Option (LB×LB×Int×Int×Int×Int×Int×LI×Int×LB×Bool×Int×Int))(j4:LB→LB→Int→Int→Int→Int→Int→LI→Int→LB→Bool→Int→Option (LB×LB×Int×Int×Int×Int×Int×LI×Int×LB×Bool×Int×Int))(g a:LB)(m o p u v:Int)(b:LI)(f:Int)(n:LB)(h:Bool)(k:Int):Option (LB×LB×Int×Int×Int×Int×Int×LI×Int×LB×Bool×Int×Int):=
if(geq m 0)then
(Ld a).bind fun(ag,aa,w,ab,ac,y,ai)=>
if(Ay ai 0)then
some (g,a,m,o,p,u,v,b,f,n,h,k,ai)
else
both (
(Az a ag (Ac a)).bind fun af=>
bo (
j3 g af aa w ab ac y b f n h k)) [
(Az a ag (Ac a)).bind fun af=>
j3 g af aa w ab ac y b f n h k]
else
j4 g a m o p u v b f n h k
theorem Aog: @Vv= @Bo:=by
  unfold Vv Bo
  repeat (refine funext fun _=>?_)
  repeat' first
    |with_reducible rfl
    |with_reducible refine Hb ?_ ?_
    |with_reducible refine Hf ?_ ?_ ?_
    |with_reducible refine Hg ?_ ?_ ?_ ?_
    |((with_reducible refine Kr ?_ ?_);focus (intro h;first|(subst h;rfl)|(simp only[h];rfl)|(simp[Cx,Ac,h];done)))
    |with_reducible refine Kq fun x=>?_
    |with_reducible refine Rc (fun _=>?_) (fun _=>?_)
    |(refine Di (fun h=>by simp only[h,Kn,Cn,Ci,ite_self]) (fun x h=>?_);(try simp only[h,Cn]))
    |(refine Em (fun h=>?_) (fun h=>?_)<;>simp only[h,if_true,if_false,Bool.false_eq_true])
abbrev R_:=(LB×LB×Int×Int×Int×Int×Int×LI×Int×LB×Bool×Int×Int)
noncomputable def H:Hd:=⟨[.agg [Ss,Sb, .agg [Si,Si,Si,Si,Si],Sl,Si,Sb,Sz,Si]],[.agg [Ss,Sb, .agg [Si,Si,Si,Si,Si],Sl,Si,Sb,Sz,Si],Si],(.seq .d (.cut [1,2] [] (.seq .d (.cond (.seq .d (.seq .d (.cut [1,2,5] [] (.mode false) .d))) .d)) (.seq .d (.seq .d (.seq .d (.seq .d (.seq .d (.seq (.mode false) .d)))))))),⟨[(88,F88.c),(136,F136.c),(137,F137.c),(138,F138.c)],gl,false⟩,[],f92⟩
def x4(g a:LB)(m o p u v:Int)(b:LI)(f:Int)(n:LB)(h:Bool)(k:Int):Option R_:=H.e P_ [r,r] ⟨[(1, .ptr 0 []),(2, .ptr 1 [])],[.box 30 (.agg [vs g,vb a, .agg [vi m,vi o,vi p,vi u,vi v],vl b,vi f,vb n,vt h,vi k]), .box 30 (.agg [vs ([]:LB), .nils, .agg [vi 0,vi 0,vi 0,vi 0,vi 0], .nils,vi 0, .nils,vt false,vi 0])],[]⟩
def x3(g af:LB)(aa w ab ac y:Int)(b:LI)(f:Int)(n:LB)(h:Bool)(k:Int):Option R_:=H.e P_ [r,l,r,l,r,r,r] ⟨[(1, .ptr 0 []),(2, .ptr 1 []),(5, .ptr 2 [])],[.box 30 (.agg [vs g,vb af, .agg [vi aa,vi w,vi ab,vi ac,vi y],vl b,vi f,vb n,vt h,vi k]), .box 30 (.agg [vs ([]:LB), .nils, .agg [vi 0,vi 0,vi 0,vi 0,vi 0], .nils,vi 0, .nils,vt false,vi 0]), .box 27 (.agg [vi aa,vi w,vi ab,vi ac,vi y])],[]⟩
theorem e4:x4=Bz:=Eq.trans (b:=Wp) (by kernel_rfl) (by rw[An9];rfl)
theorem e3:x3=Fk:=by kernel_rfl
noncomputable def F:=u12 cadenzaref37_take
theorem rn x:H.u P_ x=F x:=Eq.trans (b:=u12 (Vv x3 x4) x) (by kernel_rfl) (by unfold F;rw[Aog];simp only[e3,e4]<;>rfl)
noncomputable def c:Con:=⟨H.p,H.r,F⟩
theorem ok:ConOk P_ gl 92 c:=co H func92 (.cons F88.ok (.cons F136.ok (.cons F137.ok (.cons F138.ok .nil)))) rn
end F92
namespace F45
abbrev R_:=Bool
noncomputable def H:Hd:=⟨[.agg [Ss,Sb, .agg [Si,Si,Si,Si,Si],Sl,Si,Sb,Sz,Si]],[Sz],(.seq .d (.cut [1] [] (.seq .d (.cond .d (.cut [1] [] .d .d))) .d)),⟨[(87,F87.c),(88,F88.c),(89,F89.c),(90,F90.c),(91,F91.c),(92,F92.c)],gl,false⟩,[],f45⟩
def x4(o p:LB)(b f g h k:Int)(m:LI)(a:Int)(n:LB)(u:Bool)(v:Int):Option R_:=H.e P_ [r,r] ⟨[(1, .ptr 0 [])],[.box 30 (.agg [vs o,vb p, .agg [vi b,vi f,vi g,vi h,vi k],vl m,vi a,vb n,vt u,vi v])],[]⟩
def x3(o p:LB)(b f g h k:Int)(m:LI)(a:Int)(n:LB)(u:Bool)(v:Int):Option R_:=H.e P_ [r,l,r,r,r] ⟨[(1, .ptr 0 [])],[.box 30 (.agg [vs o,vb p, .agg [vi b,vi f,vi g,vi h,vi k],vl m,vi a,vb n,vt u,vi v])],[]⟩
theorem e4:x4=Bf:=by kernel_rfl
theorem e3:x3=Jq:=Eq.trans (b:=Ju x4) (by kernel_rfl) (by simp only[e4]<;>rfl)
noncomputable def F:=u12 Hr
theorem rn x:H.u P_ x=F x:=Eq.trans (b:=u12 (Oc x4 x3) x) (by kernel_rfl) (by simp only[e4,e3]<;>rfl)
noncomputable def c:Con:=⟨H.p,H.r,F⟩
theorem ok:ConOk P_ gl 45 c:=co H func45 (.cons F87.ok (.cons F88.ok (.cons F89.ok (.cons F90.ok (.cons F91.ok (.cons F92.ok .nil)))))) rn
end F45
namespace F46
noncomputable def H:Hd:=⟨[Si],[Sz], .d,⟨[],gl,false⟩,[],f46⟩
noncomputable def F:=Qp
theorem rn x:H.u P_ x=F x:=by kernel_rfl
noncomputable def c:Con:=⟨H.p,H.r,F⟩
theorem ok:ConOk P_ gl 46 c:=co H func46 .nil rn
end F46
namespace F16
noncomputable def H:Hd:=⟨[.agg [Ss,Sb, .agg [Si,Si,Si,Si,Si],Sl,Si,Sb,Sz,Si]],[Si], .d,⟨[(45,F45.c),(46,F46.c)],gl,false⟩,[],f16⟩
noncomputable def F:=u12 Bt
theorem rn x:H.u P_ x=F x:=by kernel_rfl
noncomputable def c:Con:=⟨H.p,H.r,F⟩
theorem ok:ConOk P_ gl 16 c:=co H func16 (.cons F45.ok (.cons F46.ok .nil)) rn
end F16
namespace F41
abbrev R_:=Bool
noncomputable def H:Hd:=⟨[Sl,Sl],[Sz],(.seq .d (.seq .d (.cut [] [] (.seq .d (.blk (.loop [0,1,5] [] .d))) .d))),⟨[],gl,false⟩,[],f41⟩
def t4(a b:LI)(f:Int):S:=⟨[(0,vl a),(1,vl b),(5,vi f)],[],[]⟩
def z4:Nat→S→Option R_:=H.i P_ [r,r,l,r,d]
def x6:Option R_:=H.e P_ [r,r,r] ⟨[],[],[]⟩
def x4(a b:LI)(f:Int):Option R_:=H.e P_ [r,r,l,r,d] (t4 a b f)
theorem e6:x6=Aa7:=by kernel_rfl
theorem i4(a b:LI):∀(q:Nat) (f:Int),z4 q (t4 a b f)=El a b q f:=
 ind (fun _=>by kernel_rfl) fun q ih f=>Eq.trans (b:=Ks x6 (fun f=>(z4 q) (t4 a b f)) a b f) (by kernel_rfl) (by simp only[e6,ih]<;>rfl)
theorem e4:x4=Aba:=by funext a b f;exact Eq.trans (by kernel_rfl) ((i4 a b Bi f).trans (by rw[Al];rfl))
noncomputable def F:=u2 Ot
theorem rn x:H.u P_ x=F x:=Eq.trans (b:=u2 (Qx x4) x) (by kernel_rfl) (by simp only[e4]<;>rfl)
noncomputable def c:Con:=⟨H.p,H.r,F⟩
theorem ok:ConOk P_ gl 41 c:=co H func41 .nil rn
end F41
namespace F13
noncomputable def H:Hd:=⟨[.agg [Ss,Sb, .agg [Si,Si,Si,Si,Si],Sl,Si,Sb,Sz,Si], .agg [Ss,Sb, .agg [Si,Si,Si,Si,Si],Sl,Si,Sb,Sz,Si]],[Sz], .d,⟨[(41,F41.c)],gl,false⟩,[],f13⟩
noncomputable def F(x:LB×LB×Int×Int×Int×Int×Int×LI×Int×LB×Bool×Int×LB×LB×Int×Int×Int×Int×Int×LI×Int×LB×Bool×Int):=Lm x.1 x.2.1 x.2.2.1 x.2.2.2.1 x.2.2.2.2.1 x.2.2.2.2.2.1 x.2.2.2.2.2.2.1 x.2.2.2.2.2.2.2.1 x.2.2.2.2.2.2.2.2.1 x.2.2.2.2.2.2.2.2.2.1 x.2.2.2.2.2.2.2.2.2.2.1 x.2.2.2.2.2.2.2.2.2.2.2.1 x.2.2.2.2.2.2.2.2.2.2.2.2.1 x.2.2.2.2.2.2.2.2.2.2.2.2.2.1 x.2.2.2.2.2.2.2.2.2.2.2.2.2.2.1 x.2.2.2.2.2.2.2.2.2.2.2.2.2.2.2.1 x.2.2.2.2.2.2.2.2.2.2.2.2.2.2.2.2.1 x.2.2.2.2.2.2.2.2.2.2.2.2.2.2.2.2.2.1 x.2.2.2.2.2.2.2.2.2.2.2.2.2.2.2.2.2.2.1 x.2.2.2.2.2.2.2.2.2.2.2.2.2.2.2.2.2.2.2.1 x.2.2.2.2.2.2.2.2.2.2.2.2.2.2.2.2.2.2.2.2.1 x.2.2.2.2.2.2.2.2.2.2.2.2.2.2.2.2.2.2.2.2.2.1 x.2.2.2.2.2.2.2.2.2.2.2.2.2.2.2.2.2.2.2.2.2.2.1 x.2.2.2.2.2.2.2.2.2.2.2.2.2.2.2.2.2.2.2.2.2.2.2
theorem rn(x:LB×LB×Int×Int×Int×Int×Int×LI×Int×LB×Bool×Int×LB×LB×Int×Int×Int×Int×Int×LI×Int×LB×Bool×Int):H.u P_ x=F x:=by kernel_rfl
noncomputable def c:Con:=⟨H.p,H.r,F⟩
theorem ok:ConOk P_ gl 13 c:=co H func13 (.cons F41.ok .nil) rn
end F13
namespace F4
abbrev R_:=Bool
noncomputable def H:Hd:=⟨[Ss,Sb,Sb],[Sz],(.seq .d (.seq .d (.cut [0,1,2,7] [] .d (.seq .d (.seq .d (.cut [2,7,10,11] [] .d (.seq .d (.seq .d (.seq .d (.cut [7,11,12,13,15] [] .d .d)))))))))),⟨[(9,F9.c),(10,F10.c),(11,F11.c),(12,F12.c),(13,F13.c),(15,F15.c),(16,F16.c),(17,F17.c)],gl,false⟩,[],f4⟩
def x6(a:Bool)(b m u:Int)(ah n:LB)(ai aj ak al am:Int)(an:LI)(ao:Int)(o:LB)(v:Bool)(p:Int):Option R_:=H.e P_ [r,r,r,r,r,r,r,r,r,r] ⟨[(7,vt a),(11,vi b),(12, .ptr 0 []),(13,vi m),(15,vi u)],[.box 30 (.agg [vs ah,vb n, .agg [vi ai,vi aj,vi ak,vi al,vi am],vl an,vi ao,vb o,vt v,vi p])],[]⟩
def x5(f:LB)(a:Bool)(b:Int)(w:LB)(y aa ab ac ad ae:Int)(g:LB)(h:Bool)(k:Int)(af:LB)(ag:LI):Option R_:=H.e P_ [r,r,r,r,r,r] ⟨[(2,vb f),(7,vt a),(10, .ptr 0 []),(11,vi b)],[.box 30 (.agg [vs w, .own 1, .agg [vi y,vi aa,vi ab,vi ac,vi ad], .own 2,vi ae,vb g,vt h,vi k]),Ab 5 af,Ai 3 ag],[]⟩
def x4(ap aq f:LB)(a:Bool):Option R_:=H.e P_ [r,r,r] ⟨[(0,vs ap),(1,vb aq),(2,vb f),(7,vt a)],[],[]⟩
theorem e6:x6=Kx:=by kernel_rfl
theorem e5:x5=Lb:=Eq.trans (b:=Kw x6) (by kernel_rfl) (by simp only[e6]<;>rfl)
theorem e4:x4=Gm:=Eq.trans (b:=Kt x5) (by kernel_rfl) (by simp only[e5]<;>rfl)
noncomputable def F:=u3 Is
theorem rn x:H.u P_ x=F x:=Eq.trans (b:=u3 (Ky x4) x) (by kernel_rfl) (by simp only[e4]<;>rfl)
noncomputable def c:Con:=⟨H.p,H.r,F⟩
theorem ok:ConOk P_ gl 4 c:=co H func4 (.cons F9.ok (.cons F10.ok (.cons F11.ok (.cons F12.ok (.cons F13.ok (.cons F15.ok (.cons F16.ok (.cons F17.ok .nil)))))))) rn
end F4
end
end Go.Proofs.YtfcmocdmhnafcaaGreatDoor
