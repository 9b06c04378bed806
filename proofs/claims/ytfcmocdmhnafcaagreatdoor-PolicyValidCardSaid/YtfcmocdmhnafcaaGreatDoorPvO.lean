/- A part of the proof of a statement of this seat (see the text that ends in Proof): PvOk. No conditions of its own. -/
import Derived.Test.YtfcmocdmhnafcaaGreatDoorPvBB
import Derived.Test.YtfcmocdmhnafcaaGreatDoorPvPA
import Derived.Test.YtfcmocdmhnafcaaGreatDoorPvHA
import Derived.Test.YtfcmocdmhnafcaaGreatDoorProg
import Derived.KernelRfl
set_option linter.unusedVariables false
set_option linter.unusedSimpArgs false
set_option maxRecDepth 10000
namespace Go.Proofs.YtfcmocdmhnafcaaGreatDoor
open Go Go.Lv Go.Pl Go.Rx Go.Rx.PS
noncomputable section
def g1:List Value:=[.int .i64 2, .int .i64 2, .int .i64 2, .int .i64 4, .int .i64 4]
def g3:List Value:=[.int .u8 0, .int .u8 1, .int .u8 56, .int .u8 2, .int .u8 57, .int .u8 49, .int .u8 28, .int .u8 3, .int .u8 61, .int .u8 58, .int .u8 42, .int .u8 50, .int .u8 38, .int .u8 29, .int .u8 17, .int .u8 4, .int .u8 62, .int .u8 47, .int .u8 59, .int .u8 36, .int .u8 45, .int .u8 43, .int .u8 51, .int .u8 22, .int .u8 53, .int .u8 39, .int .u8 33, .int .u8 30, .int .u8 24, .int .u8 18, .int .u8 12, .int .u8 5, .int .u8 63, .int .u8 55, .int .u8 48, .int .u8 27, .int .u8 60, .int .u8 41, .int .u8 37, .int .u8 16, .int .u8 46, .int .u8 35, .int .u8 44, .int .u8 21, .int .u8 52, .int .u8 32, .int .u8 23, .int .u8 11, .int .u8 54, .int .u8 26, .int .u8 40, .int .u8 15, .int .u8 34, .int .u8 20, .int .u8 31, .int .u8 10, .int .u8 25, .int .u8 14, .int .u8 19, .int .u8 9, .int .u8 13, .int .u8 8, .int .u8 7, .int .u8 6]
def gl:List (Nat×List Value):=[(1,g1),(3,g3)]
theorem mixed:Tryz.prog.follows .mixedOrders=true:=by kernel_rfl
noncomputable abbrev P_:=Tryz.prog
theorem cr(H:Hd){f:Nat}{F:LTy (shL H.p)→Option (LTy (shL H.r))}(hf:P_.funcs[f]? =some H.f)(hT:Ab9 P_ H.T)(hA:∀p∈H.s,Ent P_ p.1)(h:∀x,H.u P_ x=F x)(hb:okH H=true:=by kernel_rfl):ConOk P_ H.T.gl f ⟨H.p,H.r,F⟩:=Hd.con mixed H hf hT hA hb h
theorem co(H:Hd){f:Nat}{F:LTy (shL H.p)→Option (LTy (shL H.r))}(hf:P_.funcs[f]? =some H.f)(hT:Ab9 P_ H.T)(h:∀x,H.u P_ x=F x)(hb:(H.s.isEmpty&&okH H)=true:=by kernel_rfl):ConOk P_ H.T.gl f ⟨H.p,H.r,F⟩:=Hd.Ce7 mixed H hf hT hb h
theorem ent55:Ent Tryz.prog 55:=Ent.mk Tryz.func55 (by kernel_rfl) rfl
theorem ent60:Ent Tryz.prog 60:=Ent.mk Tryz.func60 (by kernel_rfl) rfl
theorem ent63:Ent Tryz.prog 63:=Ent.mk Tryz.func63 (by kernel_rfl) rfl
theorem ent64:Ent Tryz.prog 64:=Ent.mk Tryz.func64 (by kernel_rfl) rfl
theorem ent73:Ent Tryz.prog 73:=Ent.mk Tryz.func73 (by kernel_rfl) rfl
theorem ent74:Ent Tryz.prog 74:=Ent.mk Tryz.func74 (by kernel_rfl) rfl
theorem ent76:Ent Tryz.prog 76:=Ent.mk Tryz.func76 (by kernel_rfl) rfl
theorem ent109:Ent Tryz.prog 109:=Ent.mk Tryz.func109 (by kernel_rfl) rfl
theorem ent110:Ent Tryz.prog 110:=Ent.mk Tryz.func110 (by kernel_rfl) rfl
theorem ent127:Ent Tryz.prog 127:=Ent.mk Tryz.func127 (by kernel_rfl) rfl
theorem ent160:Ent Tryz.prog 160:=Ent.mk Tryz.func160 (by kernel_rfl) rfl
theorem ent178:Ent Tryz.prog 178:=Ent.mk Tryz.func178 (by kernel_rfl) rfl
theorem ent193:Ent Tryz.prog 193:=Ent.mk Tryz.func193 (by kernel_rfl) rfl
theorem ent197:Ent Tryz.prog 197:=Ent.mk Tryz.func197 (by kernel_rfl) rfl
theorem ent198:Ent Tryz.prog 198:=Ent.mk Tryz.func198 (by kernel_rfl) rfl
theorem ent199:Ent Tryz.prog 199:=Ent.mk Tryz.func199 (by kernel_rfl) rfl
theorem ent202:Ent Tryz.prog 202:=Ent.mk Tryz.func202 (by kernel_rfl) rfl
theorem ent208:Ent Tryz.prog 208:=Ent.mk Tryz.func208 (by kernel_rfl) rfl
theorem ent214:Ent Tryz.prog 214:=Ent.mk Tryz.func214 (by kernel_rfl) rfl
theorem ent229:Ent Tryz.prog 229:=Ent.mk Tryz.func229 (by kernel_rfl) rfl
theorem ent233:Ent Tryz.prog 233:=Ent.mk Tryz.func233 (by kernel_rfl) rfl
theorem ent236:Ent Tryz.prog 236:=Ent.mk Tryz.func236 (by kernel_rfl) rfl
theorem ent239:Ent Tryz.prog 239:=Ent.mk Tryz.func239 (by kernel_rfl) rfl
theorem ent269:Ent Tryz.prog 269:=Ent.mk Tryz.func269 (by kernel_rfl) rfl
theorem ent274:Ent Tryz.prog 274:=Ent.mk Tryz.func274 (by kernel_rfl) rfl
abbrev u2{A B R:Type}(f:A→B→R)(x:A×B):=f x.1 x.2
abbrev u3{A B C R:Type}(f:A→B→C→R):=u2 fun a=>u2 (f a)
abbrev u4{A B C D R:Type}(f:A→B→C→D→R):=u2 fun a=>u3 (f a)
abbrev u5{A B C D E R:Type}(f:A→B→C→D→E→R):=u2 fun a=>u4 (f a)
abbrev u6{A B C D E F R:Type}(f:A→B→C→D→E→F→R):=u2 fun a=>u5 (f a)
abbrev u7{A B C D E F G R:Type}(f:A→B→C→D→E→F→G→R):=u2 fun a=>u6 (f a)
abbrev u8{A B C D E F G H R:Type}(f:A→B→C→D→E→F→G→H→R):=u2 fun a=>u7 (f a)
open Go.Proofs.Tryz
namespace F177
noncomputable def H:Hd:=⟨[.agg [Si,Si,Si,Sw]],[.agg [Si,Si]], .d,⟨[],gl,false⟩,[],f177⟩
noncomputable def F:=u4 Awa
theorem rn x:H.u P_ x=F x:=by kernel_rfl
noncomputable def c:Con:=⟨H.p,H.r,F⟩
theorem ok:ConOk P_ gl 177 c:=co H func177 .nil rn
end F177
namespace F120
abbrev R_:=(Int32×Int32×Int)
noncomputable def H:Hd:=⟨[Si],[Sx,Sx,Si],(.seq .d (.seq (.seq .d (.blk (.cut [0,7] [] .d .d))) .d)),⟨[],gl,false⟩,[],f120⟩
def x2(a:Int)(b:Bool):Option R_:=H.e P_ [r,l,r,d,r] ⟨[(0,vi a),(7,vt b)],[],[]⟩
theorem e2:x2=Aq5:=by kernel_rfl
noncomputable def F:=Sf
theorem rn x:H.u P_ x=F x:=Eq.trans (b:=Aq4 x2 x) (by kernel_rfl) (by simp only[e2]<;>rfl)
noncomputable def c:Con:=⟨H.p,H.r,F⟩
theorem ok:ConOk P_ gl 120 c:=co H func120 .nil rn
end F120
namespace F114
noncomputable def H:Hd:=⟨[.agg [Si,Si]],[Si], .d,⟨[(120,F120.c)],gl,false⟩,[],f114⟩
noncomputable def F:=u2 Hw
theorem rn x:H.u P_ x=F x:=by kernel_rfl
noncomputable def c:Con:=⟨H.p,H.r,F⟩
theorem ok:ConOk P_ gl 114 c:=co H func114 (.cons F120.ok .nil) rn
end F114
namespace F70
noncomputable def H:Hd:=⟨[Si],[Si,Si], .d,⟨[],gl,false⟩,[],f70⟩
noncomputable def F:=Zt
theorem rn x:H.u P_ x=F x:=by kernel_rfl
noncomputable def c:Con:=⟨H.p,H.r,F⟩
theorem ok:ConOk P_ gl 70 c:=co H func70 .nil rn
end F70
namespace F69
noncomputable def H:Hd:=⟨[Si,Si],[Si,Si], .d,⟨[(70,F70.c)],gl,false⟩,[],f69⟩
noncomputable def F:=u2 Oy
theorem rn x:H.u P_ x=F x:=by kernel_rfl
noncomputable def c:Con:=⟨H.p,H.r,F⟩
theorem ok:ConOk P_ gl 69 c:=co H func69 (.cons F70.ok .nil) rn
end F69
namespace F209
noncomputable def H:Hd:=⟨[.agg [Si,Si,Si,Sw],Si],[Si], .d,⟨[(69,F69.c),(114,F114.c),(177,F177.c)],gl,false⟩,[],f209⟩
noncomputable def F:=u5 Bhw
theorem rn x:H.u P_ x=F x:=by kernel_rfl
noncomputable def c:Con:=⟨H.p,H.r,F⟩
theorem ok:ConOk P_ gl 209 c:=co H func209 (.cons F69.ok (.cons F114.ok (.cons F177.ok .nil))) rn
end F209
namespace F67
abbrev R_:=Int
noncomputable def H:Hd:=⟨[Si,Sw],[Si],(.seq .d (.seq .d (.seq .d (.seq .d (.cut [] [] (.seq .d (.blk (.loop [5,6,22,23,24] [] .d))) .d))))),⟨[(120,F120.c)],gl,false⟩,[],f67⟩
def t4(b f:Int32)(a:LX)(g:Int):S:=⟨[(5,vx b),(6,vx f),(22,vw a),(23,vi (Ac a)),(24,vi g)],[],[]⟩
def z4:Nat→S→Option R_:=H.i P_ [r,r,r,r,l,r,d]
def x6:Option R_:=H.e P_ [r,r,r,r,r] ⟨[],[],[]⟩
def x4(b f:Int32)(a:LX)(g:Int):Option R_:=H.e P_ [r,r,r,r,l,r,d] (t4 b f a g)
theorem e6:x6=Ara:=by kernel_rfl
theorem i4(b f:Int32)(a:LX):∀(q:Nat) (g:Int),z4 q (t4 b f a g)=Mr b f a q g:=
 ind (fun _=>by kernel_rfl) fun q ih g=>Eq.trans (b:=Zj x6 (fun g=>(z4 q) (t4 b f a g)) b f a g) (by kernel_rfl) (by simp only[e6,ih]<;>rfl)
theorem e4:x4=Aq6:=by funext b f a g;exact Eq.trans (by kernel_rfl) ((i4 b f a Cn g).trans (by rw[Ar];rfl))
noncomputable def F:=u2 Ta
theorem rn x:H.u P_ x=F x:=Eq.trans (b:=u2 (Ahc x4) x) (by kernel_rfl) (by simp only[e4]<;>rfl)
noncomputable def c:Con:=⟨H.p,H.r,F⟩
theorem ok:ConOk P_ gl 67 c:=co H func67 (.cons F120.ok .nil) rn
end F67
namespace F174
noncomputable def H:Hd:=⟨[.agg [Si,Si,Si,Sw]],[Si], .d,⟨[(67,F67.c),(209,F209.c)],gl,false⟩,[],f174⟩
noncomputable def F:=u4 Aco
theorem rn x:H.u P_ x=F x:=by kernel_rfl
noncomputable def c:Con:=⟨H.p,H.r,F⟩
theorem ok:ConOk P_ gl 174 c:=co H func174 (.cons F67.ok (.cons F209.ok .nil)) rn
end F174
namespace F123
def Afw(j2:LB→Int→Int→Int→LX→Option (Int×Int×Int×Int×Int×Int))(a b f:Int)(g:LX)(h:LB):Option (Int×Int×Int×Int×Int×Int):=
(Aco a b f g).bind fun k=>
if(Bb k 0)then
some (0,0,0,0,0,k)
else
if(Ey (Ac h) 64)then
some (0,0,0,0,0,2)
else
(Gk (Bb a 0)).bind fun _=>
bo (
j2 h a b f g)
theorem Avv: @Afw= @Ahm:=by
  unfold Afw Ahm
  simp only[Az9,Ars,Aro]
abbrev R_:=(Int×Int×Int×Int×Int×Int)
noncomputable def H:Hd:=⟨[.agg [Si,Si,Si,Sw],Ss],[.agg [Si,Si,Si,Si,Si],Si],(.seq .d (.seq .d (.seq .d (.cut [1,4,7] [] .d .d)))),⟨[(174,F174.c)],gl,false⟩,[],f123⟩
def x2(h:LB)(a b f:Int)(g:LX):Option R_:=H.e P_ [r,r,r,r] ⟨[(1,vs h),(4, .ptr 0 []),(7, .ptr 1 [])],[.box 27 (.agg [vi 0,vi 0,vi 0,vi 0,vi 0]), .box 27 (.agg [vi 1,vi a,vi b,vi f,vi (Bj (Ac g) a)])],[]⟩
theorem e2:x2=Aqq:=by kernel_rfl
noncomputable def F:=u5 Bbe
theorem rn x:H.u P_ x=F x:=Eq.trans (b:=u5 (Afw x2) x) (by kernel_rfl) (by unfold F;rw[Avv];simp only[e2]<;>rfl)
noncomputable def c:Con:=⟨H.p,H.r,F⟩
theorem ok:ConOk P_ gl 123 c:=co H func123 (.cons F174.ok .nil) rn
end F123
namespace F164
abbrev R_:=(UInt64×Int)
abbrev K_:=S→Option R_
noncomputable def H:Hd:=⟨[Sq,Sb],[Sq,Si],(.seq .d (.seq .d (.cut [4,5] [] (.keep [0,1,4,5,9,10,11,12] true) .d))),⟨[],gl,false⟩,[(197,(.seq .d (.cut [1] [] (.seq .d (.blk (.loop [0,1,9,10,11] [] .d))) .d))),(198,(.seq .d (.seq .d (.cut [1] [] (.seq .d (.blk (.loop [1,5] [] (.seq .d (.seq .d (.cut [1,5] [] (.blk (.seq .d (.seq .d (.cut [1,2,3,5] [] (.seq .d (.blk (.loop [1,2,3,5,11] [] .d))) .d)))) .d)))))) .d))))],f164⟩
def t27(a:LB)(b:UInt64)(f:LQ)(h:UInt64)(m:Int):S:=⟨[(0, .ptr 0 []),(1,vq h),(9,vb a),(10,vi (Ac a)),(11,vi m)],[.box 324 (.val (.vec 256 (.int .u64)) f)],[[(0,vq b),(1,vb a),(4,vq 0),(5,vi 0),(9, .ptr 0 []),(10,vq b),(11,vb a)]]⟩
def z27:Nat→S→Option R_:=H.i P_ [r,r,l,(call 3 197),r,l,r,d]
def t21(b:UInt64)(a:LB)(g:Int)(f:LQ)(k:UInt64)(n:Int):S:=⟨[(1, .ptr 0 []),(2,vi g),(3,vq k),(5,vi g),(11,vi n)],[.box 324 (.val (.vec 256 (.int .u64)) f)],[[(0,vq b),(1,vb a),(4,vq 0),(5,vi 0)]]⟩
def z21(kn16:K_):Nat→S→Option R_:=H.i P_ [r,r,l,(call 0 198),r,r,l,r,d,(lp kn16),r,r,l,d,r,r,l,r,d]
def t16(b:UInt64)(a:LB)(g:Int)(f:LQ):S:=⟨[(1, .ptr 0 []),(5,vi g)],[.box 324 (.val (.vec 256 (.int .u64)) f)],[[(0,vq b),(1,vb a),(4,vq 0),(5,vi 0)]]⟩
def z16:Nat→S→Option R_:=H.i P_ [r,r,l,(call 0 198),r,r,l,r,d]
def x30(h:UInt64):Option R_:=H.e P_ [r,r,r] ⟨[(4,vq h),(5,vi 0)],[],[]⟩
def x29(h b:UInt64)(a:LB)(f:LQ):Option R_:=H.e P_ [r,r,l,(call 3 197),r,r] ⟨[(1,vq h)],[.box 324 (.val (.vec 256 (.int .u64)) f)],[[(0,vq b),(1,vb a),(4,vq 0),(5,vi 0),(9, .ptr 0 []),(10,vq b),(11,vb a)]]⟩
def x27(a:LB)(b:UInt64)(f:LQ)(h:UInt64)(m:Int):Option R_:=H.e P_ [r,r,l,(call 3 197),r,l,r,d] (t27 a b f h m)
def x26(b:UInt64)(a:LB)(f:LQ):Option R_:=H.e P_ [r,r,l,(call 0 198),r,r,r] ⟨[(1, .ptr 0 [])],[.box 324 (.val (.vec 256 (.int .u64)) f)],[[(0,vq b),(1,vb a),(4,vq 0),(5,vi 0)]]⟩
def x24(kn16:K_)(b:UInt64)(a:LB)(g:Int)(o:LQ):Option R_:=H.e P_ [r,r,l,(call 0 198),r,r,l,r,d,(lp kn16),r,r,r] ⟨[(1, .ptr 0 []),(5,vi g)],[.box 324 (.val (.vec 256 (.int .u64)) o)],[[(0,vq b),(1,vb a),(4,vq 0),(5,vi 0)]]⟩
def x23(kn16:K_)(b:UInt64)(a:LB)(g:Int)(k:UInt64)(f:LQ):Option R_:=H.e P_ [r,r,l,(call 0 198),r,r,l,r,d,(lp kn16),r,r,l,d,r,r,r] ⟨[(1, .ptr 0 []),(2,vi g),(3,vq k),(5,vi g)],[.box 324 (.val (.vec 256 (.int .u64)) f)],[[(0,vq b),(1,vb a),(4,vq 0),(5,vi 0)]]⟩
def x21(kn16:K_)(b:UInt64)(a:LB)(g:Int)(f:LQ)(k:UInt64)(n:Int):Option R_:=H.e P_ [r,r,l,(call 0 198),r,r,l,r,d,(lp kn16),r,r,l,d,r,r,l,r,d] (t21 b a g f k n)
def x16(b:UInt64)(a:LB)(g:Int)(f:LQ):Option R_:=H.e P_ [r,r,l,(call 0 198),r,r,l,r,d] (t16 b a g f)
theorem e30:x30=Ai8:=by kernel_rfl
theorem e29:x29=Ag5:=Eq.trans (b:=Ajk x30) (by kernel_rfl) (by simp only[e30]<;>rfl)
theorem i27(a:LB)(b:UInt64)(f:LQ):∀(q:Nat) (h:UInt64) (m:Int),z27 q (t27 a b f h m)=Na a b f q h m:=
 ind (fun _ _=>by kernel_rfl) fun q ih h m=>Eq.trans (b:=Yk x29 (fun h m=>(z27 q) (t27 a b f h m)) a b f h m) (by kernel_rfl) (by simp only[e29,ih]<;>rfl)
theorem e27:x27=Ajd:=by funext a b f h m;exact Eq.trans (by kernel_rfl) ((i27 a b f Cn h m).trans (by rw[Ar];rfl))
theorem e26:x26=Aal:=Eq.trans (b:=Ai1 x27) (by kernel_rfl) (by simp only[e27]<;>rfl)
theorem e24(kn16:K_)(b:UInt64)(a:LB):x24 kn16 b a=Ai0 (fun g f=>kn16 (t16 b a g f)) b a:=by kernel_rfl
theorem e23(kn16:K_)(b:UInt64)(a:LB):x23 kn16 b a=Yo (fun g f=>kn16 (t16 b a g f)) b a:=Eq.trans (b:=Ahp (x24 kn16 b a) b a) (by kernel_rfl) (by simp only[e24]<;>rfl)
theorem i21(kn16:K_)(b:UInt64)(a:LB)(g:Int)(f:LQ):∀(q:Nat) (k:UInt64) (n:Int),z21 kn16 q (t21 b a g f k n)=Mu (fun g f=>kn16 (t16 b a g f)) b a g f q k n:=
 ind (fun _ _=>by kernel_rfl) fun q ih k n=>Eq.trans (b:=Aar (x23 kn16 b a) (fun k n=>(z21 kn16 q) (t21 b a g f k n)) b a g f k n) (by kernel_rfl) (by simp only[e23,ih]<;>rfl)
theorem e21(kn16:K_)(b:UInt64)(a:LB):x21 kn16 b a=Ahx (fun g f=>kn16 (t16 b a g f)) b a:=by funext g f k n;exact Eq.trans (by kernel_rfl) ((i21 kn16 b a g f Cn k n).trans (by rw[Ar];rfl))
theorem i16(b:UInt64)(a:LB):∀(q:Nat) (g:Int) (f:LQ),z16 q (t16 b a g f)=Kf b a q g f:=
 ind (fun _ _=>by kernel_rfl) fun q ih g f=>Eq.trans (b:=Ym (x21 (z16 q) b a) x26 b a g f) (by kernel_rfl) (by simp only[e21,e26,ih]<;>rfl)
theorem e16:x16=Aig:=by funext b a g f;exact Eq.trans (by kernel_rfl) ((i16 b a Cn g f).trans (by rw[Ar];rfl))
noncomputable def F:=u2 Ao1
theorem rn x:H.u P_ x=F x:=Eq.trans (b:=u2 (Alb x16) x) (by kernel_rfl) (by simp only[e16]<;>rfl)
noncomputable def c:Con:=⟨H.p,H.r,F⟩
theorem ok:ConOk P_ gl 164 c:=cr H func164 .nil (AnsOk.cons ent197 (AnsOk.cons ent198 AnsOk.nil)) rn
end F164
namespace F112
noncomputable def H:Hd:=⟨[Sb],[Sq,Si], .d,⟨[(164,F164.c)],gl,false⟩,[],f112⟩
noncomputable def F:=Amn
theorem rn x:H.u P_ x=F x:=by kernel_rfl
noncomputable def c:Con:=⟨H.p,H.r,F⟩
theorem ok:ConOk P_ gl 112 c:=co H func112 (.cons F164.ok .nil) rn
end F112
namespace F113
abbrev R_:=LX
noncomputable def H:Hd:=⟨[Sq],[.lf (.vec 16 (.int .i32)) none],(.seq .d (.seq .d (.cut [2,3] [] (.seq .d (.blk (.loop [0,2,3,5] [] .d))) .d))),⟨[],gl,false⟩,[],f113⟩
def t4(f:UInt64)(b:Int)(a:LX):S:=⟨[(0,vq f),(2, .ptr 0 []),(3, .ptr 1 []),(5,vi b)],[.box 110 (.val (.vec 16 (.int .i32)) (List.replicate 16 (0:Int32))), .box 110 (.val (.vec 16 (.int .i32)) a)],[]⟩
def z4:Nat→S→Option R_:=H.i P_ [r,r,l,r,d]
def x6(a:LX):Option R_:=H.e P_ [r,r,r] ⟨[(2, .ptr 0 []),(3, .ptr 1 [])],[.box 110 (.val (.vec 16 (.int .i32)) (List.replicate 16 (0:Int32))), .box 110 (.val (.vec 16 (.int .i32)) a)],[]⟩
def x4(f:UInt64)(b:Int)(a:LX):Option R_:=H.e P_ [r,r,l,r,d] (t4 f b a)
theorem e6:x6=Bb7:=by kernel_rfl
theorem i4(f:UInt64):∀(q:Nat) (b:Int) (a:LX),z4 q (t4 f b a)=Ac3 f q b a:=
 ind (fun _ _=>by kernel_rfl) fun q ih b a=>Eq.trans (b:=Anz x6 (fun b a=>(z4 q) (t4 f b a)) f b a) (by kernel_rfl) (by simp only[e6,ih]<;>rfl)
theorem e4:x4=Be6:=by funext f b a;exact Eq.trans (by kernel_rfl) ((i4 f Cn b a).trans (by rw[Ar];rfl))
noncomputable def F:=Biu
theorem rn x:H.u P_ x=F x:=Eq.trans (b:=Bdn x4 x) (by kernel_rfl) (by simp only[e4]<;>rfl)
noncomputable def c:Con:=⟨H.p,H.r,F⟩
theorem ok:ConOk P_ gl 113 c:=co H func113 .nil rn
end F113
namespace F65
noncomputable def H:Hd:=⟨[Ss],[.lf (.vec 16 (.int .i32)) none,Si], .d,⟨[(112,F112.c),(113,F113.c)],gl,false⟩,[],f65⟩
noncomputable def F:=Xc
theorem rn x:H.u P_ x=F x:=by kernel_rfl
noncomputable def c:Con:=⟨H.p,H.r,F⟩
theorem ok:ConOk P_ gl 65 c:=co H func65 (.cons F112.ok (.cons F113.ok .nil)) rn
end F65
namespace F235
noncomputable def H:Hd:=⟨[Sq,Sq],[Sq,Sq], .d,⟨[],gl,false⟩,[],f235⟩
noncomputable def F:=u2 Afp
theorem rn x:H.u P_ x=F x:=by kernel_rfl
noncomputable def c:Con:=⟨H.p,H.r,F⟩
theorem ok:ConOk P_ gl 235 c:=co H func235 .nil rn
end F235
namespace F195
noncomputable def H:Hd:=⟨[Sq,Sq],[Sq,Sq], .d,⟨[(235,F235.c)],gl,false⟩,[],f195⟩
noncomputable def F:=u2 Ac9
theorem rn x:H.u P_ x=F x:=by kernel_rfl
noncomputable def c:Con:=⟨H.p,H.r,F⟩
theorem ok:ConOk P_ gl 195 c:=co H func195 (.cons F235.ok .nil) rn
end F195
namespace F158
def Kz(j10:LI→Option (LI))(bk8:Int→LI→Option (LI))(b:Int)(a:LI):Option (LI):=
if(Bv b (Ac a))then
both (
(vwI (Ac a) b (Ac a)).bind fun _=>
(vwI (Ac a) 0 b).bind fun _=>
bk8 (Ae b (Ahh ((Ac a)-b) (Ala a 0 (b-(0:Int))).length)) (Pr a b ((Ac a)-b) (Ala a 0 (b-(0:Int))))) [
(vwI (Ac a) 0 b).bind fun _=>
(vwI (Ac a) b (Ac a)).bind fun _=>
bk8 (Ae b (Ahh ((Ac a)-b) (Ala a 0 (b-(0:Int))).length)) (Pr a b ((Ac a)-b) (Ala a 0 (b-(0:Int))))]
else
j10 a
theorem Afr: @Kz= @Fm:=by
  unfold Kz Fm
  repeat (refine funext fun _=>?_)
  repeat' first
    |with_reducible rfl
    |with_reducible refine Tg ?_ ?_
    |with_reducible refine Ru ?_ ?_ ?_
    |with_reducible refine Sr ?_ ?_ ?_ ?_
    |((with_reducible refine Abg ?_ ?_);focus (intro h;first|(subst h;rfl)|(simp only[h];rfl)|(simp[Ed,Ac,h];done)))
    |with_reducible refine Aav fun x=>?_
    |with_reducible refine Aji (fun _=>?_) (fun _=>?_)
    |(refine Ki (fun h=>by simp only[h,Aa1,Gy,Ge,ite_self]) (fun x h=>?_);(try simp only[h,Gy]))
    |(refine Mz (fun h=>?_) (fun h=>?_)<;>simp only[h,if_true,if_false,Bool.false_eq_true])
abbrev R_:=LI
noncomputable def H:Hd:=⟨[Sl,Si],[Ol 3],(.seq .d (.cut [0,1] [] .d (.seq .d (.cut [0,6] [] .d (.seq .d (.seq .d (.cut [7] [] (.blk (.loop [7,8] [] (.seq .d (.blk (.mode false))))) .d))))))),⟨[(195,F195.c)],gl,true⟩,[],f158⟩
def t8(b:Int)(a:LI):S:=⟨[(7, .own 0),(8,vi b)],[Ai 3 a],[]⟩
def z8:Nat→S→Option R_:=H.i P_ [r,r,r,r,r,r,l,d]
def x10(a:LI):Option R_:=H.e P_ [r,r,r,r,r,r,r] ⟨[(7, .own 0)],[Ai 3 a],[]⟩
def x8(b:Int)(a:LI):Option R_:=H.e P_ [r,r,r,r,r,r,l,d] (t8 b a)
def x7(f:LI)(g:UInt64):Option R_:=H.e P_ [r,r,r,r] ⟨[(0,vl f),(6,vq g)],[],[]⟩
def x6(f:LI)(h:Int):Option R_:=H.e P_ [r,r] ⟨[(0,vl f),(1,vi h)],[],[]⟩
theorem e10:x10=Gx:=by kernel_rfl
theorem i8:∀(q:Nat) (b:Int) (a:LI),z8 q (t8 b a)=Dj q b a:=
 ind (fun _ _=>by kernel_rfl) fun q ih b a=>Eq.trans (b:=Kz x10 (fun b a=>(z8 q) (t8 b a)) b a) (by kernel_rfl) (by rw[Afr];simp only[e10,ih]<;>rfl)
theorem e8:x8=Mc:=by funext b a;exact Eq.trans (by kernel_rfl) ((i8 Cn b a).trans (by rw[Ar];rfl))
theorem e7:x7=Ls:=Eq.trans (b:=Lz x8) (by kernel_rfl) (by simp only[e8]<;>rfl)
theorem e6:x6=Lt:=Eq.trans (b:=Mb x7) (by kernel_rfl) (by simp only[e7]<;>rfl)
noncomputable def F:=u2 Km
theorem rn x:H.u P_ x=F x:=Eq.trans (b:=u2 (Md x6) x) (by kernel_rfl) (by simp only[e6]<;>rfl)
noncomputable def c:Con:=⟨H.p,H.r,F⟩
theorem ok:ConOk P_ gl 158 c:=co H func158 (.cons F195.ok .nil) rn
end F158
namespace F196
abbrev R_:=LI
noncomputable def H:Hd:=⟨[.lf (.list (.list (.int .i64))) none],[Ol 3],(.seq .d (.seq .d (.cut [0,3] [] (.seq .d (.blk (.loop [0,3,9,10,11] [] .d))) (.cut [0,6] [⟨6,[], .own 3 (.int .i64)⟩] (.keep [0,3,6,23,24] true) (.cut [6] [] (.seq .d (.blk (.loop [6,25,26,27] [] .d))) .d))))),⟨[],gl,true⟩,[(236,(.seq .d (.cut [0,1] [] .d .d)))],f196⟩
def t14(a:List LI)(g:Int)(f:LI):S:=⟨[(6, .own 0),(25, .val (.list (.list (.int .i64))) a),(26,vi (Ac a)),(27,vi g)],[Ai 3 f],[]⟩
def z14:Nat→S→Option R_:=H.i P_ [r,r,r,r,l,r,d]
def t9(a:List LI)(b h:Int):S:=⟨[(0, .val (.list (.list (.int .i64))) a),(3,vi b),(9, .val (.list (.list (.int .i64))) a),(10,vi (Ac a)),(11,vi h)],[],[]⟩
def z9:Nat→S→Option R_:=H.i P_ [r,r,l,r,d]
def x16(f:LI):Option R_:=H.e P_ [r,r,r,r,r] ⟨[(6, .own 0)],[Ai 3 f],[]⟩
def x14(a:List LI)(g:Int)(f:LI):Option R_:=H.e P_ [r,r,r,r,l,r,d] (t14 a g f)
def x13(a:List LI)(k:LI):Option R_:=H.e P_ [r,r,r,r] ⟨[(0, .val (.list (.list (.int .i64))) a),(6, .own 0)],[Ai 3 k],[]⟩
def x12(b:Int)(a:List LI):Option R_:=H.e P_ [r,r,r,l,(call 1 236),r,r] ⟨[(0, .nils),(1,vi b)],[],[[(0, .val (.list (.list (.int .i64))) a),(3,vi b),(23,vi b)]]⟩
def x11(a:List LI)(b:Int):Option R_:=H.e P_ [r,r,r] ⟨[(0, .val (.list (.list (.int .i64))) a),(3,vi b)],[],[]⟩
def x9(a:List LI)(b h:Int):Option R_:=H.e P_ [r,r,l,r,d] (t9 a b h)
theorem e16:x16=Tv:=by kernel_rfl
theorem i14(a:List LI):∀(q:Nat) (g:Int) (f:LI),z14 q (t14 a g f)=Da a q g f:=
 ind (fun _ _=>by kernel_rfl) fun q ih g f=>Eq.trans (b:=Ex x16 (fun g f=>(z14 q) (t14 a g f)) a g f) (by kernel_rfl) (by simp only[e16,ih]<;>rfl)
theorem e14:x14=Lc:=by funext a g f;exact Eq.trans (by kernel_rfl) ((i14 a Cn g f).trans (by rw[Ar];rfl))
theorem e13:x13=Ha:=Eq.trans (b:=Kw x14) (by kernel_rfl) (by simp only[e14]<;>rfl)
theorem e12:x12=Lb:=Eq.trans (b:=Kv x13) (by kernel_rfl) (by simp only[e13]<;>rfl)
theorem e11:x11=La:=Eq.trans (b:=Le x12) (by kernel_rfl) (by simp only[e12]<;>rfl)
theorem i9(a:List LI):∀(q:Nat) (b h:Int),z9 q (t9 a b h)=Dl a q b h:=
 ind (fun _ _=>by kernel_rfl) fun q ih b h=>Eq.trans (b:=Fl x11 (fun b h=>(z9 q) (t9 a b h)) a b h) (by kernel_rfl) (by simp only[e11,ih]<;>rfl)
theorem e9:x9=Lr:=by funext a b h;exact Eq.trans (by kernel_rfl) ((i9 a Cn b h).trans (by rw[Ar];rfl))
noncomputable def F:=Kt
theorem rn x:H.u P_ x=F x:=Eq.trans (b:=Mg x9 x) (by kernel_rfl) (by simp only[e9]<;>rfl)
noncomputable def c:Con:=⟨H.p,H.r,F⟩
theorem ok:ConOk P_ gl 196 c:=cr H func196 .nil (AnsOk.cons ent236 AnsOk.nil) rn
end F196
namespace F159
noncomputable def H:Hd:=⟨[Sl,Sl],[Ol 3], .d,⟨[(196,F196.c)],gl,false⟩,[],f159⟩
noncomputable def F:=u2 Aiz
theorem rn x:H.u P_ x=F x:=by kernel_rfl
noncomputable def c:Con:=⟨H.p,H.r,F⟩
theorem ok:ConOk P_ gl 159 c:=co H func159 (.cons F196.ok .nil) rn
end F159
namespace F107
noncomputable def H:Hd:=⟨[Si,Si],[Ol 3,Si], .d,⟨[(69,F69.c),(70,F70.c),(158,F158.c),(159,F159.c)],gl,false⟩,[],f107⟩
noncomputable def F:=u2 Rv
theorem rn x:H.u P_ x=F x:=by kernel_rfl
noncomputable def c:Con:=⟨H.p,H.r,F⟩
theorem ok:ConOk P_ gl 107 c:=co H func107 (.cons F69.ok (.cons F70.ok (.cons F158.ok (.cons F159.ok .nil)))) rn
end F107
namespace F245
noncomputable def H:Hd:=⟨[.agg [Si,Si],Sw],[Si], .d,⟨[(67,F67.c),(114,F114.c)],gl,false⟩,[],f245⟩
noncomputable def F:=u3 Auk
theorem rn x:H.u P_ x=F x:=by kernel_rfl
noncomputable def c:Con:=⟨H.p,H.r,F⟩
theorem ok:ConOk P_ gl 245 c:=co H func245 (.cons F67.ok (.cons F114.ok .nil)) rn
end F245
namespace F207
noncomputable def H:Hd:=⟨[Si,Sw],[Si], .d,⟨[],gl,false⟩,[],f207⟩
noncomputable def F:=u2 Ami
theorem rn x:H.u P_ x=F x:=by kernel_rfl
noncomputable def c:Con:=⟨H.p,H.r,F⟩
theorem ok:ConOk P_ gl 207 c:=co H func207 .nil rn
end F207
namespace F190
def Ip(a:LX):Option (LX):=
Bif a (
some ([]:LX)) (
(Ed ([]:LX) a).bind fun b=>
some b)
theorem Abi: @Ip= @Di:=by
  unfold Ip Di
  repeat (refine funext fun _=>?_)
  repeat' first
    |with_reducible rfl
    |with_reducible refine Tg ?_ ?_
    |with_reducible refine Ru ?_ ?_ ?_
    |with_reducible refine Sr ?_ ?_ ?_ ?_
    |((with_reducible refine Abg ?_ ?_);focus (intro h;first|(subst h;rfl)|(simp only[h];rfl)|(simp[Ed,Ac,h];done)))
    |with_reducible refine Aav fun x=>?_
    |with_reducible refine Aji (fun _=>?_) (fun _=>?_)
    |(refine Ki (fun h=>by simp only[h,Aa1,Gy,Ge,ite_self]) (fun x h=>?_);(try simp only[h,Gy]))
    |(refine Mz (fun h=>?_) (fun h=>?_)<;>simp only[h,if_true,if_false,Bool.false_eq_true])
noncomputable def H:Hd:=⟨[Sw],[Ow 21], .d,⟨[],gl,false⟩,[],f190⟩
noncomputable def F:=Di
theorem rn x:H.u P_ x=F x:=Eq.trans (b:=Ip x) (by kernel_rfl) (by rw[Abi];rfl)
noncomputable def c:Con:=⟨H.p,H.r,F⟩
theorem ok:ConOk P_ gl 190 c:=co H func190 .nil rn
end F190
namespace F246
abbrev R_:=(LX×Int)
abbrev K_:=S→Option R_
noncomputable def H:Hd:=⟨[Si,Sw],[Ow 21,Si],(.seq .d (.seq .d (.seq .d (.cut [7] [] (.seq .d (.blk (.loop [0,7,8] [] (.seq .d (.cut [0,7,8] [] (.blk (.keep [0,7,8,24,25,26,27,28,29] true)) .d))))) .d)))),⟨[(190,F190.c),(207,F207.c)],gl,true⟩,[(274,(.seq .d (.cut [0,2] [] (.seq .d (.blk (.loop [0,2,7,8] [] .d))) .d)))],f246⟩
def t17(b a h:Int)(g:LX):S:=⟨[(0, .view true 0 [] (.int .i32) a ((Ae a b)-a)),(2,vi (Ah ((Ae a b)-a) (1:Int))),(7,vi (Ah ((Ae a b)-a) (1:Int))),(8,vi h)],[Aw 21 g],[[(0,vi b),(7, .own 0),(8,vi a),(24, .own 0),(25,vi a),(26,vi a),(27,vi b),(28,vi (Ae a b)),(29, .view true 0 [] (.int .i32) a ((Ae a b)-a))]]⟩
def z17(kn12:K_):Nat→S→Option R_:=H.i P_ [r,r,r,l,r,d,(lp kn12),r,l,d,(call 6 274),r,l,r,d]
def t12(b a:Int)(f:LX):S:=⟨[(0,vi b),(7, .own 0),(8,vi a)],[Aw 21 f],[]⟩
def z12:Nat→S→Option R_:=H.i P_ [r,r,r,l,r,d]
def x22(f:LX):Option R_:=H.e P_ [r,r,r,r] ⟨[(7, .own 0)],[Aw 21 f],[]⟩
def x20(kn12:K_)(b a:Int)(k:LX):Option R_:=H.e P_ [r,r,r,l,r,d,(lp kn12),r,r] ⟨[(0,vi b),(7, .own 0),(8,vi a)],[Aw 21 k],[]⟩
def x19(kn12:K_)(b a:Int)(g:LX):Option R_:=H.e P_ [r,r,r,l,r,d,(lp kn12),r,l,d,(call 6 274),r,r] ⟨[(0, .view true 0 [] (.int .i32) a ((Ae a b)-a)),(2,vi (Ah ((Ae a b)-a) (1:Int)))],[Aw 21 g],[[(0,vi b),(7, .own 0),(8,vi a),(24, .own 0),(25,vi a),(26,vi a),(27,vi b),(28,vi (Ae a b)),(29, .view true 0 [] (.int .i32) a ((Ae a b)-a))]]⟩
def x17(kn12:K_)(b a h:Int)(g:LX):Option R_:=H.e P_ [r,r,r,l,r,d,(lp kn12),r,l,d,(call 6 274),r,l,r,d] (t17 b a h g)
def x12(b a:Int)(f:LX):Option R_:=H.e P_ [r,r,r,l,r,d] (t12 b a f)
theorem e22:x22=Ba6:=by kernel_rfl
theorem e20(kn12:K_)(b:Int):x20 kn12 b=Bad (fun a f=>kn12 (t12 b a f)) b:=by kernel_rfl
theorem e19(kn12:K_)(b:Int):x19 kn12 b=Bba (fun a f=>kn12 (t12 b a f)) b:=Eq.trans (b:=Ban (x20 kn12 b) b) (by kernel_rfl) (by simp only[e20]<;>rfl)
theorem i17(kn12:K_)(b a:Int):∀(q:Nat) (h:Int) (g:LX),z17 kn12 q (t17 b a h g)=Aqy (fun a f=>kn12 (t12 b a f)) b a q h g:=
 ind (fun _ _=>by kernel_rfl) fun q ih h g=>Eq.trans (b:=Ba7 (x19 kn12 b) (fun h g=>(z17 kn12 q) (t17 b a h g)) b a h g) (by kernel_rfl) (by simp only[e19,ih]<;>rfl)
theorem e17(kn12:K_)(b:Int):x17 kn12 b=Bae (fun a f=>kn12 (t12 b a f)) b:=by funext a h g;exact Eq.trans (by kernel_rfl) ((i17 kn12 b a Cn h g).trans (by rw[Ar];rfl))
theorem i12(b:Int):∀(q:Nat) (a:Int) (f:LX),z12 q (t12 b a f)=As8 b q a f:=
 ind (fun _ _=>by kernel_rfl) fun q ih a f=>Eq.trans (b:=Ba0 (x17 (z12 q) b) x22 b a f) (by kernel_rfl) (by simp only[e17,e22,ih]<;>rfl)
theorem e12:x12=Bas:=by funext b a f;exact Eq.trans (by kernel_rfl) ((i12 b Cn a f).trans (by rw[Ar];rfl))
noncomputable def F:=u2 Bqs
theorem rn x:H.u P_ x=F x:=Eq.trans (b:=u2 (Bfq x12) x) (by kernel_rfl) (by simp only[e12]<;>rfl)
noncomputable def c:Con:=⟨H.p,H.r,F⟩
theorem ok:ConOk P_ gl 246 c:=cr H func246 (.cons F190.ok (.cons F207.ok .nil)) (AnsOk.cons ent274 AnsOk.nil) rn
end F246
namespace F203
abbrev R_:=(Int×LX×LX×Int)
noncomputable def H:Hd:=⟨[Si, .lf (.vec 16 (.int .i32)) none],[.agg [Si, .lf (.vec 16 (.int .i32)) none, .lf (.vec 16 (.int .i32)) none],Si],(.seq .d (.seq .d (.seq (.seq .d (.blk (.cut [4,6,9,11] [] .d .d))) .d))),⟨[],gl,false⟩,[],f203⟩
def x2(a:Int)(b:LX)(f:Bool):Option R_:=H.e P_ [r,r,l,r,d,r] ⟨[(4, .ptr 0 []),(6, .ptr 1 []),(9,vi a),(11,vt f)],[.box 234 (.agg [vi 0, .val (.vec 16 (.int .i32)) (List.replicate 16 (0:Int32)), .val (.vec 16 (.int .i32)) (List.replicate 16 (0:Int32))]), .box 234 (.agg [vi 10, .val (.vec 16 (.int .i32)) b, .val (.vec 16 (.int .i32)) (List.replicate 16 (0:Int32))])],[]⟩
theorem e2:x2=Bac:=by kernel_rfl
noncomputable def F:=u2 Axs
theorem rn x:H.u P_ x=F x:=Eq.trans (b:=u2 (Azw x2) x) (by kernel_rfl) (by simp only[e2]<;>rfl)
noncomputable def c:Con:=⟨H.p,H.r,F⟩
theorem ok:ConOk P_ gl 203 c:=co H func203 .nil rn
end F203
namespace F170
noncomputable def H:Hd:=⟨[Si, .lf (.vec 16 (.int .i32)) none],[.agg [Si,Sx, .agg [Si, .lf (.vec 16 (.int .i32)) none, .lf (.vec 16 (.int .i32)) none]],Si], .d,⟨[(203,F203.c)],gl,false⟩,[],f170⟩
noncomputable def F:=u2 Azu
theorem rn x:H.u P_ x=F x:=by kernel_rfl
noncomputable def c:Con:=⟨H.p,H.r,F⟩
theorem ok:ConOk P_ gl 170 c:=co H func170 (.cons F203.ok .nil) rn
end F170
namespace F204
noncomputable def H:Hd:=⟨[.agg [Si,Sx, .agg [Si, .lf (.vec 16 (.int .i32)) none, .lf (.vec 16 (.int .i32)) none]]],[Si], .d,⟨[(203,F203.c)],gl,false⟩,[],f204⟩
noncomputable def F:=u5 Sk
theorem rn x:H.u P_ x=F x:=by kernel_rfl
noncomputable def c:Con:=⟨H.p,H.r,F⟩
theorem ok:ConOk P_ gl 204 c:=co H func204 (.cons F203.ok .nil) rn
end F204
namespace F241
noncomputable def H:Hd:=⟨[Si],[Si,Si], .d,⟨[],gl,false⟩,[],f241⟩
noncomputable def F:=Arv
theorem rn x:H.u P_ x=F x:=by kernel_rfl
noncomputable def c:Con:=⟨H.p,H.r,F⟩
theorem ok:ConOk P_ gl 241 c:=co H func241 .nil rn
end F241
namespace F242
noncomputable def H:Hd:=⟨[Si,Sx],[Sx], .d,⟨[],gl,false⟩,[],f242⟩
noncomputable def F:=u2 Ajs
theorem rn x:H.u P_ x=F x:=by kernel_rfl
noncomputable def c:Con:=⟨H.p,H.r,F⟩
theorem ok:ConOk P_ gl 242 c:=co H func242 .nil rn
end F242
namespace F205
noncomputable def H:Hd:=⟨[Si,Sx],[Sx,Si], .d,⟨[(241,F241.c),(242,F242.c)],gl,false⟩,[],f205⟩
noncomputable def F:=u2 Rl
theorem rn x:H.u P_ x=F x:=by kernel_rfl
noncomputable def c:Con:=⟨H.p,H.r,F⟩
theorem ok:ConOk P_ gl 205 c:=co H func205 (.cons F241.ok (.cons F242.ok .nil)) rn
end F205
namespace F271
noncomputable def H:Hd:=⟨[.agg [Si, .lf (.vec 16 (.int .i32)) none, .lf (.vec 16 (.int .i32)) none]],[Si], .d,⟨[],gl,false⟩,[],f271⟩
noncomputable def F:=u3 Acv
theorem rn x:H.u P_ x=F x:=by kernel_rfl
noncomputable def c:Con:=⟨H.p,H.r,F⟩
theorem ok:ConOk P_ gl 271 c:=co H func271 .nil rn
end F271
namespace F243
abbrev R_:=(Int32×Int)
noncomputable def H:Hd:=⟨[.agg [Si, .lf (.vec 16 (.int .i32)) none, .lf (.vec 16 (.int .i32)) none]],[Sx,Si],(.seq .d (.seq .d (.seq .d (.cut [1,5] [] (.seq .d (.blk (.loop [1,5,18,19] [] .d))) .d)))),⟨[(271,F271.c)],gl,false⟩,[],f243⟩
def t4(b:LX)(a:Int)(f:LX)(g:Int32)(h:Int):S:=⟨[(1, .ptr 0 []),(5,vx g),(18, .val (.vec 16 (.int .i32)) b),(19,vi h)],[.box 234 (.agg [vi a, .val (.vec 16 (.int .i32)) b, .val (.vec 16 (.int .i32)) f])],[]⟩
def z4:Nat→S→Option R_:=H.i P_ [r,r,r,l,r,d]
def x6(g:Int32)(a:Int)(b f:LX):Option R_:=H.e P_ [r,r,r,r] ⟨[(1, .ptr 0 []),(5,vx g)],[.box 234 (.agg [vi a, .val (.vec 16 (.int .i32)) b, .val (.vec 16 (.int .i32)) f])],[]⟩
def x4(b:LX)(a:Int)(f:LX)(g:Int32)(h:Int):Option R_:=H.e P_ [r,r,r,l,r,d] (t4 b a f g h)
theorem e6:x6=Alj:=by kernel_rfl
theorem i4(b:LX)(a:Int)(f:LX):∀(q:Nat) (g:Int32) (h:Int),z4 q (t4 b a f g h)=Pa b a f q g h:=
 ind (fun _ _=>by kernel_rfl) fun q ih g h=>Eq.trans (b:=Adm x6 (fun g h=>(z4 q) (t4 b a f g h)) b a f g h) (by kernel_rfl) (by simp only[e6,ih]<;>rfl)
theorem e4:x4=Ak4:=by funext b a f g h;exact Eq.trans (by kernel_rfl) ((i4 b a f Cn g h).trans (by rw[Ar];rfl))
noncomputable def F:=u3 Ah6
theorem rn x:H.u P_ x=F x:=Eq.trans (b:=u3 (Alp x4) x) (by kernel_rfl) (by simp only[e4]<;>rfl)
noncomputable def c:Con:=⟨H.p,H.r,F⟩
theorem ok:ConOk P_ gl 243 c:=co H func243 (.cons F271.ok .nil) rn
end F243
namespace F295
noncomputable def H:Hd:=⟨[Si],[Sx], .d,⟨[],gl,false⟩,[],f295⟩
noncomputable def F:=Amt
theorem rn x:H.u P_ x=F x:=by kernel_rfl
noncomputable def c:Con:=⟨H.p,H.r,F⟩
theorem ok:ConOk P_ gl 295 c:=co H func295 .nil rn
end F295
namespace F272
abbrev R_:=(Int×LX×LX×Int)
noncomputable def H:Hd:=⟨[.agg [Si, .lf (.vec 16 (.int .i32)) none, .lf (.vec 16 (.int .i32)) none],Sx],[.agg [Si, .lf (.vec 16 (.int .i32)) none, .lf (.vec 16 (.int .i32)) none],Si],(.seq .d (.seq .d (.seq .d (.cut [2,4] [] (.seq .d (.blk (.loop [1,2,4,19,20] [] .d))) .d)))),⟨[(271,F271.c),(295,F295.c)],gl,false⟩,[],f272⟩
def t4(h:Int32)(f:LX)(g a:Int)(b:LX):S:=⟨[(1,vx h),(2, .ptr 0 []),(4, .ptr 1 []),(19, .val (.vec 16 (.int .i32)) f),(20,vi a)],[.box 234 (.agg [vi g, .val (.vec 16 (.int .i32)) b, .val (.vec 16 (.int .i32)) f]), .box 234 (.agg [vi 0, .val (.vec 16 (.int .i32)) (List.replicate 16 (0:Int32)), .val (.vec 16 (.int .i32)) (List.replicate 16 (0:Int32))])],[]⟩
def z4:Nat→S→Option R_:=H.i P_ [r,r,r,l,r,d]
def x6(g:Int)(b f:LX):Option R_:=H.e P_ [r,r,r,r] ⟨[(2, .ptr 0 []),(4, .ptr 1 [])],[.box 234 (.agg [vi g, .val (.vec 16 (.int .i32)) b, .val (.vec 16 (.int .i32)) f]), .box 234 (.agg [vi 0, .val (.vec 16 (.int .i32)) (List.replicate 16 (0:Int32)), .val (.vec 16 (.int .i32)) (List.replicate 16 (0:Int32))])],[]⟩
def x4(h:Int32)(f:LX)(g a:Int)(b:LX):Option R_:=H.e P_ [r,r,r,l,r,d] (t4 h f g a b)
theorem e6:x6=Auz:=by kernel_rfl
theorem i4(h:Int32)(f:LX)(g:Int):∀(q:Nat) (a:Int) (b:LX),z4 q (t4 h f g a b)=Pd h f g q a b:=
 ind (fun _ _=>by kernel_rfl) fun q ih a b=>Eq.trans (b:=Ada x6 (fun a b=>(z4 q) (t4 h f g a b)) h f g a b) (by kernel_rfl) (by simp only[e6,ih]<;>rfl)
theorem e4:x4=Auu:=by funext h f g a b;exact Eq.trans (by kernel_rfl) ((i4 h f g Cn a b).trans (by rw[Ar];rfl))
noncomputable def F:=u4 Anw
theorem rn x:H.u P_ x=F x:=Eq.trans (b:=u4 (Alg x4) x) (by kernel_rfl) (by simp only[e4]<;>rfl)
noncomputable def c:Con:=⟨H.p,H.r,F⟩
theorem ok:ConOk P_ gl 272 c:=co H func272 (.cons F271.ok (.cons F295.ok .nil)) rn
end F272
namespace F273
def Akw(j2:Int32→Int→LX→LX→Option (Int×LX×LX×Int))(b:Int)(f a:LX)(g:Int32):Option (Int×LX×LX×Int):=
(Acv b f a).bind fun h=>
if(Bb h 0)then
some (0,(List.replicate 16 (0:Int32)),(List.replicate 16 (0:Int32)),h)
else
both (
(vwI 16 1 16).bind fun _=>
(vwI 16 0 16).bind fun _=>
j2 g b f a) [
(vwI 16 0 16).bind fun _=>
(vwI 16 1 16).bind fun _=>
j2 g b f a]
theorem Azp: @Akw= @Agj:=by
  unfold Akw Agj
  repeat (refine funext fun _=>?_)
  repeat' first
    |with_reducible rfl
    |with_reducible refine Tg ?_ ?_
    |with_reducible refine Ru ?_ ?_ ?_
    |with_reducible refine Sr ?_ ?_ ?_ ?_
    |((with_reducible refine Abg ?_ ?_);focus (intro h;first|(subst h;rfl)|(simp only[h];rfl)|(simp[Ed,Ac,h];done)))
    |with_reducible refine Aav fun x=>?_
    |with_reducible refine Aji (fun _=>?_) (fun _=>?_)
    |(refine Ki (fun h=>by simp only[h,Aa1,Gy,Ge,ite_self]) (fun x h=>?_);(try simp only[h,Gy]))
    |(refine Mz (fun h=>?_) (fun h=>?_)<;>simp only[h,if_true,if_false,Bool.false_eq_true])
abbrev R_:=(Int×LX×LX×Int)
noncomputable def H:Hd:=⟨[.agg [Si, .lf (.vec 16 (.int .i32)) none, .lf (.vec 16 (.int .i32)) none],Sx],[.agg [Si, .lf (.vec 16 (.int .i32)) none, .lf (.vec 16 (.int .i32)) none],Si],(.seq .d (.seq .d (.cut [1,2,4] [] .d .d))),⟨[(271,F271.c)],gl,false⟩,[],f273⟩
def x2(g:Int32)(b:Int)(f a:LX):Option R_:=H.e P_ [r,r,r] ⟨[(1,vx g),(2, .ptr 0 []),(4, .ptr 1 [])],[.box 234 (.agg [vi b, .val (.vec 16 (.int .i32)) f, .val (.vec 16 (.int .i32)) (Pr a (1:Int) ((16:Int)-(1:Int)) (Ala a (0:Int) ((16:Int)-(0:Int))))]), .box 234 (.agg [vi 0, .val (.vec 16 (.int .i32)) (List.replicate 16 (0:Int32)), .val (.vec 16 (.int .i32)) (List.replicate 16 (0:Int32))])],[]⟩
theorem e2:x2=An2:=by kernel_rfl
noncomputable def F:=u4 Atl
theorem rn x:H.u P_ x=F x:=Eq.trans (b:=u4 (Akw x2) x) (by kernel_rfl) (by unfold F;rw[Azp];simp only[e2]<;>rfl)
noncomputable def c:Con:=⟨H.p,H.r,F⟩
theorem ok:ConOk P_ gl 273 c:=co H func273 (.cons F271.ok .nil) rn
end F273
namespace F244
noncomputable def H:Hd:=⟨[.agg [Si, .lf (.vec 16 (.int .i32)) none, .lf (.vec 16 (.int .i32)) none],Sx,Sx],[.agg [Si, .lf (.vec 16 (.int .i32)) none, .lf (.vec 16 (.int .i32)) none]], .d,⟨[(272,F272.c),(273,F273.c)],gl,false⟩,[],f244⟩
noncomputable def F:=u5 Aos
theorem rn x:H.u P_ x=F x:=by kernel_rfl
noncomputable def c:Con:=⟨H.p,H.r,F⟩
theorem ok:ConOk P_ gl 244 c:=co H func244 (.cons F272.ok (.cons F273.ok .nil)) rn
end F244
namespace F275
noncomputable def H:Hd:=⟨[.agg [Si, .lf (.vec 16 (.int .i32)) none, .lf (.vec 16 (.int .i32)) none],Sx],[Sx, .agg [Si, .lf (.vec 16 (.int .i32)) none, .lf (.vec 16 (.int .i32)) none],Si], .d,⟨[(243,F243.c),(244,F244.c)],gl,false⟩,[],f275⟩
noncomputable def F:=u4 Arn
theorem rn x:H.u P_ x=F x:=by kernel_rfl
noncomputable def c:Con:=⟨H.p,H.r,F⟩
theorem ok:ConOk P_ gl 275 c:=co H func275 (.cons F243.ok (.cons F244.ok .nil)) rn
end F275
namespace F247
def Yu(a:Int)(b:Int32)(f:Int)(g h:LX)(k:Int32):Option (Int32×Int×Int32×Int×LX×LX×Int):=
(Sk a b f g h).bind fun m=>
if(Bb m 0)then
some (0,0,0,0,(List.replicate 16 (0:Int32)),(List.replicate 16 (0:Int32)),m)
else
(Rl a b).bind fun(n,y)=>
(Arn f g h (Ah k n)).bind fun(o,p,u,v,w)=>
bo (
some (o,a,k,p,u,v,w))
theorem Ar8: @Yu= @Adk:=by
  unfold Yu Adk
  simp only[Az9,Ars,Aro]
noncomputable def H:Hd:=⟨[.agg [Si,Sx, .agg [Si, .lf (.vec 16 (.int .i32)) none, .lf (.vec 16 (.int .i32)) none]],Sx],[Sx, .agg [Si,Sx, .agg [Si, .lf (.vec 16 (.int .i32)) none, .lf (.vec 16 (.int .i32)) none]],Si],(.seq .d (.seq .d (.seq .d (.seq .d (.seq (.mode false) .d))))),⟨[(204,F204.c),(205,F205.c),(275,F275.c)],gl,false⟩,[],f247⟩
noncomputable def F:=u6 Adk
theorem rn x:H.u P_ x=F x:=Eq.trans (b:=u6 Yu x) (by kernel_rfl) (by rw[Ar8];rfl)
noncomputable def c:Con:=⟨H.p,H.r,F⟩
theorem ok:ConOk P_ gl 247 c:=co H func247 (.cons F204.ok (.cons F205.ok (.cons F275.ok .nil))) rn
end F247
namespace F248
noncomputable def H:Hd:=⟨[Sx],[Su], .d,⟨[],gl,false⟩,[],f248⟩
noncomputable def F:=Bhd
theorem rn x:H.u P_ x=F x:=by kernel_rfl
noncomputable def c:Con:=⟨H.p,H.r,F⟩
theorem ok:ConOk P_ gl 248 c:=co H func248 .nil rn
end F248
namespace F211
abbrev R_:=(LU×Int)
noncomputable def H:Hd:=⟨[.agg [Si,Si], .lf (.vec 16 (.int .i32)) none,Sw],[Ov 154,Si],(.seq .d (.seq .d (.seq .d (.seq .d (.seq .d (.cut [3,9,11] [] (.seq .d (.blk (.loop [3,4,9,11,36] [] .d))) (.seq .d (.cut [13] [] (.seq .d (.blk (.loop [3,11,13,49,50,51] [⟨13,[], .own 154 (.int .u32)⟩] .d))) .d)))))))),⟨[(170,F170.c),(245,F245.c),(246,F246.c),(247,F247.c),(248,F248.c)],gl,false⟩,[],f211⟩
def t10(b:LX)(a f g:Int)(o:List (Int×Int32×(Int×LX×LX×Unit)×Unit))(k:LU):S:=⟨[(3, .ptr 0 []),(11, .ptr 1 []),(13, .own 2),(49, .own 3),(50,vi (Ac b)),(51,vi g)],[.box 60 (.agg [vi a,vi f]), .box 237 (.val (.vec 6 (.cons (.int .i64) (.cons (.int .i32) (.cons (.cons (.int .i64) (.cons (.vec 16 (.int .i32)) (.cons (.vec 16 (.int .i32)) .nil))) .nil)))) o),Av 154 k,Aw 21 b],[]⟩
def z10:Nat→S→Option R_:=H.i P_ [r,r,r,r,r,r,r,l,r,d]
def t7(a f:Int)(m b:LX)(n:Int)(h:List (Int×Int32×(Int×LX×LX×Unit)×Unit)):S:=⟨[(3, .ptr 0 []),(4, .ptr 1 []),(9, .own 2),(11, .ptr 3 []),(36,vi n)],[.box 60 (.agg [vi a,vi f]), .box 110 (.val (.vec 16 (.int .i32)) m),Aw 21 b, .box 237 (.val (.vec 6 (.cons (.int .i64) (.cons (.int .i32) (.cons (.cons (.int .i64) (.cons (.vec 16 (.int .i32)) (.cons (.vec 16 (.int .i32)) .nil))) .nil)))) h)],[]⟩
def z7:Nat→S→Option R_:=H.i P_ [r,r,r,r,r,l,r,d]
def x12(k:LU):Option R_:=H.e P_ [r,r,r,r,r,r,r,r] ⟨[(13, .own 0)],[Av 154 k],[]⟩
def x10(b:LX)(a f g:Int)(o:List (Int×Int32×(Int×LX×LX×Unit)×Unit))(k:LU):Option R_:=H.e P_ [r,r,r,r,r,r,r,l,r,d] (t10 b a f g o k)
def x9(a f:Int)(b:LX)(h:List (Int×Int32×(Int×LX×LX×Unit)×Unit)):Option R_:=H.e P_ [r,r,r,r,r,r] ⟨[(3, .ptr 0 []),(9, .own 1),(11, .ptr 2 [])],[.box 60 (.agg [vi a,vi f]),Aw 21 b, .box 237 (.val (.vec 6 (.cons (.int .i64) (.cons (.int .i32) (.cons (.cons (.int .i64) (.cons (.vec 16 (.int .i32)) (.cons (.vec 16 (.int .i32)) .nil))) .nil)))) h)],[]⟩
def x7(a f:Int)(m b:LX)(n:Int)(h:List (Int×Int32×(Int×LX×LX×Unit)×Unit)):Option R_:=H.e P_ [r,r,r,r,r,l,r,d] (t7 a f m b n h)
theorem e12:x12=Aix:=by kernel_rfl
theorem i10(b:LX)(a f:Int):∀(q:Nat) (g:Int) (o:List (Int×Int32×(Int×LX×LX×Unit)×Unit)) (k:LU),z10 q (t10 b a f g o k)=Wa b a f q g o k:=
 ind (fun _ _ _=>by kernel_rfl) fun q ih g o k=>Eq.trans (b:=Aip x12 (fun g o k=>(z10 q) (t10 b a f g o k)) b a f g o k) (by kernel_rfl) (by simp only[e12,ih]<;>rfl)
theorem e10:x10=Aiv:=by funext b a f g o k;exact Eq.trans (by kernel_rfl) ((i10 b a f Cn g o k).trans (by rw[Ar];rfl))
theorem e9:x9=Akg:=Eq.trans (b:=Akb x10) (by kernel_rfl) (by simp only[e10]<;>rfl)
theorem i7(a f:Int)(m b:LX):∀(q:Nat) (n:Int) (h:List (Int×Int32×(Int×LX×LX×Unit)×Unit)),z7 q (t7 a f m b n h)=Aa0 a f m b q n h:=
 ind (fun _ _=>by kernel_rfl) fun q ih n h=>Eq.trans (b:=Aj3 x9 (fun n h=>(z7 q) (t7 a f m b n h)) a f m b n h) (by kernel_rfl) (by simp only[e9,ih]<;>rfl)
theorem e7:x7=Akf:=by funext a f m b n h;exact Eq.trans (by kernel_rfl) ((i7 a f m b Cn n h).trans (by rw[Ar];rfl))
noncomputable def F:=u4 Aql
theorem rn x:H.u P_ x=F x:=Eq.trans (b:=u4 (Ake x7) x) (by kernel_rfl) (by simp only[e7]<;>rfl)
noncomputable def c:Con:=⟨H.p,H.r,F⟩
theorem ok:ConOk P_ gl 211 c:=co H func211 (.cons F170.ok (.cons F245.ok (.cons F246.ok (.cons F247.ok (.cons F248.ok .nil))))) rn
end F211
namespace F165
noncomputable def H:Hd:=⟨[],[.agg [Si,Si,Sq,Sq]], .d,⟨[],gl,false⟩,[],f165⟩
noncomputable def F(x:Unit):=Avi
theorem rn x:H.u P_ x=F x:=by kernel_rfl
noncomputable def c:Con:=⟨H.p,H.r,F⟩
theorem ok:ConOk P_ gl 165 c:=co H func165 .nil rn
end F165
namespace F212
abbrev R_:=((List (Int×Int×UInt64×UInt64×Unit)))
noncomputable def H:Hd:=⟨[],[.lf (.vec 6 (.cons (.int .i64) (.cons (.int .i64) (.cons (.int .u64) (.cons (.int .u64) .nil))))) none],(.seq .d (.seq .d (.cut [0,1] [] (.seq .d (.blk (.loop [0,1,3] [] .d))) .d))),⟨[(165,F165.c)],gl,false⟩,[],f212⟩
def t4(b:Int)(a:List (Int×Int×UInt64×UInt64×Unit)):S:=⟨[(0, .ptr 0 []),(1, .ptr 1 []),(3,vi b)],[.box 226 (.val (.vec 6 (.cons (.int .i64) (.cons (.int .i64) (.cons (.int .u64) (.cons (.int .u64) .nil))))) (List.replicate 6 ((0:Int),(0:Int),(0:UInt64),(0:UInt64),()))), .box 226 (.val (.vec 6 (.cons (.int .i64) (.cons (.int .i64) (.cons (.int .u64) (.cons (.int .u64) .nil))))) a)],[]⟩
def z4:Nat→S→Option R_:=H.i P_ [r,r,l,r,d]
def x6(a:List (Int×Int×UInt64×UInt64×Unit)):Option R_:=H.e P_ [r,r,r] ⟨[(0, .ptr 0 []),(1, .ptr 1 [])],[.box 226 (.val (.vec 6 (.cons (.int .i64) (.cons (.int .i64) (.cons (.int .u64) (.cons (.int .u64) .nil))))) (List.replicate 6 ((0:Int),(0:Int),(0:UInt64),(0:UInt64),()))), .box 226 (.val (.vec 6 (.cons (.int .i64) (.cons (.int .i64) (.cons (.int .u64) (.cons (.int .u64) .nil))))) a)],[]⟩
def x4(b:Int)(a:List (Int×Int×UInt64×UInt64×Unit)):Option R_:=H.e P_ [r,r,l,r,d] (t4 b a)
theorem e6:x6=Ajt:=by kernel_rfl
theorem i4:∀(q:Nat) (b:Int) (a:List (Int×Int×UInt64×UInt64×Unit)),z4 q (t4 b a)=Yy q b a:=
 ind (fun _ _=>by kernel_rfl) fun q ih b a=>Eq.trans (b:=Akh x6 (fun b a=>(z4 q) (t4 b a)) b a) (by kernel_rfl) (by simp only[e6,ih]<;>rfl)
theorem e4:x4=Akp:=by funext b a;exact Eq.trans (by kernel_rfl) ((i4 Cn b a).trans (by rw[Ar];rfl))
noncomputable def F(x:Unit):=Aqu
theorem rn x:H.u P_ x=F x:=Eq.trans (b:=Ajx x4) (by kernel_rfl) (by simp only[e4]<;>rfl)
noncomputable def c:Con:=⟨H.p,H.r,F⟩
theorem ok:ConOk P_ gl 212 c:=co H func212 (.cons F165.ok .nil) rn
end F212
namespace F168
noncomputable def H:Hd:=⟨[.agg [Sb,Si]],[Si], .d,⟨[],gl,false⟩,[],f168⟩
noncomputable def F:=u2 Ht
theorem rn x:H.u P_ x=F x:=by kernel_rfl
noncomputable def c:Con:=⟨H.p,H.r,F⟩
theorem ok:ConOk P_ gl 168 c:=co H func168 .nil rn
end F168
namespace F200
def Ai7(j4:Int→Int→UInt64→UInt64→Option Int)(a b:Int)(f g:UInt64):Option Int:=
both (
bo (
j4 a b f g)) [
j4 a b f g]
theorem Awn: @Ai7= @Adp:=by
  unfold Ai7 Adp
  repeat (refine funext fun _=>?_)
  repeat' first
    |with_reducible rfl
    |with_reducible refine Tg ?_ ?_
    |with_reducible refine Ru ?_ ?_ ?_
    |with_reducible refine Sr ?_ ?_ ?_ ?_
    |((with_reducible refine Abg ?_ ?_);focus (intro h;first|(subst h;rfl)|(simp only[h];rfl)|(simp[Ed,Ac,h];done)))
    |with_reducible refine Aav fun x=>?_
    |with_reducible refine Aji (fun _=>?_) (fun _=>?_)
    |(refine Ki (fun h=>by simp only[h,Aa1,Gy,Ge,ite_self]) (fun x h=>?_);(try simp only[h,Gy]))
    |(refine Mz (fun h=>?_) (fun h=>?_)<;>simp only[h,if_true,if_false,Bool.false_eq_true])
def Ah4(j3:Int→Int→UInt64→UInt64→Option Int)(a b:Int)(f g:UInt64):Option Int:=
both (
bo (
j3 a b f g)) [
j3 a b f g]
theorem Awt: @Ah4= @Ade:=by
  unfold Ah4 Ade
  repeat (refine funext fun _=>?_)
  repeat' first
    |with_reducible rfl
    |with_reducible refine Tg ?_ ?_
    |with_reducible refine Ru ?_ ?_ ?_
    |with_reducible refine Sr ?_ ?_ ?_ ?_
    |((with_reducible refine Abg ?_ ?_);focus (intro h;first|(subst h;rfl)|(simp only[h];rfl)|(simp[Ed,Ac,h];done)))
    |with_reducible refine Aav fun x=>?_
    |with_reducible refine Aji (fun _=>?_) (fun _=>?_)
    |(refine Ki (fun h=>by simp only[h,Aa1,Gy,Ge,ite_self]) (fun x h=>?_);(try simp only[h,Gy]))
    |(refine Mz (fun h=>?_) (fun h=>?_)<;>simp only[h,if_true,if_false,Bool.false_eq_true])
abbrev R_:=Int
noncomputable def H:Hd:=⟨[.agg [Si,Si,Sq,Sq]],[Si],(.seq .d (.seq .d (.cut [1,3] [] (.mode false) (.cut [1,3] [] (.mode false) .d)))),⟨[],gl,false⟩,[],f200⟩
def x4(a b:Int)(f g:UInt64):Option R_:=H.e P_ [r,r,r,r] ⟨[(1, .ptr 0 []),(3, .ptr 1 [])],[.box 225 (.agg [vi a,vi b,vq f,vq g]), .box 225 (.agg [vi (Dk (Atz a (0:Int)) (24:Int)),vi (Dk (Atz b (0:Int)) (24:Int)),vq (Dk f (68719476735:UInt64)),vq (Dk g (68719476735:UInt64))])],[]⟩
def x3(a b:Int)(f g:UInt64):Option R_:=H.e P_ [r,r,r] ⟨[(1, .ptr 0 []),(3, .ptr 1 [])],[.box 225 (.agg [vi a,vi b,vq f,vq g]), .box 225 (.agg [vi (Dk (Atz a (0:Int)) (24:Int)),vi (Dk (Atz b (0:Int)) (24:Int)),vq f,vq g])],[]⟩
theorem e4:x4=Alo:=by kernel_rfl
theorem e3:x3=Ak9:=Eq.trans (b:=Ai7 x4) (by kernel_rfl) (by rw[Awn];simp only[e4]<;>rfl)
noncomputable def F:=u4 Ah0
theorem rn x:H.u P_ x=F x:=Eq.trans (b:=u4 (Ah4 x3) x) (by kernel_rfl) (by unfold F;rw[Awt];simp only[e3]<;>rfl)
noncomputable def c:Con:=⟨H.p,H.r,F⟩
theorem ok:ConOk P_ gl 200 c:=co H func200 .nil rn
end F200
namespace F240
noncomputable def H:Hd:=⟨[.agg [Si,Si,Sq,Sq],Su],[Si,Su], .d,⟨[],gl,false⟩,[],f240⟩
noncomputable def F:=u5 Acx
theorem rn x:H.u P_ x=F x:=by kernel_rfl
noncomputable def c:Con:=⟨H.p,H.r,F⟩
theorem ok:ConOk P_ gl 240 c:=co H func240 .nil rn
end F240
namespace F150
def Kj(a:LB):Option (LB):=
Bif a (
some ([]:LB)) (
(Ed ([]:LB) a).bind fun b=>
some b)
theorem Aeg: @Kj= @Eu:=by
  unfold Kj Eu
  repeat (refine funext fun _=>?_)
  repeat' first
    |with_reducible rfl
    |with_reducible refine Tg ?_ ?_
    |with_reducible refine Ru ?_ ?_ ?_
    |with_reducible refine Sr ?_ ?_ ?_ ?_
    |((with_reducible refine Abg ?_ ?_);focus (intro h;first|(subst h;rfl)|(simp only[h];rfl)|(simp[Ed,Ac,h];done)))
    |with_reducible refine Aav fun x=>?_
    |with_reducible refine Aji (fun _=>?_) (fun _=>?_)
    |(refine Ki (fun h=>by simp only[h,Aa1,Gy,Ge,ite_self]) (fun x h=>?_);(try simp only[h,Gy]))
    |(refine Mz (fun h=>?_) (fun h=>?_)<;>simp only[h,if_true,if_false,Bool.false_eq_true])
noncomputable def H:Hd:=⟨[Sb],[Ob 5], .d,⟨[],gl,false⟩,[],f150⟩
noncomputable def F:=Eu
theorem rn x:H.u P_ x=F x:=Eq.trans (b:=Kj x) (by kernel_rfl) (by rw[Aeg];rfl)
noncomputable def c:Con:=⟨H.p,H.r,F⟩
theorem ok:ConOk P_ gl 150 c:=co H func150 .nil rn
end F150
namespace F276
noncomputable def H:Hd:=⟨[.agg [Sb,Si]],[.agg [Ob 5,Si]], .d,⟨[(150,F150.c)],gl,false⟩,[],f276⟩
noncomputable def F:=u2 Ays
theorem rn x:H.u P_ x=F x:=by kernel_rfl
noncomputable def c:Con:=⟨H.p,H.r,F⟩
theorem ok:ConOk P_ gl 276 c:=co H func276 (.cons F150.ok .nil) rn
end F276
namespace F249
abbrev R_:=(LB×Int×Int)
abbrev K_:=S→Option R_
noncomputable def H:Hd:=⟨[.agg [Sb,Si],Sq,Si],[.agg [Ob 5,Si],Si],(.seq .d (.seq .d (.seq .d (.cut [3,6] [] (.keep [1,2,3,6,40,41] true) .d)))),⟨[(168,F168.c),(276,F276.c)],gl,false⟩,[(199,(.blk (.loop [0,1,2] [] (.seq .d (.blk (.cut [0,1,2] [] .d (.seq .d (.cut [0,1,2,7] [] .d .d))))))))],f249⟩
def t15(b:UInt64)(a:Int)(m:UInt64)(h f:Int)(o:LB):S:=⟨[(0, .ptr 0 []),(1,vq m),(2,vi h)],[.box 170 (.agg [.own 2,vi f]), .box 170 (.agg [.nils,vi 0]),Ab 5 o],[[(1,vq b),(2,vi a),(3, .ptr 0 []),(6, .ptr 1 []),(40,vq b),(41,vi a)]]⟩
def z15:Nat→S→Option R_:=H.i P_ [r,r,r,l,(call 2 199),d]
def t22(b:UInt64)(a:Int)(n:UInt64)(k g:Int)(p:LB):S:=⟨[(0, .ptr 0 []),(1,vq n),(2,vi k)],[.box 170 (.agg [.own 2,vi g]), .box 170 (.agg [.nils,vi 0]),Ab 5 p],[[(1,vq b),(2,vi a),(3, .ptr 0 []),(6, .ptr 1 []),(40,vq b),(41,vi a)]]⟩
def z22:Nat→S→Option R_:=H.i P_ [r,r,r,l,(call 2 199),d]
def x21(f:Int)(o:LB):Option R_:=H.e P_ [r,r,r,r] ⟨[(3, .ptr 0 []),(6, .ptr 1 [])],[.box 170 (.agg [.own 2,vi f]), .box 170 (.agg [.nils,vi 0]),Ab 5 o],[]⟩
def x19(kn15:K_)(b:UInt64)(a:Int)(m:UInt64)(h f:Int)(w:LB):Option R_:=H.e P_ [r,r,r,l,(call 2 199),d,(lp kn15),r,d,r,r,r] ⟨[(0, .ptr 0 []),(1,vq m),(2,vi h),(7,vi (Dk h (Ah (8:Int) (Dd f (7:Int)))))],[.box 170 (.agg [.own 2,vi f]), .box 170 (.agg [.nils,vi 0]),Ab 5 w],[[(1,vq b),(2,vi a),(3, .ptr 0 []),(6, .ptr 1 []),(40,vq b),(41,vi a)]]⟩
def x18(kn15:K_)(b:UInt64)(a:Int)(m:UInt64)(h f:Int)(u:LB):Option R_:=H.e P_ [r,r,r,l,(call 2 199),d,(lp kn15),r,d,r] ⟨[(0, .ptr 0 []),(1,vq m),(2,vi h)],[.box 170 (.agg [.own 2,vi f]), .box 170 (.agg [.nils,vi 0]),Ab 5 u],[[(1,vq b),(2,vi a),(3, .ptr 0 []),(6, .ptr 1 []),(40,vq b),(41,vi a)]]⟩
def x15(b:UInt64)(a:Int)(m:UInt64)(h f:Int)(o:LB):Option R_:=H.e P_ [r,r,r,l,(call 2 199),d] (t15 b a m h f o)
def x28(g:Int)(p:LB):Option R_:=H.e P_ [r,r,r,r] ⟨[(3, .ptr 0 []),(6, .ptr 1 [])],[.box 170 (.agg [.own 2,vi g]), .box 170 (.agg [.nils,vi 0]),Ab 5 p],[]⟩
def x26(kn22:K_)(b:UInt64)(a:Int)(n:UInt64)(k g:Int)(y:LB):Option R_:=H.e P_ [r,r,r,l,(call 2 199),d,(lp kn22),r,d,r,r,r] ⟨[(0, .ptr 0 []),(1,vq n),(2,vi k),(7,vi (Dk k (Ah (8:Int) (Dd g (7:Int)))))],[.box 170 (.agg [.own 2,vi g]), .box 170 (.agg [.nils,vi 0]),Ab 5 y],[[(1,vq b),(2,vi a),(3, .ptr 0 []),(6, .ptr 1 []),(40,vq b),(41,vi a)]]⟩
def x25(kn22:K_)(b:UInt64)(a:Int)(n:UInt64)(k g:Int)(v:LB):Option R_:=H.e P_ [r,r,r,l,(call 2 199),d,(lp kn22),r,d,r] ⟨[(0, .ptr 0 []),(1,vq n),(2,vi k)],[.box 170 (.agg [.own 2,vi g]), .box 170 (.agg [.nils,vi 0]),Ab 5 v],[[(1,vq b),(2,vi a),(3, .ptr 0 []),(6, .ptr 1 []),(40,vq b),(41,vi a)]]⟩
def x22(b:UInt64)(a:Int)(n:UInt64)(k g:Int)(p:LB):Option R_:=H.e P_ [r,r,r,l,(call 2 199),d] (t22 b a n k g p)
theorem e21:x21=Awq:=by kernel_rfl
theorem e19(kn15:K_)(b:UInt64)(a:Int):x19 kn15 b a=Aye (fun m h f o=>kn15 (t15 b a m h f o)) b a:=by kernel_rfl
theorem e18(kn15:K_)(b:UInt64)(a:Int):x18 kn15 b a=Awp (fun m h f o=>kn15 (t15 b a m h f o)) b a:=Eq.trans (b:=Aw5 (x19 kn15 b a) b a) (by kernel_rfl) (by simp only[e19]<;>rfl)
theorem i15(b:UInt64)(a:Int):∀(q:Nat) (m:UInt64) (h f:Int) (o:LB),z15 q (t15 b a m h f o)=Am9 b a q m h f o:=
 ind (fun _ _ _ _=>by kernel_rfl) fun q ih m h f o=>Eq.trans (b:=Awi (x18 (z15 q) b a) x21 b a m h f o) (by kernel_rfl) (by simp only[e18,e21,ih]<;>rfl)
theorem e15:x15=Aw3:=by funext b a m h f o;exact Eq.trans (by kernel_rfl) ((i15 b a Cn m h f o).trans (by rw[Ar];rfl))
theorem e28:x28=Axw:=by kernel_rfl
theorem e26(kn22:K_)(b:UInt64)(a:Int):x26 kn22 b a=Axt (fun n k g p=>kn22 (t22 b a n k g p)) b a:=by kernel_rfl
theorem e25(kn22:K_)(b:UInt64)(a:Int):x25 kn22 b a=Axp (fun n k g p=>kn22 (t22 b a n k g p)) b a:=Eq.trans (b:=Awz (x26 kn22 b a) b a) (by kernel_rfl) (by simp only[e26]<;>rfl)
theorem i22(b:UInt64)(a:Int):∀(q:Nat) (n:UInt64) (k g:Int) (p:LB),z22 q (t22 b a n k g p)=Aoh b a q n k g p:=
 ind (fun _ _ _ _=>by kernel_rfl) fun q ih n k g p=>Eq.trans (b:=Ayg (x25 (z22 q) b a) x28 b a n k g p) (by kernel_rfl) (by simp only[e25,e28,ih]<;>rfl)
theorem e22:x22=Axc:=by funext b a n k g p;exact Eq.trans (by kernel_rfl) ((i22 b a Cn n k g p).trans (by rw[Ar];rfl))
noncomputable def F:=u4 Ary
theorem rn x:H.u P_ x=F x:=Eq.trans (b:=u4 (Bay x15 x22) x) (by kernel_rfl) (by simp only[e15,e22]<;>rfl)
noncomputable def c:Con:=⟨H.p,H.r,F⟩
theorem ok:ConOk P_ gl 249 c:=cr H func249 (.cons F168.ok (.cons F276.ok .nil)) (AnsOk.cons ent199 AnsOk.nil) rn
end F249
namespace F238
noncomputable def H:Hd:=⟨[Su,Si],[Sz], .d,⟨[],gl,false⟩,[],f238⟩
noncomputable def F:=u2 Agw
theorem rn x:H.u P_ x=F x:=by kernel_rfl
noncomputable def c:Con:=⟨H.p,H.r,F⟩
theorem ok:ConOk P_ gl 238 c:=co H func238 .nil rn
end F238
namespace F296
noncomputable def H:Hd:=⟨[Si],[Si,Si], .d,⟨[],gl,false⟩,[],f296⟩
noncomputable def F:=Aws
theorem rn x:H.u P_ x=F x:=by kernel_rfl
noncomputable def c:Con:=⟨H.p,H.r,F⟩
theorem ok:ConOk P_ gl 296 c:=co H func296 .nil rn
end F296
namespace F277
noncomputable def H:Hd:=⟨[.agg [Sb,Si],Si],[.agg [Ob 5,Si],Si], .d,⟨[(168,F168.c),(249,F249.c),(296,F296.c)],gl,false⟩,[],f277⟩
noncomputable def F:=u3 Ba3
theorem rn x:H.u P_ x=F x:=by kernel_rfl
noncomputable def c:Con:=⟨H.p,H.r,F⟩
theorem ok:ConOk P_ gl 277 c:=co H func277 (.cons F168.ok (.cons F249.ok (.cons F296.ok .nil))) rn
end F277
namespace F250
abbrev R_:=(LB×Int×Int)
noncomputable def H:Hd:=⟨[.agg [Sb,Si],Su,Si],[.agg [Ob 5,Si],Si],(.seq .d (.seq .d (.seq .d (.seq .d (.cut [3,6,9,10,11] [] .d .d))))),⟨[(168,F168.c),(238,F238.c),(249,F249.c),(277,F277.c)],gl,false⟩,[],f250⟩
def x2(b:LB)(f h:Int)(k:UInt32)(m:Int):Option R_:=H.e P_ [r,r,r,r,r] ⟨[(3, .ptr 0 []),(6, .ptr 1 []),(9,vi h),(10,vu k),(11,vi m)],[.box 170 (.agg [vb b,vi f]), .box 170 (.agg [.nils,vi 0])],[]⟩
theorem e2:x2=Auv:=by kernel_rfl
noncomputable def F:=u4 Bdv
theorem rn x:H.u P_ x=F x:=Eq.trans (b:=u4 (At9 x2) x) (by kernel_rfl) (by simp only[e2]<;>rfl)
noncomputable def c:Con:=⟨H.p,H.r,F⟩
theorem ok:ConOk P_ gl 250 c:=co H func250 (.cons F168.ok (.cons F238.ok (.cons F249.ok (.cons F277.ok .nil)))) rn
end F250
namespace F213
def Afo(k u n:Int)(a:UInt64)(b:UInt32)(o:UInt64)(m:LB):Option (LB×Int×Int×Int×UInt64×UInt64×Int):=
(fun af:Option (LB×Int×Int×Int×UInt64×UInt64×Int)=>
both (
bo (
af)) [
af]) (
some (m,k,u,n,(Ae a (Ah (Ad b:UInt64) (Bk a (GI.toZ (4:UInt64)).toNat))),o,0))
theorem Avs: @Afo= @Aiq:=by
  unfold Afo Aiq
  try simp only[Az9,Ars,Aro]
  all_goals
    repeat (refine funext fun _=>?_)
    repeat' first
      |with_reducible rfl
      |with_reducible refine Tg ?_ ?_
      |with_reducible refine Ru ?_ ?_ ?_
      |with_reducible refine Sr ?_ ?_ ?_ ?_
      |((with_reducible refine Abg ?_ ?_);focus (intro h;first|(subst h;rfl)|(simp only[h];rfl)|(simp[Ed,Ac,h];done)))
      |with_reducible refine Aav fun x=>?_
      |with_reducible refine Aji (fun _=>?_) (fun _=>?_)
      |(refine Ki (fun h=>by simp only[h,Aa1,Gy,Ge,ite_self]) (fun x h=>?_);(try simp only[h,Gy]))
      |(refine Mz (fun h=>?_) (fun h=>?_)<;>simp only[h,if_true,if_false,Bool.false_eq_true])
abbrev R_:=(LB×Int×Int×Int×UInt64×UInt64×Int)
noncomputable def H:Hd:=⟨[.agg [Sb,Si], .agg [Si,Si,Sq,Sq],Su],[.agg [Ob 5,Si], .agg [Si,Si,Sq,Sq],Si],(.seq .d (.cut [2,3,4,6,7] [] .d (.seq .d (.seq .d (.cut [2,3,4,6,7,11] [] .d (.seq .d (.cut [3,4,6,7] [] (.keep [2,3,4,6,7,65] true) (.seq (.mode false) .d)))))))),⟨[(168,F168.c),(200,F200.c),(240,F240.c),(249,F249.c),(250,F250.c)],gl,false⟩,[(202,(.seq .d (.seq .d (.seq .d (.blk (.cut [0,1,4] [] (.blk (.seq .d (.keep [0,1,4,6,18,19,20,21,22,23,24,25] true))) (.cut [] [] (.keep [0,1,4,27,28,29,30,31,32,33,34] true) .d))))))),(239, .d)],f213⟩
def x10(k u n:Int)(a:UInt64)(b:UInt32)(o:UInt64)(m:LB):Option R_:=H.e P_ [r,r,r,r,r,r,r] ⟨[(3, .ptr 0 []),(4, .ptr 1 []),(6, .ptr 2 []),(7, .ptr 3 [])],[.box 170 (.agg [.own 4,vi k]), .box 225 (.agg [vi u,vi n,vq (Ae a (Ah (Ad b:UInt64) (Bk a (GI.toZ (4:UInt64)).toNat))),vq o]), .box 170 (.agg [.nils,vi 0]), .box 225 (.agg [vi 0,vi 0,vq 0,vq 0]),Ab 5 m],[]⟩
def x9(b:UInt32)(k n:Int)(a o:UInt64)(m:LB)(u:Int):Option R_:=H.e P_ [r,r,r,r,r,r,l,(call 1 202),r,r,r,d,r,r] ⟨[],[.box 170 (.agg [.own 4,vi k]), .box 225 (.agg [vi u,vi n,vq (Ae a (Ah (Ad b:UInt64) (Bk a (GI.toZ (4:UInt64)).toNat))),vq o]), .box 170 (.agg [.nils,vi 0]), .box 225 (.agg [vi 0,vi 0,vq 0,vq 0]),Ab 5 m],[[(2,vu b),(3, .ptr 0 []),(4, .ptr 1 []),(6, .ptr 2 []),(7, .ptr 3 []),(65,vu b)]]⟩
def x8(b:UInt32)(f:Int)(a:UInt64)(k:Int)(m:LB)(n:Int)(o:UInt64):Option R_:=H.e P_ [r,r,r,r,r,r,l,(call 1 202),r,r,r,d,r] ⟨[(0, .ptr 0 []),(1,vu b),(4, .fn 239 [])],[.box 225 (.agg [vi f,vi n,vq a,vq o]), .box 170 (.agg [.own 4,vi k]), .box 170 (.agg [.nils,vi 0]), .box 225 (.agg [vi 0,vi 0,vq 0,vq 0]),Ab 5 m],[[(2,vu b),(3, .ptr 1 []),(4, .ptr 0 []),(6, .ptr 2 []),(7, .ptr 3 []),(65,vu b)]]⟩
def x7(b:UInt32)(f h:Int)(a g:UInt64)(y k:Int)(m:LB):Option R_:=H.e P_ [r,r,r,r,r] ⟨[(2,vu b),(3, .ptr 0 []),(4, .ptr 1 []),(6, .ptr 2 []),(7, .ptr 3 []),(11,vi y)],[.box 170 (.agg [.own 4,vi k]), .box 225 (.agg [vi f,vi h,vq a,vq g]), .box 170 (.agg [.nils,vi 0]), .box 225 (.agg [vi 0,vi 0,vq 0,vq 0]),Ab 5 m],[]⟩
def x6(b:UInt32)(v:LB)(w f h:Int)(a g:UInt64):Option R_:=H.e P_ [r,r] ⟨[(2,vu b),(3, .ptr 0 []),(4, .ptr 1 []),(6, .ptr 2 []),(7, .ptr 3 [])],[.box 170 (.agg [vb v,vi w]), .box 225 (.agg [vi f,vi h,vq a,vq g]), .box 170 (.agg [.nils,vi 0]), .box 225 (.agg [vi 0,vi 0,vq 0,vq 0])],[]⟩
theorem e10:x10=Aqz:=Eq.trans (b:=Afo) (by kernel_rfl) (by rw[Avs];rfl)
theorem e9:x9=Aul:=Eq.trans (b:=Aup x10) (by kernel_rfl) (by simp only[e10]<;>rfl)
theorem e8:x8=Auq:=Eq.trans (b:=Auy x9) (by kernel_rfl) (by simp only[e9]<;>rfl)
theorem e7:x7=Auo:=Eq.trans (b:=Aus x8) (by kernel_rfl) (by simp only[e8]<;>rfl)
theorem e6:x6=Au4:=Eq.trans (b:=Auj x7) (by kernel_rfl) (by simp only[e7]<;>rfl)
noncomputable def F:=u7 Bb8
theorem rn x:H.u P_ x=F x:=Eq.trans (b:=u7 (Au5 x6) x) (by kernel_rfl) (by simp only[e6]<;>rfl)
noncomputable def c:Con:=⟨H.p,H.r,F⟩
theorem ok:ConOk P_ gl 213 c:=cr H func213 (.cons F168.ok (.cons F200.ok (.cons F240.ok (.cons F249.ok (.cons F250.ok .nil))))) (AnsOk.cons ent202 (AnsOk.cons ent239 AnsOk.nil)) rn
end F213
namespace F155
abbrev R_:=(UInt32×Int)
abbrev K_:=S→Option R_
noncomputable def H:Hd:=⟨[Su,Sb],[Su,Si],(.seq .d (.seq .d (.cut [0,1,6] [] (.keep [0,1,6,12] true) (.cut [0] [] (.seq .d (.blk (.loop [0,6,13,14,15] [] .d))) .d)))),⟨[],gl,false⟩,[(193,(.seq .d (.seq .d (.cut [1] [] (.seq .d (.blk (.loop [1,5] [] (.seq .d (.seq .d (.cut [1,5] [] (.blk (.seq .d (.seq .d (.cut [1,2,3,5] [] (.seq .d (.blk (.loop [1,2,3,5,10] [] .d))) .d)))) .d)))))) .d))))],f155⟩
def t28(a:LB)(b:LU)(h:UInt32)(m:Int):S:=⟨[(0,vu h),(6, .ptr 0 []),(13,vb a),(14,vi (Ac a)),(15,vi m)],[.box 318 (.val (.vec 256 (.int .u32)) b)],[]⟩
def z28:Nat→S→Option R_:=H.i P_ [r,r,r,l,r,d]
def t21(f:UInt32)(a:LB)(g:Int)(b:LU)(k:UInt32)(n:Int):S:=⟨[(1, .ptr 0 []),(2,vi g),(3,vu k),(5,vi g),(10,vi n)],[.box 318 (.val (.vec 256 (.int .u32)) b)],[[(0,vu f),(1,vb a)]]⟩
def z21(kn16:K_):Nat→S→Option R_:=H.i P_ [r,r,l,(call 0 193),r,r,l,r,d,(lp kn16),r,r,l,d,r,r,l,r,d]
def t16(f:UInt32)(a:LB)(g:Int)(b:LU):S:=⟨[(1, .ptr 0 []),(5,vi g)],[.box 318 (.val (.vec 256 (.int .u32)) b)],[[(0,vu f),(1,vb a)]]⟩
def z16:Nat→S→Option R_:=H.i P_ [r,r,l,(call 0 193),r,r,l,r,d]
def x30(h:UInt32):Option R_:=H.e P_ [r,r,r,r] ⟨[(0,vu h)],[],[]⟩
def x28(a:LB)(b:LU)(h:UInt32)(m:Int):Option R_:=H.e P_ [r,r,r,l,r,d] (t28 a b h m)
def x27(f:UInt32)(a:LB)(b:LU):Option R_:=H.e P_ [r,r,r] ⟨[(0,vu f),(1,vb a),(6, .ptr 0 [])],[.box 318 (.val (.vec 256 (.int .u32)) b)],[]⟩
def x26(f:UInt32)(a:LB)(b:LU):Option R_:=H.e P_ [r,r,l,(call 0 193),r,r,r] ⟨[(1, .ptr 0 [])],[.box 318 (.val (.vec 256 (.int .u32)) b)],[[(0,vu f),(1,vb a)]]⟩
def x24(kn16:K_)(f:UInt32)(a:LB)(g:Int)(o:LU):Option R_:=H.e P_ [r,r,l,(call 0 193),r,r,l,r,d,(lp kn16),r,r,r] ⟨[(1, .ptr 0 []),(5,vi g)],[.box 318 (.val (.vec 256 (.int .u32)) o)],[[(0,vu f),(1,vb a)]]⟩
def x23(kn16:K_)(f:UInt32)(a:LB)(g:Int)(k:UInt32)(b:LU):Option R_:=H.e P_ [r,r,l,(call 0 193),r,r,l,r,d,(lp kn16),r,r,l,d,r,r,r] ⟨[(1, .ptr 0 []),(2,vi g),(3,vu k),(5,vi g)],[.box 318 (.val (.vec 256 (.int .u32)) b)],[[(0,vu f),(1,vb a)]]⟩
def x21(kn16:K_)(f:UInt32)(a:LB)(g:Int)(b:LU)(k:UInt32)(n:Int):Option R_:=H.e P_ [r,r,l,(call 0 193),r,r,l,r,d,(lp kn16),r,r,l,d,r,r,l,r,d] (t21 f a g b k n)
def x16(f:UInt32)(a:LB)(g:Int)(b:LU):Option R_:=H.e P_ [r,r,l,(call 0 193),r,r,l,r,d] (t16 f a g b)
theorem e30:x30=Ah3:=by kernel_rfl
theorem i28(a:LB)(b:LU):∀(q:Nat) (h:UInt32) (m:Int),z28 q (t28 a b h m)=Mv a b q h m:=
 ind (fun _ _=>by kernel_rfl) fun q ih h m=>Eq.trans (b:=Zk x30 (fun h m=>(z28 q) (t28 a b h m)) a b h m) (by kernel_rfl) (by simp only[e30,ih]<;>rfl)
theorem e28:x28=Ah8:=by funext a b h m;exact Eq.trans (by kernel_rfl) ((i28 a b Cn h m).trans (by rw[Ar];rfl))
theorem e27:x27=Ag8:=Eq.trans (b:=Ahv x28) (by kernel_rfl) (by simp only[e28]<;>rfl)
theorem e26:x26=Zn:=Eq.trans (b:=Ahr x27) (by kernel_rfl) (by simp only[e27]<;>rfl)
theorem e24(kn16:K_)(f:UInt32)(a:LB):x24 kn16 f a=Ahj (fun g b=>kn16 (t16 f a g b)) f a:=by kernel_rfl
theorem e23(kn16:K_)(f:UInt32)(a:LB):x23 kn16 f a=Aaw (fun g b=>kn16 (t16 f a g b)) f a:=Eq.trans (b:=Ajg (x24 kn16 f a) f a) (by kernel_rfl) (by simp only[e24]<;>rfl)
theorem i21(kn16:K_)(f:UInt32)(a:LB)(g:Int)(b:LU):∀(q:Nat) (k:UInt32) (n:Int),z21 kn16 q (t21 f a g b k n)=Nd (fun g b=>kn16 (t16 f a g b)) f a g b q k n:=
 ind (fun _ _=>by kernel_rfl) fun q ih k n=>Eq.trans (b:=Yh (x23 kn16 f a) (fun k n=>(z21 kn16 q) (t21 f a g b k n)) f a g b k n) (by kernel_rfl) (by simp only[e23,ih]<;>rfl)
theorem e21(kn16:K_)(f:UInt32)(a:LB):x21 kn16 f a=Ail (fun g b=>kn16 (t16 f a g b)) f a:=by funext g b k n;exact Eq.trans (by kernel_rfl) ((i21 kn16 f a g b Cn k n).trans (by rw[Ar];rfl))
theorem i16(f:UInt32)(a:LB):∀(q:Nat) (g:Int) (b:LU),z16 q (t16 f a g b)=Jt f a q g b:=
 ind (fun _ _=>by kernel_rfl) fun q ih g b=>Eq.trans (b:=Aap (x21 (z16 q) f a) x26 f a g b) (by kernel_rfl) (by simp only[e21,e26,ih]<;>rfl)
theorem e16:x16=Ajo:=by funext f a g b;exact Eq.trans (by kernel_rfl) ((i16 f a Cn g b).trans (by rw[Ar];rfl))
noncomputable def F:=u2 An5
theorem rn x:H.u P_ x=F x:=Eq.trans (b:=u2 (Alq x16) x) (by kernel_rfl) (by simp only[e16]<;>rfl)
noncomputable def c:Con:=⟨H.p,H.r,F⟩
theorem ok:ConOk P_ gl 155 c:=cr H func155 .nil (AnsOk.cons ent193 AnsOk.nil) rn
end F155
namespace F102
noncomputable def H:Hd:=⟨[Sb],[Su,Si], .d,⟨[(155,F155.c)],gl,false⟩,[],f102⟩
noncomputable def F:=Tl
theorem rn x:H.u P_ x=F x:=by kernel_rfl
noncomputable def c:Con:=⟨H.p,H.r,F⟩
theorem ok:ConOk P_ gl 102 c:=co H func102 (.cons F155.ok .nil) rn
end F102
namespace F194
noncomputable def H:Hd:=⟨[Sq,Si],[Sz], .d,⟨[],gl,false⟩,[],f194⟩
noncomputable def F:=u2 Bbz
theorem rn x:H.u P_ x=F x:=by kernel_rfl
noncomputable def c:Con:=⟨H.p,H.r,F⟩
theorem ok:ConOk P_ gl 194 c:=co H func194 .nil rn
end F194
namespace F157
abbrev R_:=(LB×Int)
noncomputable def H:Hd:=⟨[Sq,Si],[Ob 5,Si],(.seq .d (.seq .d (.seq .d (.seq .d (.cut [6] [] (.seq .d (.blk (.loop [0,6,21,22] [] .d))) .d))))),⟨[(194,F194.c)],gl,false⟩,[],f157⟩
def t4(f:UInt64)(g:LB)(b:Int)(a:LB):S:=⟨[(0,vq f),(6, .own 0),(21,vi (Ac g)),(22,vi b)],[Ab 5 a],[]⟩
def z4:Nat→S→Option R_:=H.i P_ [r,r,r,r,l,r,d]
def x6(a:LB):Option R_:=H.e P_ [r,r,r,r,r] ⟨[(6, .own 0)],[Ab 5 a],[]⟩
def x4(f:UInt64)(g:LB)(b:Int)(a:LB):Option R_:=H.e P_ [r,r,r,r,l,r,d] (t4 f g b a)
theorem e6:x6=Ase:=by kernel_rfl
theorem i4(f:UInt64)(g:LB):∀(q:Nat) (b:Int) (a:LB),z4 q (t4 f g b a)=Xw f g q b a:=
 ind (fun _ _=>by kernel_rfl) fun q ih b a=>Eq.trans (b:=Akq x6 (fun b a=>(z4 q) (t4 f g b a)) f g b a) (by kernel_rfl) (by simp only[e6,ih]<;>rfl)
theorem e4:x4=Ash:=by funext f g b a;exact Eq.trans (by kernel_rfl) ((i4 f g Cn b a).trans (by rw[Ar];rfl))
noncomputable def F:=u2 Vp
theorem rn x:H.u P_ x=F x:=Eq.trans (b:=u2 (As5 x4) x) (by kernel_rfl) (by simp only[e4]<;>rfl)
noncomputable def c:Con:=⟨H.p,H.r,F⟩
theorem ok:ConOk P_ gl 157 c:=co H func157 (.cons F194.ok .nil) rn
end F157
namespace F188
abbrev R_:=LB
noncomputable def H:Hd:=⟨[.lf (.list (.list (.int .u8))) none],[Ob 5],(.seq .d (.seq .d (.cut [0,3] [] (.seq .d (.blk (.loop [0,3,9,10,11] [] .d))) (.cut [0,6] [⟨6,[], .own 5 (.int .u8)⟩] (.keep [0,3,6,23,24] true) (.cut [6] [] (.seq .d (.blk (.loop [6,25,26,27] [] .d))) .d))))),⟨[],gl,true⟩,[(229,(.seq .d (.cut [0,1] [] .d .d)))],f188⟩
def t14(a:List LB)(g:Int)(f:LB):S:=⟨[(6, .own 0),(25, .val (.list (.list (.int .u8))) a),(26,vi (Ac a)),(27,vi g)],[Ab 5 f],[]⟩
def z14:Nat→S→Option R_:=H.i P_ [r,r,r,r,l,r,d]
def t9(a:List LB)(b h:Int):S:=⟨[(0, .val (.list (.list (.int .u8))) a),(3,vi b),(9, .val (.list (.list (.int .u8))) a),(10,vi (Ac a)),(11,vi h)],[],[]⟩
def z9:Nat→S→Option R_:=H.i P_ [r,r,l,r,d]
def x16(f:LB):Option R_:=H.e P_ [r,r,r,r,r] ⟨[(6, .own 0)],[Ab 5 f],[]⟩
def x14(a:List LB)(g:Int)(f:LB):Option R_:=H.e P_ [r,r,r,r,l,r,d] (t14 a g f)
def x13(a:List LB)(k:LB):Option R_:=H.e P_ [r,r,r,r] ⟨[(0, .val (.list (.list (.int .u8))) a),(6, .own 0)],[Ab 5 k],[]⟩
def x12(b:Int)(a:List LB):Option R_:=H.e P_ [r,r,r,l,(call 1 229),r,r] ⟨[(0, .nils),(1,vi b)],[],[[(0, .val (.list (.list (.int .u8))) a),(3,vi b),(23,vi b)]]⟩
def x11(a:List LB)(b:Int):Option R_:=H.e P_ [r,r,r] ⟨[(0, .val (.list (.list (.int .u8))) a),(3,vi b)],[],[]⟩
def x9(a:List LB)(b h:Int):Option R_:=H.e P_ [r,r,l,r,d] (t9 a b h)
theorem e16:x16=Rb:=by kernel_rfl
theorem i14(a:List LB):∀(q:Nat) (g:Int) (f:LB),z14 q (t14 a g f)=Jk a q g f:=
 ind (fun _ _=>by kernel_rfl) fun q ih g f=>Eq.trans (b:=Qv x16 (fun g f=>(z14 q) (t14 a g f)) a g f) (by kernel_rfl) (by simp only[e16,ih]<;>rfl)
theorem e14:x14=Qp:=by funext a g f;exact Eq.trans (by kernel_rfl) ((i14 a Cn g f).trans (by rw[Ar];rfl))
theorem e13:x13=Qr:=Eq.trans (b:=Qf x14) (by kernel_rfl) (by simp only[e14]<;>rfl)
theorem e12:x12=Qy:=Eq.trans (b:=Qs x13) (by kernel_rfl) (by simp only[e13]<;>rfl)
theorem e11:x11=Qn:=Eq.trans (b:=Qa x12) (by kernel_rfl) (by simp only[e12]<;>rfl)
theorem i9(a:List LB):∀(q:Nat) (b h:Int),z9 q (t9 a b h)=Kb a q b h:=
 ind (fun _ _=>by kernel_rfl) fun q ih b h=>Eq.trans (b:=Tc x11 (fun b h=>(z9 q) (t9 a b h)) a b h) (by kernel_rfl) (by simp only[e11,ih]<;>rfl)
theorem e9:x9=Rh:=by funext a b h;exact Eq.trans (by kernel_rfl) ((i9 a Cn b h).trans (by rw[Ar];rfl))
noncomputable def F:=Xo
theorem rn x:H.u P_ x=F x:=Eq.trans (b:=Rt x9 x) (by kernel_rfl) (by simp only[e9]<;>rfl)
noncomputable def c:Con:=⟨H.p,H.r,F⟩
theorem ok:ConOk P_ gl 188 c:=cr H func188 .nil (AnsOk.cons ent229 AnsOk.nil) rn
end F188
namespace F176
abbrev R_:=(LB×Int)
abbrev K_:=S→Option R_
noncomputable def H:Hd:=⟨[.agg [Si,Si], .lf (.vec 16 (.int .i32)) none,Sw],[Ob 5,Si],(.seq .d (.seq .d (.seq .d (.seq .d (.seq .d (.cut [11] [] (.seq .d (.blk (.loop [3,10,11,30,31,32] [⟨11,[0], .own 5 (.int .u8)⟩] (.seq .d (.seq .d (.cut [3,10,11,30,31,32] [] (.blk (.seq .d (.seq .d (.seq .d (.seq .d (.keep [3,10,11,14,30,31,32,59] true)))))) .d)))))) .d)))))),⟨[(102,F102.c),(157,F157.c),(188,F188.c),(211,F211.c),(212,F212.c),(213,F213.c)],gl,false⟩,[(214,(.seq .d (.seq .d (.blk (.loop [0,3,7,8] [] (.seq .d (.seq .d (.seq (.blk (.seq .d (.cut [0,3,4,7,8] [] .d (.seq .d (.cut [0,3,7,8] [] .d .d))))) .d))))))))],f176⟩
def t44(a:LU)(b f h g:Int)(k:List (Int×Int×UInt64×UInt64×Unit))(m:LB)(o n:Int)(v:LB):S:=⟨[(0, .ptr 0 []),(3, .ptr 1 []),(7,vi h),(8,vi o)],[.box 170 (.agg [.own 7,vi n]), .box 170 (.agg [.own 6,vi h]), .box 60 (.agg [vi b,vi f]), .box 226 (.val (.vec 6 (.cons (.int .i64) (.cons (.int .i64) (.cons (.int .u64) (.cons (.int .u64) .nil))))) k), .box 170 (.agg [.own 6,vi h]),Av 154 a,Ab 5 m,Ab 5 v],[[(3, .ptr 2 []),(10, .ptr 3 []),(11, .ptr 0 []),(14, .ptr 4 []),(30, .own 5),(31,vi (Ac a)),(32,vi g),(59, .agg [.own 6,vi h])]]⟩
def z44(kn27:K_):Nat→S→Option R_:=H.i P_ [r,r,r,r,r,l,r,d,(lp kn27),r,r,l,d,r,r,r,r,(call 1 214),r,r,d]
def t27(a:LU)(b f g:Int)(w:List (Int×Int×UInt64×UInt64×Unit))(u:Int)(p:LB):S:=⟨[(3, .ptr 0 []),(10, .ptr 1 []),(11, .ptr 2 []),(30, .own 3),(31,vi (Ac a)),(32,vi g)],[.box 60 (.agg [vi b,vi f]), .box 226 (.val (.vec 6 (.cons (.int .i64) (.cons (.int .i64) (.cons (.int .u64) (.cons (.int .u64) .nil))))) w), .box 170 (.agg [.own 4,vi u]),Av 154 a,Ab 5 p],[]⟩
def z27:Nat→S→Option R_:=H.i P_ [r,r,r,r,r,l,r,d]
def x52(u:Int)(p:LB):Option R_:=H.e P_ [r,r,r,r,r,r] ⟨[(11, .ptr 0 [])],[.box 170 (.agg [.own 1,vi u]),Ab 5 p],[]⟩
def x50(kn27:K_)(a:LU)(b f g:Int)(k:List (Int×Int×UInt64×UInt64×Unit))(n:Int)(v:LB):Option R_:=H.e P_ [r,r,r,r,r,l,r,d,(lp kn27),r,r,r] ⟨[(3, .ptr 0 []),(10, .ptr 1 []),(11, .ptr 2 []),(30, .own 3),(31,vi (Ac a)),(32,vi g)],[.box 60 (.agg [vi b,vi f]), .box 226 (.val (.vec 6 (.cons (.int .i64) (.cons (.int .i64) (.cons (.int .u64) (.cons (.int .u64) .nil))))) k), .box 170 (.agg [.own 4,vi n]),Av 154 a,Ab 5 v],[]⟩
def x48(kn27 kn44:K_)(h:Int)(a:LU)(g b f:Int)(k:List (Int×Int×UInt64×UInt64×Unit))(m:LB)(o n:Int)(aa:LB):Option R_:=H.e P_ [r,r,r,r,r,l,r,d,(lp kn27),r,r,l,d,r,r,r,r,(call 1 214),r,r,d,(lp kn44),r,r,l,d,r,r,r,r] ⟨[(0, .ptr 0 []),(3, .ptr 1 []),(7,vi h),(8,vi o)],[.box 170 (.agg [.own 7,vi n]), .box 170 (.agg [.own 6,vi h]), .box 60 (.agg [vi b,vi f]), .box 226 (.val (.vec 6 (.cons (.int .i64) (.cons (.int .i64) (.cons (.int .u64) (.cons (.int .u64) .nil))))) k), .box 170 (.agg [.own 6,vi h]),Av 154 a,Ab 5 m,Ab 5 aa],[[(3, .ptr 2 []),(10, .ptr 3 []),(11, .ptr 0 []),(14, .ptr 4 []),(30, .own 5),(31,vi (Ac a)),(32,vi g),(59, .agg [.own 6,vi h])]]⟩
def x47(kn27 kn44:K_)(h:Int)(a:LU)(g b f:Int)(k:List (Int×Int×UInt64×UInt64×Unit))(m:LB)(o n:Int)(y:LB):Option R_:=H.e P_ [r,r,r,r,r,l,r,d,(lp kn27),r,r,l,d,r,r,r,r,(call 1 214),r,r,d,(lp kn44),r,r,l,d,r,r] ⟨[(0, .ptr 0 []),(3, .ptr 1 []),(4,vi o),(7,vi h),(8,vi o)],[.box 170 (.agg [.own 7,vi n]), .box 170 (.agg [.own 6,vi h]), .box 60 (.agg [vi b,vi f]), .box 226 (.val (.vec 6 (.cons (.int .i64) (.cons (.int .i64) (.cons (.int .u64) (.cons (.int .u64) .nil))))) k), .box 170 (.agg [.own 6,vi h]),Av 154 a,Ab 5 m,Ab 5 y],[[(3, .ptr 2 []),(10, .ptr 3 []),(11, .ptr 0 []),(14, .ptr 4 []),(30, .own 5),(31,vi (Ac a)),(32,vi g),(59, .agg [.own 6,vi h])]]⟩
def x44(kn27:K_)(a:LU)(b f h g:Int)(k:List (Int×Int×UInt64×UInt64×Unit))(m:LB)(o n:Int)(v:LB):Option R_:=H.e P_ [r,r,r,r,r,l,r,d,(lp kn27),r,r,l,d,r,r,r,r,(call 1 214),r,r,d] (t44 a b f h g k m o n v)
def x27(a:LU)(b f g:Int)(w:List (Int×Int×UInt64×UInt64×Unit))(u:Int)(p:LB):Option R_:=H.e P_ [r,r,r,r,r,l,r,d] (t27 a b f g w u p)
theorem e52:x52=Ah1:=by kernel_rfl
theorem e50(kn27:K_)(a:LU)(b f:Int):x50 kn27 a b f=Ajm (fun g w u p=>kn27 (t27 a b f g w u p)) a b f:=by kernel_rfl
theorem e48(kn27 kn44:K_)(a:LU)(b f h g:Int)(k:List (Int×Int×UInt64×UInt64×Unit))(m:LB):x48 kn27 kn44 h a g b f k m=Aik (fun o n v=>kn44 (t44 a b f h g k m o n v)) h a g b f k m:=by kernel_rfl
theorem e47(kn27 kn44:K_)(a:LU)(b f h g:Int)(k:List (Int×Int×UInt64×UInt64×Unit))(m:LB):x47 kn27 kn44 h a g b f k m=Ahg (fun o n v=>kn44 (t44 a b f h g k m o n v)) h a g b f k m:=Eq.trans (b:=Ahs (x48 kn27 kn44 h a g b f k m) h a g b f k m) (by kernel_rfl) (by simp only[e48]<;>rfl)
theorem i44(kn27:K_)(a:LU)(b f h g:Int)(k:List (Int×Int×UInt64×UInt64×Unit))(m:LB):∀(q:Nat) (o n:Int) (v:LB),z44 kn27 q (t44 a b f h g k m o n v)=Wc (fun g w u p=>kn27 (t27 a b f g w u p)) a b f h g k m q o n v:=
 ind (fun _ _ _=>by kernel_rfl) fun q ih o n v=>Eq.trans (b:=Ai2 (x47 kn27 (z44 kn27 q) h a g b f k m) (x50 kn27 a b f) a b f h g k m o n v) (by kernel_rfl) (by simp only[e47,e50,ih]<;>rfl)
theorem e44(kn27:K_)(a:LU)(b f:Int):x44 kn27 a b f=Aiw (fun g w u p=>kn27 (t27 a b f g w u p)) a b f:=by funext h g k m o n v;exact Eq.trans (by kernel_rfl) ((i44 kn27 a b f h g k m Cn o n v).trans (by rw[Ar];rfl))
theorem i27(a:LU)(b f:Int):∀(q:Nat) (g:Int) (w:List (Int×Int×UInt64×UInt64×Unit)) (u:Int) (p:LB),z27 q (t27 a b f g w u p)=Wh a b f q g w u p:=
 ind (fun _ _ _ _=>by kernel_rfl) fun q ih g w u p=>Eq.trans (b:=Aiu (x44 (z27 q) a b f) x52 a b f g w u p) (by kernel_rfl) (by simp only[e44,e52,ih]<;>rfl)
theorem e27:x27=Aht:=by funext a b f g w u p;exact Eq.trans (by kernel_rfl) ((i27 a b f Cn g w u p).trans (by rw[Ar];rfl))
noncomputable def F:=u4 Aae
theorem rn x:H.u P_ x=F x:=Eq.trans (b:=u4 (Aj5 x27) x) (by kernel_rfl) (by simp only[e27]<;>rfl)
noncomputable def c:Con:=⟨H.p,H.r,F⟩
theorem ok:ConOk P_ gl 176 c:=cr H func176 (.cons F102.ok (.cons F157.ok (.cons F188.ok (.cons F211.ok (.cons F212.ok (.cons F213.ok .nil)))))) (AnsOk.cons ent214 AnsOk.nil) rn
end F176
theorem Bfn:ConOk Tryz.prog gl 124 Alf:=Bfk F174.ok F65.ok F107.ok F176.ok F177.ok
namespace F103
abbrev R_:=Bool
noncomputable def H:Hd:=⟨[.agg [Si,Si,Si,Si,Si]],[Sz],(.seq .d (.cut [1] [] .d .d)),⟨[],gl,false⟩,[],f103⟩
def x2(b f a g h:Int):Option R_:=H.e P_ [r,r] ⟨[(1, .ptr 0 [])],[.box 27 (.agg [vi b,vi f,vi a,vi g,vi h])],[]⟩
theorem e2:x2=Tp:=by kernel_rfl
noncomputable def F:=u5 Vm
theorem rn x:H.u P_ x=F x:=Eq.trans (b:=u5 (Acg x2) x) (by kernel_rfl) (by simp only[e2]<;>rfl)
noncomputable def c:Con:=⟨H.p,H.r,F⟩
theorem ok:ConOk P_ gl 103 c:=co H func103 .nil rn
end F103
namespace F104
noncomputable def H:Hd:=⟨[.agg [Si,Si,Si,Si,Si]],[Sz], .d,⟨[(69,F69.c)],gl,false⟩,[],f104⟩
noncomputable def F:=u5 Ae6
theorem rn x:H.u P_ x=F x:=by kernel_rfl
noncomputable def c:Con:=⟨H.p,H.r,F⟩
theorem ok:ConOk P_ gl 104 c:=co H func104 (.cons F69.ok .nil) rn
end F104
namespace F106
noncomputable def H:Hd:=⟨[.agg [Si,Si,Si,Si,Si]],[Si], .d,⟨[(103,F103.c),(104,F104.c)],gl,false⟩,[],f106⟩
noncomputable def F:=u5 Ze
theorem rn x:H.u P_ x=F x:=by kernel_rfl
noncomputable def c:Con:=⟨H.p,H.r,F⟩
theorem ok:ConOk P_ gl 106 c:=co H func106 (.cons F103.ok (.cons F104.ok .nil)) rn
end F106
namespace F125
abbrev R_:=(LB×Int)
noncomputable def H:Hd:=⟨[.agg [Si,Si,Si,Si,Si]],[Ob 5,Si],(.seq .d (.seq .d (.seq .d (.cut [5] [] (.seq .d (.blk (.loop [5,31,32] [] .d))) .d)))),⟨[(102,F102.c),(106,F106.c),(157,F157.c)],gl,false⟩,[],f125⟩
def t4(b f g h k m:Int)(a:LB):S:=⟨[(5, .own 0),(31, .val (.vec 5 (.int .i64)) ([b,f,g,h,k]:LI)),(32,vi m)],[Ab 5 a],[]⟩
def z4:Nat→S→Option R_:=H.i P_ [r,r,r,l,r,d]
def x6(a:LB):Option R_:=H.e P_ [r,r,r,r] ⟨[(5, .own 0)],[Ab 5 a],[]⟩
def x4(b f g h k m:Int)(a:LB):Option R_:=H.e P_ [r,r,r,l,r,d] (t4 b f g h k m a)
theorem e6:x6=Aph:=by kernel_rfl
theorem i4(b f g h k:Int):∀(q:Nat) (m:Int) (a:LB),z4 q (t4 b f g h k m a)=Afq b f g h k q m a:=
 ind (fun _ _=>by kernel_rfl) fun q ih m a=>Eq.trans (b:=Api x6 (fun m a=>(z4 q) (t4 b f g h k m a)) b f g h k m a) (by kernel_rfl) (by simp only[e6,ih]<;>rfl)
theorem e4:x4=Apa:=by funext b f g h k m a;exact Eq.trans (by kernel_rfl) ((i4 b f g h k Cn m a).trans (by rw[Ar];rfl))
noncomputable def F:=u5 Aw2
theorem rn x:H.u P_ x=F x:=Eq.trans (b:=u5 (Apo x4) x) (by kernel_rfl) (by simp only[e4]<;>rfl)
noncomputable def c:Con:=⟨H.p,H.r,F⟩
theorem ok:ConOk P_ gl 125 c:=co H func125 (.cons F102.ok (.cons F106.ok (.cons F157.ok .nil))) rn
end F125
namespace F156
noncomputable def H:Hd:=⟨[Ss],[Sq,Si], .d,⟨[(112,F112.c)],gl,false⟩,[],f156⟩
noncomputable def F:=Ay6
theorem rn x:H.u P_ x=F x:=by kernel_rfl
noncomputable def c:Con:=⟨H.p,H.r,F⟩
theorem ok:ConOk P_ gl 156 c:=co H func156 (.cons F112.ok .nil) rn
end F156
namespace F105
noncomputable def H:Hd:=⟨[Ss],[Ob 5,Si], .d,⟨[(156,F156.c),(157,F157.c)],gl,false⟩,[],f105⟩
noncomputable def F:=Zd
theorem rn x:H.u P_ x=F x:=by kernel_rfl
noncomputable def c:Con:=⟨H.p,H.r,F⟩
theorem ok:ConOk P_ gl 105 c:=co H func105 (.cons F156.ok (.cons F157.ok .nil)) rn
end F105
namespace F85
abbrev R_:=Int
noncomputable def H:Hd:=⟨[Sl],[Si],(.seq .d (.seq .d (.seq .d (.cut [] [] (.seq .d (.blk (.loop [3,14,15,16] [] .d))) .d)))),⟨[],gl,false⟩,[],f85⟩
def t4(a:LI)(f b:Int):S:=⟨[(3,vi f),(14,vl a),(15,vi (Ac a)),(16,vi b)],[],[]⟩
def z4:Nat→S→Option R_:=H.i P_ [r,r,r,l,r,d]
def x6:Option R_:=H.e P_ [r,r,r,r] ⟨[],[],[]⟩
def x4(a:LI)(f b:Int):Option R_:=H.e P_ [r,r,r,l,r,d] (t4 a f b)
theorem e6:x6=Asl:=by kernel_rfl
theorem i4(a:LI):∀(q:Nat) (f b:Int),z4 q (t4 a f b)=Nj a q f b:=
 ind (fun _ _=>by kernel_rfl) fun q ih f b=>Eq.trans (b:=Zx x6 (fun f b=>(z4 q) (t4 a f b)) a f b) (by kernel_rfl) (by simp only[e6,ih]<;>rfl)
theorem e4:x4=Ajn:=by funext a f b;exact Eq.trans (by kernel_rfl) ((i4 a Cn f b).trans (by rw[Ar];rfl))
noncomputable def F:=Ln
theorem rn x:H.u P_ x=F x:=Eq.trans (b:=Aah x4 x) (by kernel_rfl) (by simp only[e4]<;>rfl)
noncomputable def c:Con:=⟨H.p,H.r,F⟩
theorem ok:ConOk P_ gl 85 c:=co H func85 .nil rn
end F85
namespace F126
abbrev R_:=(LB×Int)
abbrev K_:=S→Option R_
noncomputable def H:Hd:=⟨[Sl],[Ob 5,Si],(.seq .d (.seq .d (.seq .d (.seq .d (.cut [5,6] [] (.seq .d (.blk (.loop [5,6,17,18,19] [⟨5,[], .own 5 (.int .u8)⟩,⟨6,[0], .own 5 (.int .u8)⟩] (.seq .d (.seq .d (.cut [5,6,17,18,19] [] (.blk (.seq .d (.keep [5,6,8,17,18,19,23,24,25] true))) .d)))))) (.seq .d (.cut [5] [] (.keep [5,6,9,33,34,35] true) .d))))))),⟨[(85,F85.c),(102,F102.c),(157,F157.c)],gl,false⟩,[(178, .d)],f126⟩
def t8(a:LI)(f:Int)(b:LB):S:=⟨[(5, .ptr 0 []),(6, .fn 178 [.ptr 0 []]),(17,vl a),(18,vi (Ac a)),(19,vi f)],[.box 22 (.own 1),Ab 5 b],[]⟩
def z8:Nat→S→Option R_:=H.i P_ [r,r,r,r,l,r,d]
def x14(g:LB):Option R_:=H.e P_ [r,r,r,r,r,r,r] ⟨[(5, .ptr 0 [])],[.box 22 (.own 1),Ab 5 g],[]⟩
def x13(b:LB):Option R_:=H.e P_ [r,r,r,r,r] ⟨[(5, .ptr 0 []),(6, .fn 178 [.ptr 0 []])],[.box 22 (.own 1),Ab 5 b],[]⟩
def x11(kn8:K_)(a:LI)(f:Int)(h:LB):Option R_:=H.e P_ [r,r,r,r,l,r,d,(lp kn8),r,r,r] ⟨[(5, .ptr 0 []),(6, .fn 178 [.ptr 0 []]),(17,vl a),(18,vi (Ac a)),(19,vi f)],[.box 22 (.own 1),Ab 5 h],[]⟩
def x8(a:LI)(f:Int)(b:LB):Option R_:=H.e P_ [r,r,r,r,l,r,d] (t8 a f b)
theorem e14:x14=Aps:=by kernel_rfl
theorem e13:x13=Ao4:=Eq.trans (b:=Apj x14) (by kernel_rfl) (by simp only[e14]<;>rfl)
theorem e11(kn8:K_)(a:LI):x11 kn8 a=Ao5 (fun f b=>kn8 (t8 a f b)) a:=by kernel_rfl
theorem i8(a:LI):∀(q:Nat) (f:Int) (b:LB),z8 q (t8 a f b)=Ajh a q f b:=
 ind (fun _ _=>by kernel_rfl) fun q ih f b=>Eq.trans (b:=Arq (x11 (z8 q) a) x13 a f b) (by kernel_rfl) (by simp only[e11,e13,ih]<;>rfl)
theorem e8:x8=Aq9:=by funext a f b;exact Eq.trans (by kernel_rfl) ((i8 a Cn f b).trans (by rw[Ar];rfl))
noncomputable def F:=Baa
theorem rn x:H.u P_ x=F x:=Eq.trans (b:=Asg x8 x) (by kernel_rfl) (by simp only[e8]<;>rfl)
noncomputable def c:Con:=⟨H.p,H.r,F⟩
theorem ok:ConOk P_ gl 126 c:=cr H func126 (.cons F85.ok (.cons F102.ok (.cons F157.ok .nil))) (AnsOk.cons ent178 AnsOk.nil) rn
end F126
namespace F128
noncomputable def H:Hd:=⟨[Sb],[Si], .d,⟨[],gl,false⟩,[],f128⟩
noncomputable def F:=Aur
theorem rn x:H.u P_ x=F x:=by kernel_rfl
noncomputable def c:Con:=⟨H.p,H.r,F⟩
theorem ok:ConOk P_ gl 128 c:=co H func128 .nil rn
end F128
namespace F129
abbrev R_:=LB
noncomputable def H:Hd:=⟨[.lf (.list (.list (.int .u8))) none],[Ob 5],(.seq .d (.seq .d (.cut [3] [] (.seq .d (.blk (.loop [3,6,7,8] [⟨3,[], .own 5 (.int .u8)⟩] .d))) .d))),⟨[],gl,false⟩,[],f129⟩
def t4(b:List LB)(f:Int)(a:LB):S:=⟨[(3, .own 0),(6, .val (.list (.list (.int .u8))) b),(7,vi (Ac b)),(8,vi f)],[Ab 5 a],[]⟩
def z4:Nat→S→Option R_:=H.i P_ [r,r,l,r,d]
def x6(a:LB):Option R_:=H.e P_ [r,r,r] ⟨[(3, .own 0)],[Ab 5 a],[]⟩
def x4(b:List LB)(f:Int)(a:LB):Option R_:=H.e P_ [r,r,l,r,d] (t4 b f a)
theorem e6:x6=Ar3:=by kernel_rfl
theorem i4(b:List LB):∀(q:Nat) (f:Int) (a:LB),z4 q (t4 b f a)=Ahz b q f a:=
 ind (fun _ _=>by kernel_rfl) fun q ih f a=>Eq.trans (b:=Asn x6 (fun f a=>(z4 q) (t4 b f a)) b f a) (by kernel_rfl) (by simp only[e6,ih]<;>rfl)
theorem e4:x4=Arz:=by funext b f a;exact Eq.trans (by kernel_rfl) ((i4 b Cn f a).trans (by rw[Ar];rfl))
noncomputable def F:=Ba4
theorem rn x:H.u P_ x=F x:=Eq.trans (b:=Asu x4 x) (by kernel_rfl) (by simp only[e4]<;>rfl)
noncomputable def c:Con:=⟨H.p,H.r,F⟩
theorem ok:ConOk P_ gl 129 c:=co H func129 .nil rn
end F129
namespace F78
abbrev R_:=(LB×Int)
abbrev K_:=S→Option R_
noncomputable def H:Hd:=⟨[.agg [Si,Si,Si,Sw],Ss],[Ob 5,Si],(.seq .d (.seq .d (.seq .d (.seq .d (.seq .d (.seq .d (.seq .d (.seq .d (.cut [8,9,10] [⟨10,[], .own 5 (.int .u8)⟩] .d (.cut [7,8,9,10,11] [] (.keep [7,8,9,10,11,46,48,49,50,51] true) .d)))))))))),⟨[(105,F105.c),(123,F123.c),(124,Alf),(125,F125.c),(126,F126.c),(128,F128.c),(129,F129.c)],gl,false⟩,[(127,(.seq .d (.seq .d (.cut [5] [] (.seq .d (.blk (.loop [1,5,11,12,13] [] (.seq .d (.seq .d (.cut [1,5,11,12,13] [] .d .d)))))) .d))))],f78⟩
def t9(a:List LB)(b f:LB)(g:Int)(h:LI):S:=⟨[(1, .fn 128 []),(5, .own 0),(11, .own 1),(12,vi (Ac a)),(13,vi g)],[Ai 3 h, .arr 22 (.list (.int .u8)) a,Ab 5 b,Ab 5 f],[[(8, .own 1),(9, .own 2),(10, .own 3)]]⟩
def z9:Nat→S→Option R_:=H.i P_ [r,r,r,r,r,r,r,r,r,l,(call 1 127),r,r,l,r,d]
def x14(k:Int)(a:List LB)(b f n:LB):Option R_:=H.e P_ [r,r,r,r,r,r,r,r,r,r] ⟨[(7,vi k),(8, .own 0),(9, .own 1),(10, .own 2),(11, .own 3)],[.arr 22 (.list (.int .u8)) a,Ab 5 b,Ab 5 f,Ab 5 n],[]⟩
def x13(h:LI)(a:List LB)(b f:LB):Option R_:=H.e P_ [r,r,r,r,r,r,r,r,r,l,(call 1 127),r,r,r] ⟨[(5, .own 0)],[Ai 3 h, .arr 22 (.list (.int .u8)) a,Ab 5 b,Ab 5 f],[[(8, .own 1),(9, .own 2),(10, .own 3)]]⟩
def x11(kn9:K_)(a:List LB)(b f:LB)(g:Int)(m:LI):Option R_:=H.e P_ [r,r,r,r,r,r,r,r,r,l,(call 1 127),r,r,l,r,d,(lp kn9),r,r,r] ⟨[(1, .fn 128 []),(5, .own 0),(11, .own 1),(12,vi (Ac a)),(13,vi g)],[Ai 3 m, .arr 22 (.list (.int .u8)) a,Ab 5 b,Ab 5 f],[[(8, .own 1),(9, .own 2),(10, .own 3)]]⟩
def x9(a:List LB)(b f:LB)(g:Int)(h:LI):Option R_:=H.e P_ [r,r,r,r,r,r,r,r,r,l,(call 1 127),r,r,l,r,d] (t9 a b f g h)
def x8(a:List LB)(b f:LB):Option R_:=H.e P_ [r,r,r,r,r,r,r,r,r] ⟨[(8, .own 0),(9, .own 1),(10, .own 2)],[.arr 22 (.list (.int .u8)) a,Ab 5 b,Ab 5 f],[]⟩
theorem e14:x14=Apn:=by kernel_rfl
theorem e13:x13=Apr:=Eq.trans (b:=Apc x14) (by kernel_rfl) (by simp only[e14]<;>rfl)
theorem e11(kn9:K_)(a:List LB)(b f:LB):x11 kn9 a b f=Apl (fun g h=>kn9 (t9 a b f g h)) a b f:=by kernel_rfl
theorem i9(a:List LB)(b f:LB):∀(q:Nat) (g:Int) (h:LI),z9 q (t9 a b f g h)=Ah5 a b f q g h:=
 ind (fun _ _=>by kernel_rfl) fun q ih g h=>Eq.trans (b:=As9 (x11 (z9 q) a b f) x13 a b f g h) (by kernel_rfl) (by simp only[e11,e13,ih]<;>rfl)
theorem e9:x9=Aqm:=by funext a b f g h;exact Eq.trans (by kernel_rfl) ((i9 a b f Cn g h).trans (by rw[Ar];rfl))
theorem e8:x8=Asw:=Eq.trans (b:=Asm x9) (by kernel_rfl) (by simp only[e9]<;>rfl)
noncomputable def F:=u5 Bav
theorem rn x:H.u P_ x=F x:=Eq.trans (b:=u5 (Aqk x8) x) (by kernel_rfl) (by simp only[e8]<;>rfl)
noncomputable def c:Con:=⟨H.p,H.r,F⟩
theorem ok:ConOk P_ gl 78 c:=cr H func78 (.cons F105.ok (.cons F123.ok (.cons Bfn (.cons F125.ok (.cons F126.ok (.cons F128.ok (.cons F129.ok .nil))))))) (AnsOk.cons ent127 AnsOk.nil) rn
end F78
namespace F71
noncomputable def H:Hd:=⟨[],[Ob 5,Sz], .d,⟨[(78,F78.c)],gl,false⟩,[],f71⟩
noncomputable def F(x:Unit):=Ahd
theorem rn x:H.u P_ x=F x:=by kernel_rfl
noncomputable def c:Con:=⟨H.p,H.r,F⟩
theorem ok:ConOk P_ gl 71 c:=co H func71 (.cons F78.ok .nil) rn
end F71
namespace F52
noncomputable def H:Hd:=⟨[Sb,Sb],[Sz], .d,⟨[],gl,false⟩,[],f52⟩
noncomputable def F:=u2 Fv
theorem rn x:H.u P_ x=F x:=by kernel_rfl
noncomputable def c:Con:=⟨H.p,H.r,F⟩
theorem ok:ConOk P_ gl 52 c:=co H func52 .nil rn
end F52
namespace F161
noncomputable def H:Hd:=⟨[Sb,Sb],[Sz], .d,⟨[(52,F52.c)],gl,false⟩,[],f161⟩
noncomputable def F:=u2 Iq
theorem rn x:H.u P_ x=F x:=by kernel_rfl
noncomputable def c:Con:=⟨H.p,H.r,F⟩
theorem ok:ConOk P_ gl 161 c:=co H func161 (.cons F52.ok .nil) rn
end F161
namespace F232
abbrev R_:=(Int×Int)
noncomputable def H:Hd:=⟨[Sb],[Si,Si],(.seq .d (.seq .d (.seq .d (.cut [4] [] (.seq .d (.blk (.loop [4,10,11,12] [] .d))) .d)))),⟨[],gl,false⟩,[],f232⟩
def t4(a:LB)(b f:Int):S:=⟨[(4,vi b),(10,vb a),(11,vi (Ac a)),(12,vi f)],[],[]⟩
def z4:Nat→S→Option R_:=H.i P_ [r,r,r,l,r,d]
def x6(b:Int):Option R_:=H.e P_ [r,r,r,r] ⟨[(4,vi b)],[],[]⟩
def x4(a:LB)(b f:Int):Option R_:=H.e P_ [r,r,r,l,r,d] (t4 a b f)
theorem e6:x6=Am1:=by kernel_rfl
theorem i4(a:LB):∀(q:Nat) (b f:Int),z4 q (t4 a b f)=Jo a q b f:=
 ind (fun _ _=>by kernel_rfl) fun q ih b f=>Eq.trans (b:=Tt x6 (fun b f=>(z4 q) (t4 a b f)) a b f) (by kernel_rfl) (by simp only[e6,ih]<;>rfl)
theorem e4:x4=Ac1:=by funext a b f;exact Eq.trans (by kernel_rfl) ((i4 a Cn b f).trans (by rw[Ar];rfl))
noncomputable def F:=Adj
theorem rn x:H.u P_ x=F x:=Eq.trans (b:=Acm x4 x) (by kernel_rfl) (by simp only[e4]<;>rfl)
noncomputable def c:Con:=⟨H.p,H.r,F⟩
theorem ok:ConOk P_ gl 232 c:=co H func232 .nil rn
end F232
namespace F191
def Acn(j5:LB→UInt8→UInt8→Option (Int×Int))(a:LB):Option (Int×Int):=
(Iq a ([(73:UInt8),(68:UInt8),(51:UInt8)]:LB)).bind fun n=>
if(!n)then
some (0,6)
else
if(Bv (Ac a) 10)then
some (0,24)
else
(getI a 3).bind fun f=>
(getI a 5).bind fun b=>
(fun o:Option (Int×Int)=>
(fun p:Option (Int×Int)=>
both (
both (
bo (
j5 a f b)) [
o,
o]) [
bo2 (
bo (
j5 a f b)),
p,
p]) (
both (
o) [
bo (
j5 a f b),
both (
bo (
j5 a f b)) [
j5 a f b]])) (
both (
j5 a f b) [
bo (
j5 a f b)])
theorem At1: @Acn= @Vr:=by
  unfold Acn Vr
  try simp only[Az9,Ars,Aro]
  all_goals
    repeat (refine funext fun _=>?_)
    repeat' first
      |with_reducible rfl
      |with_reducible refine Tg ?_ ?_
      |with_reducible refine Ru ?_ ?_ ?_
      |with_reducible refine Sr ?_ ?_ ?_ ?_
      |((with_reducible refine Abg ?_ ?_);focus (intro h;first|(subst h;rfl)|(simp only[h];rfl)|(simp[Ed,Ac,h];done)))
      |with_reducible refine Aav fun x=>?_
      |with_reducible refine Aji (fun _=>?_) (fun _=>?_)
      |(refine Ki (fun h=>by simp only[h,Aa1,Gy,Ge,ite_self]) (fun x h=>?_);(try simp only[h,Gy]))
      |(refine Mz (fun h=>?_) (fun h=>?_)<;>simp only[h,if_true,if_false,Bool.false_eq_true])
abbrev R_:=(Int×Int)
noncomputable def H:Hd:=⟨[Sb],[Si,Si],(.seq .d (.seq .d (.seq .d (.cut [0,4,5] [] (.mode false) (.seq .d (.seq .d (.cut [0,5,6] [] (.cut [0,5,6,43] [] (.keep [0,5,6,7,8,31,32,33,34,35,36,37,38,39,40,41,42,43] true) .d) (.seq .d (.cut [0,5,6] [] .d .d))))))))),⟨[(52,F52.c),(161,F161.c),(232,F232.c)],gl,false⟩,[(233, .d)],f191⟩
def x8(a:LB)(b:UInt8)(h:Int):Option R_:=H.e P_ [r,r,r,r,r,r,r,r,r] ⟨[(0,vb a),(5, .ptr 0 []),(6,vi h)],[.box 5 (vc b)],[]⟩
def x7(a:LB)(g:Int)(b:UInt8):Option R_:=H.e P_ [r,r,r,r,r,r,r] ⟨[(0,vb a),(5, .ptr 0 []),(6,vi g)],[.box 5 (vc b)],[]⟩
def x6(a:LB)(g:Int)(b:UInt8)(m:Bool):Option R_:=H.e P_ [r,r,r,r,r,r,l,r] ⟨[(0,vb a),(5, .ptr 0 []),(6,vi g),(43,vt m)],[.box 5 (vc b)],[]⟩
def x5(a:LB)(f b:UInt8):Option R_:=H.e P_ [r,r,r,r] ⟨[(0,vb a),(4, .ptr 0 []),(5, .ptr 1 [])],[.box 5 (vc f), .box 5 (vc b)],[]⟩
theorem e8:x8=Vs:=by kernel_rfl
theorem e7:x7=Vu:=Eq.trans (b:=Afg x8) (by kernel_rfl) (by simp only[e8]<;>rfl)
theorem e6:x6=Af0:=Eq.trans (b:=Afm x7) (by kernel_rfl) (by simp only[e7]<;>rfl)
theorem e5:x5=Afs:=Eq.trans (b:=Afu x6) (by kernel_rfl) (by simp only[e6]<;>rfl)
noncomputable def F:=Agt
theorem rn x:H.u P_ x=F x:=Eq.trans (b:=Acn x5 x) (by kernel_rfl) (by unfold F;rw[At1];simp only[e5]<;>rfl)
noncomputable def c:Con:=⟨H.p,H.r,F⟩
theorem ok:ConOk P_ gl 191 c:=cr H func191 (.cons F52.ok (.cons F161.ok (.cons F232.ok .nil))) (AnsOk.cons ent233 AnsOk.nil) rn
end F191
namespace F154
abbrev R_:=(UInt64×Int)
noncomputable def H:Hd:=⟨[Sb],[Sq,Si],(.seq .d (.seq .d (.seq .d (.cut [4] [] (.seq .d (.blk (.loop [4,15,16,17] [] .d))) .d)))),⟨[],gl,false⟩,[],f154⟩
def t4(a:LB)(b:UInt64)(f:Int):S:=⟨[(4,vq b),(15,vb a),(16,vi (Ac a)),(17,vi f)],[],[]⟩
def z4:Nat→S→Option R_:=H.i P_ [r,r,r,l,r,d]
def x6(b:UInt64):Option R_:=H.e P_ [r,r,r,r] ⟨[(4,vq b)],[],[]⟩
def x4(a:LB)(b:UInt64)(f:Int):Option R_:=H.e P_ [r,r,r,l,r,d] (t4 a b f)
theorem e6:x6=Ba8:=by kernel_rfl
theorem i4(a:LB):∀(q:Nat) (b:UInt64) (f:Int),z4 q (t4 a b f)=Xe a q b f:=
 ind (fun _ _=>by kernel_rfl) fun q ih b f=>Eq.trans (b:=Ajw x6 (fun b f=>(z4 q) (t4 a b f)) a b f) (by kernel_rfl) (by simp only[e6,ih]<;>rfl)
theorem e4:x4=Asf:=by funext a b f;exact Eq.trans (by kernel_rfl) ((i4 a Cn b f).trans (by rw[Ar];rfl))
noncomputable def F:=Ar2
theorem rn x:H.u P_ x=F x:=Eq.trans (b:=Aqv x4 x) (by kernel_rfl) (by simp only[e4]<;>rfl)
noncomputable def c:Con:=⟨H.p,H.r,F⟩
theorem ok:ConOk P_ gl 154 c:=co H func154 .nil rn
end F154
namespace F101
noncomputable def H:Hd:=⟨[Sb,Si,Si],[Sq,Si], .d,⟨[(154,F154.c)],gl,false⟩,[],f101⟩
noncomputable def F:=u3 Al0
theorem rn x:H.u P_ x=F x:=by kernel_rfl
noncomputable def c:Con:=⟨H.p,H.r,F⟩
theorem ok:ConOk P_ gl 101 c:=co H func101 (.cons F154.ok .nil) rn
end F101
namespace F163
abbrev R_:=LB
noncomputable def H:Hd:=⟨[Si,Si,Sq],[Ob 5],(.seq .d (.seq .d (.cut [7] [] (.seq .d (.blk (.loop [7,20,21,22] [] .d))) .d))),⟨[(157,F157.c)],gl,false⟩,[],f163⟩
def t4(a b:Int)(f:UInt64)(h:Int)(g:LB):S:=⟨[(7, .own 0),(20, .own 1),(21,vi (Ac ([(2000:UInt64),(Ad (Ae a (32:Int)):UInt64),(Ad b:UInt64),f,(0:UInt64),(0:UInt64)]:LQ))),(22,vi h)],[Ab 5 g, .arr 87 (.int .u64) ([(2000:UInt64),(Ad (Ae a (32:Int)):UInt64),(Ad b:UInt64),f,(0:UInt64),(0:UInt64)]:LQ)],[]⟩
def z4:Nat→S→Option R_:=H.i P_ [r,r,l,r,d]
def x6(g:LB):Option R_:=H.e P_ [r,r,r] ⟨[(7, .own 0)],[Ab 5 g],[]⟩
def x4(a b:Int)(f:UInt64)(h:Int)(g:LB):Option R_:=H.e P_ [r,r,l,r,d] (t4 a b f h g)
theorem e6:x6=Avh:=by kernel_rfl
theorem i4(a b:Int)(f:UInt64):∀(q:Nat) (h:Int) (g:LB),z4 q (t4 a b f h g)=Ws a b f q h g:=
 ind (fun _ _=>by kernel_rfl) fun q ih h g=>Eq.trans (b:=Aou x6 (fun h g=>(z4 q) (t4 a b f h g)) a b f h g) (by kernel_rfl) (by simp only[e6,ih]<;>rfl)
theorem e4:x4=Avw:=by funext a b f h g;exact Eq.trans (by kernel_rfl) ((i4 a b f Cn h g).trans (by rw[Ar];rfl))
noncomputable def F:=u3 Atf
theorem rn x:H.u P_ x=F x:=Eq.trans (b:=u3 (Ave x4) x) (by kernel_rfl) (by simp only[e4]<;>rfl)
noncomputable def c:Con:=⟨H.p,H.r,F⟩
theorem ok:ConOk P_ gl 163 c:=co H func163 (.cons F157.ok .nil) rn
end F163
namespace F162
noncomputable def H:Hd:=⟨[Sb,Sq],[.agg [Si,Si],Sz], .d,⟨[(52,F52.c),(101,F101.c),(163,F163.c)],gl,false⟩,[],f162⟩
noncomputable def F:=u2 Ag3
theorem rn x:H.u P_ x=F x:=by kernel_rfl
noncomputable def c:Con:=⟨H.p,H.r,F⟩
theorem ok:ConOk P_ gl 162 c:=co H func162 (.cons F52.ok (.cons F101.ok (.cons F163.ok .nil))) rn
end F162
namespace F192
noncomputable def H:Hd:=⟨[Sb],[Si,Si], .d,⟨[(52,F52.c),(161,F161.c),(162,F162.c),(163,F163.c)],gl,false⟩,[],f192⟩
noncomputable def F:=Att
theorem rn x:H.u P_ x=F x:=by kernel_rfl
noncomputable def c:Con:=⟨H.p,H.r,F⟩
theorem ok:ConOk P_ gl 192 c:=co H func192 (.cons F52.ok (.cons F161.ok (.cons F162.ok (.cons F163.ok .nil)))) rn
end F192
namespace F152
noncomputable def H:Hd:=⟨[Sb],[Si,Si], .d,⟨[(191,F191.c),(192,F192.c)],gl,false⟩,[],f152⟩
noncomputable def F:=Sy
theorem rn x:H.u P_ x=F x:=by kernel_rfl
noncomputable def c:Con:=⟨H.p,H.r,F⟩
theorem ok:ConOk P_ gl 152 c:=co H func152 (.cons F191.ok (.cons F192.ok .nil)) rn
end F152
theorem As2:ConOk Tryz.prog gl 55 Adl:=Bcp ent55 F152.ok
namespace F153
noncomputable def H:Hd:=⟨[Ss,Ss],[Sz], .d,⟨[],gl,false⟩,[],f153⟩
noncomputable def F:=u2 Hr
theorem rn x:H.u P_ x=F x:=by kernel_rfl
noncomputable def c:Con:=⟨H.p,H.r,F⟩
theorem ok:ConOk P_ gl 153 c:=co H func153 .nil rn
end F153
namespace F100
noncomputable def H:Hd:=⟨[Ss,Ss],[Sz], .d,⟨[(153,F153.c)],gl,false⟩,[],f100⟩
noncomputable def F:=u2 Qo
theorem rn x:H.u P_ x=F x:=by kernel_rfl
noncomputable def c:Con:=⟨H.p,H.r,F⟩
theorem ok:ConOk P_ gl 100 c:=co H func100 (.cons F153.ok .nil) rn
end F100
namespace F56
abbrev R_:=(Int×Int×Int×Int×Int×Int)
noncomputable def H:Hd:=⟨[Sb],[.agg [Si,Si,Si,Si,Si],Si],(.seq .d (.seq .d (.seq .d (.seq .d (.seq .d (.seq .d (.seq .d (.cut [2,8] [] (.seq .d (.blk (.loop [0,2,8,9,44,45] [] .d))) .d)))))))),⟨[(100,F100.c),(101,F101.c),(102,F102.c),(103,F103.c),(104,F104.c)],gl,false⟩,[],f56⟩
def t4(b:LB)(g f:Int)(a:LI):S:=⟨[(0,vb b),(2, .ptr 0 []),(8, .ptr 1 []),(9,vi g),(44, .val (.vec 5 (.int .i64)) ([(2:Int),(2:Int),(2:Int),(4:Int),(4:Int)]:LI)),(45,vi f)],[.box 27 (.agg [vi 0,vi 0,vi 0,vi 0,vi 0]), .box 157 (.val (.vec 5 (.int .i64)) a)],[]⟩
def z4:Nat→S→Option R_:=H.i P_ [r,r,r,r,r,r,r,l,r,d]
def x6(a:LI):Option R_:=H.e P_ [r,r,r,r,r,r,r,r] ⟨[(2, .ptr 0 []),(8, .ptr 1 [])],[.box 27 (.agg [vi 0,vi 0,vi 0,vi 0,vi 0]), .box 157 (.val (.vec 5 (.int .i64)) a)],[]⟩
def x4(b:LB)(g f:Int)(a:LI):Option R_:=H.e P_ [r,r,r,r,r,r,r,l,r,d] (t4 b g f a)
theorem e6:x6=Aau:=by kernel_rfl
theorem i4(b:LB):∀(q:Nat) (g f:Int) (a:LI),z4 q (t4 b g f a)=Kg b q g f a:=
 ind (fun _ _ _=>by kernel_rfl) fun q ih g f a=>Eq.trans (b:=Zs x6 (fun g f a=>(z4 q) (t4 b g f a)) b g f a) (by kernel_rfl) (by simp only[e6,ih]<;>rfl)
theorem e4:x4=Zi:=by funext b g f a;exact Eq.trans (by kernel_rfl) ((i4 b Cn g f a).trans (by rw[Ar];rfl))
noncomputable def F:=Ad4
theorem rn x:H.u P_ x=F x:=Eq.trans (b:=Ahb x4 x) (by kernel_rfl) (by simp only[e4]<;>rfl)
noncomputable def c:Con:=⟨H.p,H.r,F⟩
theorem ok:ConOk P_ gl 56 c:=co H func56 (.cons F100.ok (.cons F101.ok (.cons F102.ok (.cons F103.ok (.cons F104.ok .nil))))) rn
end F56
namespace F57
noncomputable def H:Hd:=⟨[Sb,Ss],[Sz,Si], .d,⟨[(52,F52.c),(105,F105.c)],gl,false⟩,[],f57⟩
noncomputable def F:=u2 Tq
theorem rn x:H.u P_ x=F x:=by kernel_rfl
noncomputable def c:Con:=⟨H.p,H.r,F⟩
theorem ok:ConOk P_ gl 57 c:=co H func57 (.cons F52.ok (.cons F105.ok .nil)) rn
end F57
namespace F58
noncomputable def H:Hd:=⟨[.agg [Si,Si,Si,Si,Si]],[Ol 3,Si], .d,⟨[(106,F106.c),(107,F107.c)],gl,false⟩,[],f58⟩
noncomputable def F:=u5 Jn
theorem rn x:H.u P_ x=F x:=by kernel_rfl
noncomputable def c:Con:=⟨H.p,H.r,F⟩
theorem ok:ConOk P_ gl 58 c:=co H func58 (.cons F106.ok (.cons F107.ok .nil)) rn
end F58
namespace F59
abbrev R_:=(LI×Int)
noncomputable def H:Hd:=⟨[Sb,Si],[Ol 3,Si],(.seq .d (.seq .d (.seq .d (.seq .d (.seq .d (.seq .d (.cut [10] [] (.seq .d (.blk (.loop [0,10,48,49] [] .d))) .d))))))),⟨[(85,F85.c),(101,F101.c),(102,F102.c)],gl,false⟩,[],f59⟩
def t4(b:LB)(f:LI)(g:Int)(a:LI):S:=⟨[(0,vb b),(10, .own 0),(48,vi (Ac f)),(49,vi g)],[Ai 3 a],[]⟩
def z4:Nat→S→Option R_:=H.i P_ [r,r,r,r,r,r,l,r,d]
def x6(a:LI):Option R_:=H.e P_ [r,r,r,r,r,r,r] ⟨[(10, .own 0)],[Ai 3 a],[]⟩
def x4(b:LB)(f:LI)(g:Int)(a:LI):Option R_:=H.e P_ [r,r,r,r,r,r,l,r,d] (t4 b f g a)
theorem e6:x6=Adn:=by kernel_rfl
theorem i4(b:LB)(f:LI):∀(q:Nat) (g:Int) (a:LI),z4 q (t4 b f g a)=Pf b f q g a:=
 ind (fun _ _=>by kernel_rfl) fun q ih g a=>Eq.trans (b:=Adi x6 (fun g a=>(z4 q) (t4 b f g a)) b f g a) (by kernel_rfl) (by simp only[e6,ih]<;>rfl)
theorem e4:x4=All:=by funext b f g a;exact Eq.trans (by kernel_rfl) ((i4 b f Cn g a).trans (by rw[Ar];rfl))
noncomputable def F:=u2 Ahn
theorem rn x:H.u P_ x=F x:=Eq.trans (b:=u2 (Ak6 x4) x) (by kernel_rfl) (by simp only[e4]<;>rfl)
noncomputable def c:Con:=⟨H.p,H.r,F⟩
theorem ok:ConOk P_ gl 59 c:=co H func59 (.cons F85.ok (.cons F101.ok (.cons F102.ok .nil))) rn
end F59
namespace F21
abbrev R_:=(Int×Int×Int×Int×Int×Int×LI×Int)
noncomputable def H:Hd:=⟨[Sb,Ss],[.agg [.agg [Si,Si,Si,Si,Si],Si,Ol 3],Si],(.seq .d (.seq .d (.seq .d (.seq .d (.seq .d (.seq .d (.seq .d (.seq .d (.seq .d (.cut [0,4,6,8] [] .d .d)))))))))),⟨[(55,Adl),(56,F56.c),(57,F57.c),(58,F58.c),(59,F59.c)],gl,false⟩,[],f21⟩
def x2(a:LB)(b f g h k n:Int):Option R_:=H.e P_ [r,r,r,r,r,r,r,r,r,r] ⟨[(0,vb a),(4, .ptr 0 []),(6,vi n),(8, .ptr 1 [])],[.box 46 (.agg [.agg [vi 0,vi 0,vi 0,vi 0,vi 0],vi 0, .nils]), .box 27 (.agg [vi b,vi f,vi g,vi h,vi k])],[]⟩
theorem e2:x2=Mt:=by kernel_rfl
noncomputable def F:=u2 seekto_Open
theorem rn x:H.u P_ x=F x:=Eq.trans (b:=u2 (Rm x2) x) (by kernel_rfl) (by simp only[e2]<;>rfl)
noncomputable def c:Con:=⟨H.p,H.r,F⟩
theorem ok:ConOk P_ gl 21 c:=co H func21 (.cons As2 (.cons F56.ok (.cons F57.ok (.cons F58.ok (.cons F59.ok .nil))))) rn
end F21
namespace F108
abbrev R_:=(LI×Int)
abbrev K_:=S→Option R_
noncomputable def H:Hd:=⟨[Sl],[Ol 3,Si],(.seq .d (.seq .d (.seq .d (.seq .d (.seq .d (.cut [7] [] (.seq .d (.blk (.loop [6,7,17,18,19] [] (.seq .d (.seq .d (.cut [6,7,17,18,19] [] (.blk (.seq .d (.keep [6,7,9,17,18,19,23,24,25,26,27,28] true))) .d)))))) .d)))))),⟨[(85,F85.c)],gl,false⟩,[(160, .d)],f108⟩
def t6(a:LI)(b g:Int)(f:LI):S:=⟨[(6, .fn 160 [.ptr 0 []]),(7, .own 1),(17,vl a),(18,vi (Ac a)),(19,vi b)],[.box 3 (vi g),Ai 3 f],[]⟩
def z6:Nat→S→Option R_:=H.i P_ [r,r,r,r,r,l,r,d]
def x10(f:LI):Option R_:=H.e P_ [r,r,r,r,r,r] ⟨[(7, .own 0)],[Ai 3 f],[]⟩
def x8(kn6:K_)(a:LI)(b g h:Int)(k:LI):Option R_:=H.e P_ [r,r,r,r,r,l,r,d,(lp kn6),r,r,r] ⟨[(6, .fn 160 [.ptr 0 []]),(7, .own 1),(17,vl a),(18,vi (Ac a)),(19,vi b)],[.box 3 (vi (Ae g h)),Ai 3 k],[]⟩
def x6(a:LI)(b g:Int)(f:LI):Option R_:=H.e P_ [r,r,r,r,r,l,r,d] (t6 a b g f)
theorem e10:x10=Ajy:=by kernel_rfl
theorem e8(kn6:K_)(a:LI):x8 kn6 a=Ac2 (fun b g f=>kn6 (t6 a b g f)) a:=by kernel_rfl
theorem i6(a:LI):∀(q:Nat) (b g:Int) (f:LI),z6 q (t6 a b g f)=Jp a q b g f:=
 ind (fun _ _ _=>by kernel_rfl) fun q ih b g f=>Eq.trans (b:=To (x8 (z6 q) a) x10 a b g f) (by kernel_rfl) (by simp only[e8,e10,ih]<;>rfl)
theorem e6:x6=Al8:=by funext a b g f;exact Eq.trans (by kernel_rfl) ((i6 a Cn b g f).trans (by rw[Ar];rfl))
noncomputable def F:=Adb
theorem rn x:H.u P_ x=F x:=Eq.trans (b:=Ace x6 x) (by kernel_rfl) (by simp only[e6]<;>rfl)
noncomputable def c:Con:=⟨H.p,H.r,F⟩
theorem ok:ConOk P_ gl 108 c:=cr H func108 (.cons F85.ok .nil) (AnsOk.cons ent160 AnsOk.nil) rn
end F108
namespace F115
noncomputable def H:Hd:=⟨[Sb],[Sb,Si], .d,⟨[(102,F102.c),(154,F154.c)],gl,false⟩,[],f115⟩
noncomputable def F:=Aa3
theorem rn x:H.u P_ x=F x:=by kernel_rfl
noncomputable def c:Con:=⟨H.p,H.r,F⟩
theorem ok:ConOk P_ gl 115 c:=co H func115 (.cons F102.ok (.cons F154.ok .nil)) rn
end F115
namespace F116
noncomputable def H:Hd:=⟨[Sb],[.agg [Ob 5,Si],Si], .d,⟨[(150,F150.c)],gl,false⟩,[],f116⟩
noncomputable def F:=Bja
theorem rn x:H.u P_ x=F x:=by kernel_rfl
noncomputable def c:Con:=⟨H.p,H.r,F⟩
theorem ok:ConOk P_ gl 116 c:=co H func116 (.cons F150.ok .nil) rn
end F116
namespace F169
abbrev R_:=UInt64
noncomputable def H:Hd:=⟨[.agg [Sb,Si],Si,Si],[Sq],(.seq .d (.seq .d (.cut [7] [] (.blk (.loop [1,2,3,7,8] [] .d)) .d))),⟨[],gl,false⟩,[],f169⟩
def t4(b f:Int)(h:LB)(k:Int)(g:UInt64)(a:Int):S:=⟨[(1,vi b),(2,vi f),(3, .ptr 0 []),(7,vq g),(8,vi a)],[.box 170 (.agg [vb h,vi k])],[]⟩
def z4:Nat→S→Option R_:=H.i P_ [r,r,l,d]
def x6(g:UInt64):Option R_:=H.e P_ [r,r,r] ⟨[(7,vq g)],[],[]⟩
def x4(b f:Int)(h:LB)(k:Int)(g:UInt64)(a:Int):Option R_:=H.e P_ [r,r,l,d] (t4 b f h k g a)
theorem e6:x6=Baf:=by kernel_rfl
theorem i4(b f:Int)(h:LB)(k:Int):∀(q:Nat) (g:UInt64) (a:Int),z4 q (t4 b f h k g a)=Afd b f h k q g a:=
 ind (fun _ _=>by kernel_rfl) fun q ih g a=>Eq.trans (b:=Asx x6 (fun g a=>(z4 q) (t4 b f h k g a)) b f h k g a) (by kernel_rfl) (by simp only[e6,ih]<;>rfl)
theorem e4:x4=Baq:=by funext b f h k g a;exact Eq.trans (by kernel_rfl) ((i4 b f h k Cn g a).trans (by rw[Ar];rfl))
noncomputable def F:=u4 Ax7
theorem rn x:H.u P_ x=F x:=Eq.trans (b:=u4 (Ba5 x4) x) (by kernel_rfl) (by simp only[e4]<;>rfl)
noncomputable def c:Con:=⟨H.p,H.r,F⟩
theorem ok:ConOk P_ gl 169 c:=co H func169 .nil rn
end F169
namespace F166
abbrev R_:=(LB×Int×Int)
abbrev K_:=S→Option R_
noncomputable def H:Hd:=⟨[.agg [Sb,Si],Si,Si],[.agg [Ob 5,Si],Si],(.seq .d (.seq .d (.seq .d (.seq .d (.cut [6,8] [] (.seq .d (.blk (.loop [2,3,6,8,9] [⟨8,[0], .own 5 (.int .u8)⟩] (.seq .d (.cut [2,3,6,8,9] [] (.blk (.seq .d (.keep [2,3,6,8,9,10,39,40,41,42,43] true))) .d))))) .d))))),⟨[(168,F168.c),(169,F169.c)],gl,false⟩,[(199,(.blk (.loop [0,1,2] [] (.seq .d (.blk (.cut [0,1,2] [] .d (.seq .d (.cut [0,1,2,7] [] .d .d))))))))],f166⟩
def t44(a:Int)(g:LB)(f b:Int)(k n:UInt64)(m h:Int)(u:LB):S:=⟨[(0, .ptr 0 []),(1,vq n),(2,vi m)],[.box 170 (.agg [.own 3,vi h]), .box 170 (.agg [vb g,vi f]), .box 170 (.agg [.nils,vi 0]),Ab 5 u],[[(2,vi a),(3, .ptr 1 []),(6, .ptr 2 []),(8, .ptr 0 []),(9,vi b),(10,vi (Dk (64:Int) (Ah a b))),(39, .agg [vb g,vi f]),(40,vi b),(41,vi (Dk (64:Int) (Ah a b))),(42,vq k),(43,vi (Dk (64:Int) (Ah a b)))]]⟩
def z44(kn27:K_):Nat→S→Option R_:=H.i P_ [r,r,r,r,l,r,d,(lp kn27),r,l,d,r,(call 5 199),d]
def t27(a:Int)(g:LB)(f b o:Int)(p:LB):S:=⟨[(2,vi a),(3, .ptr 0 []),(6, .ptr 1 []),(8, .ptr 2 []),(9,vi b)],[.box 170 (.agg [vb g,vi f]), .box 170 (.agg [.nils,vi 0]), .box 170 (.agg [.own 3,vi o]),Ab 5 p],[]⟩
def z27:Nat→S→Option R_:=H.i P_ [r,r,r,r,l,r,d]
def x52(o:Int)(p:LB):Option R_:=H.e P_ [r,r,r,r,r] ⟨[(6, .ptr 0 []),(8, .ptr 1 [])],[.box 170 (.agg [.nils,vi 0]), .box 170 (.agg [.own 2,vi o]),Ab 5 p],[]⟩
def x50(kn27:K_)(a:Int)(g:LB)(f b h:Int)(u:LB):Option R_:=H.e P_ [r,r,r,r,l,r,d,(lp kn27),r,r] ⟨[(2,vi a),(3, .ptr 0 []),(6, .ptr 1 []),(8, .ptr 2 []),(9,vi b)],[.box 170 (.agg [vb g,vi f]), .box 170 (.agg [.nils,vi 0]), .box 170 (.agg [.own 3,vi h]),Ab 5 u],[]⟩
def x48(kn27 kn44:K_)(a b:Int)(g:LB)(f:Int)(k n:UInt64)(m h:Int)(w:LB):Option R_:=H.e P_ [r,r,r,r,l,r,d,(lp kn27),r,l,d,r,(call 5 199),d,(lp kn44),r,d,r,r,r] ⟨[(0, .ptr 0 []),(1,vq n),(2,vi m),(7,vi (Dk m (Ah (8:Int) (Dd h (7:Int)))))],[.box 170 (.agg [.own 3,vi h]), .box 170 (.agg [vb g,vi f]), .box 170 (.agg [.nils,vi 0]),Ab 5 w],[[(2,vi a),(3, .ptr 1 []),(6, .ptr 2 []),(8, .ptr 0 []),(9,vi b),(10,vi (Dk (64:Int) (Ah a b))),(39, .agg [vb g,vi f]),(40,vi b),(41,vi (Dk (64:Int) (Ah a b))),(42,vq k),(43,vi (Dk (64:Int) (Ah a b)))]]⟩
def x47(kn27 kn44:K_)(a b:Int)(g:LB)(f:Int)(k n:UInt64)(m h:Int)(v:LB):Option R_:=H.e P_ [r,r,r,r,l,r,d,(lp kn27),r,l,d,r,(call 5 199),d,(lp kn44),r,d,r] ⟨[(0, .ptr 0 []),(1,vq n),(2,vi m)],[.box 170 (.agg [.own 3,vi h]), .box 170 (.agg [vb g,vi f]), .box 170 (.agg [.nils,vi 0]),Ab 5 v],[[(2,vi a),(3, .ptr 1 []),(6, .ptr 2 []),(8, .ptr 0 []),(9,vi b),(10,vi (Dk (64:Int) (Ah a b))),(39, .agg [vb g,vi f]),(40,vi b),(41,vi (Dk (64:Int) (Ah a b))),(42,vq k),(43,vi (Dk (64:Int) (Ah a b)))]]⟩
def x44(kn27:K_)(a:Int)(g:LB)(f b:Int)(k n:UInt64)(m h:Int)(u:LB):Option R_:=H.e P_ [r,r,r,r,l,r,d,(lp kn27),r,l,d,r,(call 5 199),d] (t44 a g f b k n m h u)
def x27(a:Int)(g:LB)(f b o:Int)(p:LB):Option R_:=H.e P_ [r,r,r,r,l,r,d] (t27 a g f b o p)
theorem e52:x52=Aof:=by kernel_rfl
theorem e50(kn27:K_)(a:Int)(g:LB)(f:Int):x50 kn27 a g f=Agm (fun b o p=>kn27 (t27 a g f b o p)) a g f:=by kernel_rfl
theorem e48(kn27 kn44:K_)(a:Int)(g:LB)(f b:Int)(k:UInt64):x48 kn27 kn44 a b g f k=Anh (fun n m h u=>kn44 (t44 a g f b k n m h u)) a b g f k:=by kernel_rfl
theorem e47(kn27 kn44:K_)(a:Int)(g:LB)(f b:Int)(k:UInt64):x47 kn27 kn44 a b g f k=Agi (fun n m h u=>kn44 (t44 a g f b k n m h u)) a b g f k:=Eq.trans (b:=Aor (x48 kn27 kn44 a b g f k) a b g f k) (by kernel_rfl) (by simp only[e48]<;>rfl)
theorem i44(kn27:K_)(a:Int)(g:LB)(f b:Int)(k:UInt64):∀(q:Nat) (n:UInt64) (m h:Int) (u:LB),z44 kn27 q (t44 a g f b k n m h u)=Lo (fun b o p=>kn27 (t27 a g f b o p)) a g f b k q n m h u:=
 ind (fun _ _ _ _=>by kernel_rfl) fun q ih n m h u=>Eq.trans (b:=Agp (x47 kn27 (z44 kn27 q) a b g f k) (x50 kn27 a g f) a g f b k n m h u) (by kernel_rfl) (by simp only[e47,e50,ih]<;>rfl)
theorem e44(kn27:K_)(a:Int)(g:LB)(f:Int):x44 kn27 a g f=Ao2 (fun b o p=>kn27 (t27 a g f b o p)) a g f:=by funext b k n m h u;exact Eq.trans (by kernel_rfl) ((i44 kn27 a g f b k Cn n m h u).trans (by rw[Ar];rfl))
theorem i27(a:Int)(g:LB)(f:Int):∀(q:Nat) (b o:Int) (p:LB),z27 q (t27 a g f b o p)=Tm a g f q b o p:=
 ind (fun _ _ _=>by kernel_rfl) fun q ih b o p=>Eq.trans (b:=Anf (x44 (z27 q) a g f) x52 a g f b o p) (by kernel_rfl) (by simp only[e44,e52,ih]<;>rfl)
theorem e27:x27=Aoj:=by funext a g f b o p;exact Eq.trans (by kernel_rfl) ((i27 a g f Cn b o p).trans (by rw[Ar];rfl))
noncomputable def F:=u4 Asb
theorem rn x:H.u P_ x=F x:=Eq.trans (b:=u4 (Aqp x27) x) (by kernel_rfl) (by simp only[e27]<;>rfl)
noncomputable def c:Con:=⟨H.p,H.r,F⟩
theorem ok:ConOk P_ gl 166 c:=cr H func166 (.cons F168.ok (.cons F169.ok .nil)) (AnsOk.cons ent199 AnsOk.nil) rn
end F166
namespace F118
noncomputable def H:Hd:=⟨[.agg [Sb,Si],Si,Si],[Sq,Si], .d,⟨[(168,F168.c),(169,F169.c)],gl,false⟩,[],f118⟩
noncomputable def F:=u4 Za
theorem rn x:H.u P_ x=F x:=by kernel_rfl
noncomputable def c:Con:=⟨H.p,H.r,F⟩
theorem ok:ConOk P_ gl 118 c:=co H func118 (.cons F168.ok (.cons F169.ok .nil)) rn
end F118
namespace F270
noncomputable def H:Hd:=⟨[Sq],[Si], .d,⟨[],gl,false⟩,[],f270⟩
noncomputable def F:=Ew
theorem rn x:H.u P_ x=F x:=by kernel_rfl
noncomputable def c:Con:=⟨H.p,H.r,F⟩
theorem ok:ConOk P_ gl 270 c:=co H func270 .nil rn
end F270
namespace F237
def Aja(j6:Int→UInt64→Int→LB→Int→Option (Int×Int×Int))(g:LB)(b a:Int):Option (Int×Int×Int):=
(Ht g b).bind fun m=>
if(Bb m 0)then
some (0,0,m)
else
if(Bv a 0)then
some (0,0,2)
else
if(Jr a b)then
some (0,0,24)
else
(fun n:Option (Int×Int×Int)=>
(fun o:Option (Int×Int×Int)=>
bo2 (
o)) (
bo (
n))) (
(Za g b a (Dk 48 (Ah b a))).bind fun(k,h)=>
j6 h k a g b)
theorem Awr: @Aja= @Vh:=by
  unfold Aja Vh
  simp only[Az9,Ars,Aro]
abbrev R_:=(Int×Int×Int)
noncomputable def H:Hd:=⟨[.agg [Sb,Si],Si],[Si,Si,Si],(.seq .d (.seq .d (.seq .d (.seq .d (.seq .d (.cut [3,5,6,8,9] [] (.keep [2,3,5,6,8,9,22,23,24,25,26,27,28,29] false) (.seq .d (.seq .d (.cut [] [] (.blk (.seq (.blk (.seq (.blk (.cut [] [] (.cut [3,4,5] [] (.cut [3,4,5,36] [] (.keep [3,4,5,8,36,37,38,39,40] true) .d) .d) .d)) .d)) .d)) .d))))))))),⟨[(118,F118.c),(168,F168.c),(270,F270.c)],gl,false⟩,[(269, .d)],f237⟩
def x10:Option R_:=H.e P_ [r,r,r,r,r,r,r,r,r] ⟨[],[],[]⟩
def x9:Option R_:=H.e P_ [r,r,r,r,r,r,r,r,l,d,l,d,l,d,r] ⟨[],[],[]⟩
def x8(f a:Int):Option R_:=H.e P_ [r,r,r,r,r,r,r,r,l,d,l,d,l,d,l,r] ⟨[(3, .ptr 0 []),(4,vi f),(5,vi 0)],[.box 3 (vi a)],[]⟩
def x7(f b a:Int):Option R_:=H.e P_ [r,r,r,r,r,r,r,r,l,d,l,d,l,d,l,l,r] ⟨[(3, .ptr 0 []),(4,vi f),(5,vi 0),(36,vt (Bv f (Dk (48:Int) (Ah b a))))],[.box 3 (vi a)],[]⟩
def x6(h:Int)(k:UInt64)(a:Int)(g:LB)(b:Int):Option R_:=H.e P_ [r,r,r,r,r,r] ⟨[(3, .ptr 0 []),(5,vi 0),(6,vi h),(8, .fn 269 [.ptr 1 [], .ptr 0 []]),(9,vq k)],[.box 3 (vi a), .box 170 (.agg [vb g,vi b])],[]⟩
theorem e10:x10=Ari:=by kernel_rfl
theorem e9:x9=Aug:=Eq.trans (b:=Auc x10) (by kernel_rfl) (by simp only[e10]<;>rfl)
theorem e8:x8=Akz:=Eq.trans (b:=Akt x9) (by kernel_rfl) (by simp only[e9]<;>rfl)
theorem e7:x7=Als:=Eq.trans (b:=Ald x8) (by kernel_rfl) (by simp only[e8]<;>rfl)
theorem e6:x6=Ak1:=Eq.trans (b:=Aky x7) (by kernel_rfl) (by simp only[e7]<;>rfl)
noncomputable def F:=u3 Acp
theorem rn x:H.u P_ x=F x:=Eq.trans (b:=u3 (Aja x6) x) (by kernel_rfl) (by unfold F;rw[Awr];simp only[e6]<;>rfl)
noncomputable def c:Con:=⟨H.p,H.r,F⟩
theorem ok:ConOk P_ gl 237 c:=cr H func237 (.cons F118.ok (.cons F168.ok (.cons F270.ok .nil))) (AnsOk.cons ent269 AnsOk.nil) rn
end F237
namespace F201
abbrev R_:=(UInt32×Int×Int)
noncomputable def H:Hd:=⟨[.agg [Sb,Si],Si,Si],[Su,Si,Si],(.seq .d (.seq .d (.seq .d (.seq .d (.seq .d (.seq .d (.cut [2,3,7,10,11] [] .d .d))))))),⟨[(118,F118.c),(168,F168.c),(237,F237.c),(238,F238.c)],gl,false⟩,[],f201⟩
def x2(a b f:Int)(g:LB)(h k:Int):Option R_:=H.e P_ [r,r,r,r,r,r,r] ⟨[(2,vi a),(3, .ptr 0 []),(7,vi b),(10,vi f),(11,vi k)],[.box 170 (.agg [vb g,vi h])],[]⟩
theorem e2:x2=Agq:=by kernel_rfl
noncomputable def F:=u4 Atv
theorem rn x:H.u P_ x=F x:=Eq.trans (b:=u4 (Aoy x2) x) (by kernel_rfl) (by simp only[e2]<;>rfl)
noncomputable def c:Con:=⟨H.p,H.r,F⟩
theorem ok:ConOk P_ gl 201 c:=co H func201 (.cons F118.ok (.cons F168.ok (.cons F237.ok (.cons F238.ok .nil)))) rn
end F201
namespace F167
abbrev R_:=(UInt32×Int×Int×Int×UInt64×UInt64×Int)
noncomputable def H:Hd:=⟨[.agg [Sb,Si],Si, .agg [Si,Si,Sq,Sq]],[Su,Si, .agg [Si,Si,Sq,Sq],Si],(.seq .d (.cut [1,3,5,8] [] .d (.seq .d (.seq .d (.cut [5,6,7,8] [] .d (.cut [5,6,7,8] [] (.keep [5,6,7,8,81] true) .d)))))),⟨[(118,F118.c),(168,F168.c),(200,F200.c),(201,F201.c),(240,F240.c)],gl,false⟩,[(202,(.seq .d (.seq .d (.seq .d (.blk (.cut [0,1,4] [] (.blk (.seq .d (.keep [0,1,4,6,18,19,20,21,22,23,24,25] true))) (.cut [] [] (.keep [0,1,4,27,28,29,30,31,32,33,34] true) .d))))))),(239, .d)],f167⟩
def x10(f:UInt32)(k w m:Int)(a n:UInt64):Option R_:=H.e P_ [r,r,r,r,r,r] ⟨[(5, .ptr 0 []),(6,vu f),(7,vi k),(8, .ptr 1 [])],[.box 225 (.agg [vi w,vi m,vq (Ae a (Ah (Ad f:UInt64) (Bk a (GI.toZ (4:UInt64)).toNat))),vq n]), .box 225 (.agg [vi 0,vi 0,vq 0,vq 0])],[]⟩
def x9(f:UInt32)(k m:Int)(a n:UInt64)(w:Int):Option R_:=H.e P_ [r,r,r,r,r,l,(call 1 202),r,r,r,d,r,r] ⟨[],[.box 225 (.agg [vi w,vi m,vq (Ae a (Ah (Ad f:UInt64) (Bk a (GI.toZ (4:UInt64)).toNat))),vq n]), .box 225 (.agg [vi 0,vi 0,vq 0,vq 0])],[[(5, .ptr 0 []),(6,vu f),(7,vi k),(8, .ptr 1 []),(81,vu f)]]⟩
def x8(f:UInt32)(k b:Int)(a:UInt64)(m:Int)(n:UInt64):Option R_:=H.e P_ [r,r,r,r,r,l,(call 1 202),r,r,r,d,r] ⟨[(0, .ptr 0 []),(1,vu f),(4, .fn 239 [])],[.box 225 (.agg [vi b,vi m,vq a,vq n]), .box 225 (.agg [vi 0,vi 0,vq 0,vq 0])],[[(5, .ptr 0 []),(6,vu f),(7,vi k),(8, .ptr 1 []),(81,vu f)]]⟩
def x7(b h:Int)(a g:UInt64)(f:UInt32)(k:Int):Option R_:=H.e P_ [r,r,r,r,r] ⟨[(5, .ptr 0 []),(6,vu f),(7,vi k),(8, .ptr 1 [])],[.box 225 (.agg [vi b,vi h,vq a,vq g]), .box 225 (.agg [vi 0,vi 0,vq 0,vq 0])],[]⟩
def x6(p:Int)(u:LB)(v b h:Int)(a g:UInt64):Option R_:=H.e P_ [r,r] ⟨[(1,vi p),(3, .ptr 0 []),(5, .ptr 1 []),(8, .ptr 2 [])],[.box 170 (.agg [vb u,vi v]), .box 225 (.agg [vi b,vi h,vq a,vq g]), .box 225 (.agg [vi 0,vi 0,vq 0,vq 0])],[]⟩
theorem e10:x10=Akx:=by kernel_rfl
theorem e9:x9=Anu:=Eq.trans (b:=An0 x10) (by kernel_rfl) (by simp only[e10]<;>rfl)
theorem e8:x8=Zf:=Eq.trans (b:=Aow x9) (by kernel_rfl) (by simp only[e9]<;>rfl)
theorem e7:x7=Agr:=Eq.trans (b:=Ani x8) (by kernel_rfl) (by simp only[e8]<;>rfl)
theorem e6:x6=Aom:=Eq.trans (b:=An7 x7) (by kernel_rfl) (by simp only[e7]<;>rfl)
noncomputable def F:=u7 Acr
theorem rn x:H.u P_ x=F x:=Eq.trans (b:=u7 (Ann x6) x) (by kernel_rfl) (by simp only[e6]<;>rfl)
noncomputable def c:Con:=⟨H.p,H.r,F⟩
theorem ok:ConOk P_ gl 167 c:=cr H func167 (.cons F118.ok (.cons F168.ok (.cons F200.ok (.cons F201.ok (.cons F240.ok .nil))))) (AnsOk.cons ent202 (AnsOk.cons ent239 AnsOk.nil)) rn
end F167
namespace F117
def Uh(j21:Int→Int→Int→UInt32→Int→(List (Int×Int×UInt64×UInt64×Unit))→LU→Int→Int→UInt64→UInt64→Option (LU×Int×Int))(j24:Int→LU→Option (LU×Int×Int))(a f:Int)(g:LB)(b k h:Int)(n:List (Int×Int×UInt64×UInt64×Unit))(m:LU):Option (LU×Int×Int):=
if(Bv h (Ay f a))then
(Asb g b k (Dk (Ae k 81) b)).bind fun(ah,ae,af)=>
if(Bb af 0)then
some (([]:LU),0,af)
else
(Gk (Bb a 0)).bind fun _=>
(getI n (Fb h a)).bind fun _=>
(fun ai:Option (LU×Int×Int)=>
both (
both (
(getI n (Fb h a)).bind fun p=>
(fun ao:Option (LU×Int×Int)=>
bo (
ao)) (
(Acr ah ae 0 p.1 p.2.1 p.2.2.1 p.2.2.2.1).bind fun(w,v,aa,ab,ac,ad,y)=>
j21 k h y w v n m aa ab ac ad)) [
ai]) [
(getI n (Fb h a)).bind fun p=>
(fun aj:Option (LU×Int×Int)=>
both (
bo (
aj)) [
aj]) (
(Acr ah ae 0 p.1 p.2.1 p.2.2.1 p.2.2.2.1).bind fun(w,v,aa,ab,ac,ad,y)=>
j21 k h y w v n m aa ab ac ad),
bo (
ai)]) (
(getI n (Fb h a)).bind fun p=>
(Acr ah ae 0 p.1 p.2.1 p.2.2.1 p.2.2.2.1).bind fun(w,v,aa,ab,ac,ad,y)=>
j21 k h y w v n m aa ab ac ad)
else
j24 k m
theorem Aok: @Uh= @Oe:=by
  unfold Uh Oe
  try simp only[Az9,Ars,Aro]
  all_goals
    repeat (refine funext fun _=>?_)
    repeat' first
      |with_reducible rfl
      |with_reducible refine Tg ?_ ?_
      |with_reducible refine Ru ?_ ?_ ?_
      |with_reducible refine Sr ?_ ?_ ?_ ?_
      |((with_reducible refine Abg ?_ ?_);focus (intro h;first|(subst h;rfl)|(simp only[h];rfl)|(simp[Ed,Ac,h];done)))
      |with_reducible refine Aav fun x=>?_
      |with_reducible refine Aji (fun _=>?_) (fun _=>?_)
      |(refine Ki (fun h=>by simp only[h,Aa1,Gy,Ge,ite_self]) (fun x h=>?_);(try simp only[h,Gy]))
      |(refine Mz (fun h=>?_) (fun h=>?_)<;>simp only[h,if_true,if_false,Bool.false_eq_true])
abbrev R_:=(LU×Int×Int)
abbrev K_:=S→Option R_
noncomputable def H:Hd:=⟨[Si,Si, .agg [Sb,Si]],[Ov 154,Si,Si],(.seq .d (.seq .d (.cut [0,1,5,9] [] (.seq .d (.blk (.loop [0,1,5,9,19] [] .d))) (.seq .d (.seq .d (.cut [11,12] [] (.seq .d (.blk (.loop [0,5,9,11,12,28,29] [⟨11,[], .own 154 (.int .u32)⟩] (.seq .d (.seq .d (.seq (.blk (.seq .d (.seq .d (.seq .d (.cut [0,5,9,11,12,13,15,16,17,18,28,29] [] (.mode false) (.seq .d (.cut [0,5,9,11,12,16,28,29] [] .d .d))))))) .d)))))) .d)))))),⟨[(165,F165.c),(166,F166.c),(167,F167.c)],gl,false⟩,[],f117⟩
def t16(a f:Int)(g:LB)(b k h:Int)(n:List (Int×Int×UInt64×UInt64×Unit))(m:LU):S:=⟨[(0,vi a),(5, .ptr 0 []),(9, .ptr 1 []),(11, .own 2),(12,vi k),(28,vi (Ay f a)),(29,vi h)],[.box 170 (.agg [vb g,vi b]), .box 226 (.val (.vec 6 (.cons (.int .i64) (.cons (.int .i64) (.cons (.int .u64) (.cons (.int .u64) .nil))))) n),Av 154 m],[]⟩
def z16:Nat→S→Option R_:=H.i P_ [r,r,r,r,r,l,r,d]
def t13(a f:Int)(g:LB)(b u:Int)(o:List (Int×Int×UInt64×UInt64×Unit)):S:=⟨[(0,vi a),(1,vi f),(5, .ptr 0 []),(9, .ptr 1 []),(19,vi u)],[.box 170 (.agg [vb g,vi b]), .box 226 (.val (.vec 6 (.cons (.int .i64) (.cons (.int .i64) (.cons (.int .u64) (.cons (.int .u64) .nil))))) o)],[]⟩
def z13:Nat→S→Option R_:=H.i P_ [r,r,l,r,d]
def x24(k:Int)(m:LU):Option R_:=H.e P_ [r,r,r,r,r,r] ⟨[(11, .own 0),(12,vi k)],[Av 154 m],[]⟩
def x22(kn16:K_)(a f:Int)(g:LB)(b k v:Int)(w:UInt32)(h:Int)(ag:List (Int×Int×UInt64×UInt64×Unit))(m:LU):Option R_:=H.e P_ [r,r,r,r,r,l,r,d,(lp kn16),r,r,l,d,r,r,r,r,r,r] ⟨[(0,vi a),(5, .ptr 0 []),(9, .ptr 1 []),(11, .own 2),(12,vi (Ae k v)),(16,vu w),(28,vi (Ay f a)),(29,vi h)],[.box 170 (.agg [vb g,vi b]), .box 226 (.val (.vec 6 (.cons (.int .i64) (.cons (.int .i64) (.cons (.int .u64) (.cons (.int .u64) .nil))))) ag),Av 154 m],[]⟩
def x21(kn16:K_)(a f:Int)(g:LB)(b k h y:Int)(w:UInt32)(v:Int)(n:List (Int×Int×UInt64×UInt64×Unit))(m:LU)(aa ab:Int)(ac ad:UInt64):Option R_:=H.e P_ [r,r,r,r,r,l,r,d,(lp kn16),r,r,l,d,r,r,r,r] ⟨[(0,vi a),(5, .ptr 0 []),(9, .ptr 1 []),(11, .own 2),(12,vi k),(13,vi h),(15,vi y),(16,vu w),(17,vi v),(18, .ptr 3 []),(28,vi (Ay f a)),(29,vi h)],[.box 170 (.agg [vb g,vi b]), .box 226 (.val (.vec 6 (.cons (.int .i64) (.cons (.int .i64) (.cons (.int .u64) (.cons (.int .u64) .nil))))) n),Av 154 m, .box 225 (.agg [vi aa,vi ab,vq ac,vq ad])],[]⟩
def x16(a f:Int)(g:LB)(b k h:Int)(n:List (Int×Int×UInt64×UInt64×Unit))(m:LU):Option R_:=H.e P_ [r,r,r,r,r,l,r,d] (t16 a f g b k h n m)
def x15(a f:Int)(g:LB)(b:Int)(o:List (Int×Int×UInt64×UInt64×Unit)):Option R_:=H.e P_ [r,r,r] ⟨[(0,vi a),(1,vi f),(5, .ptr 0 []),(9, .ptr 1 [])],[.box 170 (.agg [vb g,vi b]), .box 226 (.val (.vec 6 (.cons (.int .i64) (.cons (.int .i64) (.cons (.int .u64) (.cons (.int .u64) .nil))))) o)],[]⟩
def x13(a f:Int)(g:LB)(b u:Int)(o:List (Int×Int×UInt64×UInt64×Unit)):Option R_:=H.e P_ [r,r,l,r,d] (t13 a f g b u o)
theorem e24:x24=Ais:=by kernel_rfl
theorem e22(kn16:K_)(a f:Int)(g:LB)(b:Int):x22 kn16 a f g b=Wo (fun k h n m=>kn16 (t16 a f g b k h n m)) a f g b:=by kernel_rfl
theorem e21(kn16:K_)(a f:Int)(g:LB)(b:Int):x21 kn16 a f g b=Ns (fun k h n m=>kn16 (t16 a f g b k h n m)) a f g b:=Eq.trans (b:=Nr (x22 kn16 a f g b) a f g b) (by kernel_rfl) (by simp only[e22]<;>rfl)
theorem i16(a f:Int)(g:LB)(b:Int):∀(q:Nat) (k h:Int) (n:List (Int×Int×UInt64×UInt64×Unit)) (m:LU),z16 q (t16 a f g b k h n m)=Kh a f g b q k h n m:=
 ind (fun _ _ _ _=>by kernel_rfl) fun q ih k h n m=>Eq.trans (b:=Uh (x21 (z16 q) a f g b) x24 a f g b k h n m) (by kernel_rfl) (by rw[Aok];simp only[e21,e24,ih]<;>rfl)
theorem e16:x16=Ah7:=by funext a f g b k h n m;exact Eq.trans (by kernel_rfl) ((i16 a f g b Cn k h n m).trans (by rw[Ar];rfl))
theorem e15:x15=Wq:=Eq.trans (b:=Ah2 x16) (by kernel_rfl) (by simp only[e16]<;>rfl)
theorem i13(a f:Int)(g:LB)(b:Int):∀(q:Nat) (u:Int) (o:List (Int×Int×UInt64×UInt64×Unit)),z13 q (t13 a f g b u o)=Wd a f g b q u o:=
 ind (fun _ _=>by kernel_rfl) fun q ih u o=>Eq.trans (b:=Aiy x15 (fun u o=>(z13 q) (t13 a f g b u o)) a f g b u o) (by kernel_rfl) (by simp only[e15,ih]<;>rfl)
theorem e13:x13=Oh:=by funext a f g b u o;exact Eq.trans (by kernel_rfl) ((i13 a f g b Cn u o).trans (by rw[Ar];rfl))
noncomputable def F:=u4 Aas
theorem rn x:H.u P_ x=F x:=Eq.trans (b:=u4 (Aaa x13) x) (by kernel_rfl) (by simp only[e13]<;>rfl)
noncomputable def c:Con:=⟨H.p,H.r,F⟩
theorem ok:ConOk P_ gl 117 c:=co H func117 (.cons F165.ok (.cons F166.ok (.cons F167.ok .nil))) rn
end F117
namespace F172
noncomputable def H:Hd:=⟨[Su],[Sx], .d,⟨[],gl,false⟩,[],f172⟩
noncomputable def F:=Tj
theorem rn x:H.u P_ x=F x:=by kernel_rfl
noncomputable def c:Con:=⟨H.p,H.r,F⟩
theorem ok:ConOk P_ gl 172 c:=co H func172 .nil rn
end F172
namespace F206
noncomputable def H:Hd:=⟨[.agg [Si, .lf (.vec 16 (.int .i32)) none, .lf (.vec 16 (.int .i32)) none],Sx],[Sx, .agg [Si, .lf (.vec 16 (.int .i32)) none, .lf (.vec 16 (.int .i32)) none],Si], .d,⟨[(243,F243.c),(244,F244.c)],gl,false⟩,[],f206⟩
noncomputable def F:=u4 Aq1
theorem rn x:H.u P_ x=F x:=by kernel_rfl
noncomputable def c:Con:=⟨H.p,H.r,F⟩
theorem ok:ConOk P_ gl 206 c:=co H func206 (.cons F243.ok (.cons F244.ok .nil)) rn
end F206
namespace F171
def Ain(a:Int)(b:Int32)(f:Int)(g h:LX)(o:Int32):Option (Int32×Int×Int32×Int×LX×LX×Int):=
(Sk a b f g h).bind fun k=>
if(Bb k 0)then
some (0,0,0,0,(List.replicate 16 (0:Int32)),(List.replicate 16 (0:Int32)),k)
else
(Rl a b).bind fun(m,y)=>
(Aq1 f g h o).bind fun(n,p,u,v,w)=>
(fun aa:Option (Int32×Int×Int32×Int×LX×LX×Int)=>
bo (
aa)) (
some ((Ae n m),a,(Ae n m),p,u,v,w))
theorem Axh: @Ain= @Is:=by
  unfold Ain Is
  simp only[Az9,Ars,Aro]
noncomputable def H:Hd:=⟨[.agg [Si,Sx, .agg [Si, .lf (.vec 16 (.int .i32)) none, .lf (.vec 16 (.int .i32)) none]],Sx],[Sx, .agg [Si,Sx, .agg [Si, .lf (.vec 16 (.int .i32)) none, .lf (.vec 16 (.int .i32)) none]],Si],(.seq .d (.seq .d (.seq .d (.seq .d (.seq (.mode false) .d))))),⟨[(204,F204.c),(205,F205.c),(206,F206.c)],gl,false⟩,[],f171⟩
noncomputable def F:=u6 Is
theorem rn x:H.u P_ x=F x:=Eq.trans (b:=u6 Ain x) (by kernel_rfl) (by rw[Axh];rfl)
noncomputable def c:Con:=⟨H.p,H.r,F⟩
theorem ok:ConOk P_ gl 171 c:=co H func171 (.cons F204.ok (.cons F205.ok (.cons F206.ok .nil))) rn
end F171
namespace F173
abbrev R_:=(LX×Int)
abbrev K_:=S→Option R_
noncomputable def H:Hd:=⟨[Si,Sw],[Ow 21,Si],(.seq .d (.seq .d (.seq .d (.cut [7] [] (.seq .d (.blk (.loop [0,7,8] [] (.seq .d (.cut [0,7,8] [] (.blk (.keep [0,7,8,24,25,26,27,28,29] true)) .d))))) .d)))),⟨[(190,F190.c),(207,F207.c)],gl,true⟩,[(208,(.seq .d (.cut [0,2] [] .d (.seq .d (.blk (.loop [0,3] [] .d))))))],f173⟩
def t18(b a g:Int)(h:LX):S:=⟨[(0, .view true 0 [] (.int .i32) a ((Ae a b)-a)),(3,vi g)],[Aw 21 h],[[(0,vi b),(7, .own 0),(8,vi a),(24, .own 0),(25,vi a),(26,vi a),(27,vi b),(28,vi (Ae a b)),(29, .view true 0 [] (.int .i32) a ((Ae a b)-a))]]⟩
def z18(kn12:K_):Nat→S→Option R_:=H.i P_ [r,r,r,l,r,d,(lp kn12),r,l,d,(call 6 208),r,r,r,d]
def t12(b a:Int)(f:LX):S:=⟨[(0,vi b),(7, .own 0),(8,vi a)],[Aw 21 f],[]⟩
def z12:Nat→S→Option R_:=H.i P_ [r,r,r,l,r,d]
def x22(f:LX):Option R_:=H.e P_ [r,r,r,r] ⟨[(7, .own 0)],[Aw 21 f],[]⟩
def x20(kn12:K_)(b a:Int)(h:LX):Option R_:=H.e P_ [r,r,r,l,r,d,(lp kn12),r,r] ⟨[(0,vi b),(7, .own 0),(8,vi a)],[Aw 21 h],[]⟩
def x18(kn12:K_)(b a g:Int)(h:LX):Option R_:=H.e P_ [r,r,r,l,r,d,(lp kn12),r,l,d,(call 6 208),r,r,r,d] (t18 b a g h)
def x17(kn12:K_)(b a:Int)(k:LX):Option R_:=H.e P_ [r,r,r,l,r,d,(lp kn12),r,l,d,(call 6 208),r,r] ⟨[(0, .view true 0 [] (.int .i32) a ((Ae a b)-a)),(2,vi (Ah ((Ae a b)-a) (1:Int)))],[Aw 21 k],[[(0,vi b),(7, .own 0),(8,vi a),(24, .own 0),(25,vi a),(26,vi a),(27,vi b),(28,vi (Ae a b)),(29, .view true 0 [] (.int .i32) a ((Ae a b)-a))]]⟩
def x12(b a:Int)(f:LX):Option R_:=H.e P_ [r,r,r,l,r,d] (t12 b a f)
theorem e22:x22=Axn:=by kernel_rfl
theorem e20(kn12:K_)(b:Int):x20 kn12 b=Am7 (fun a f=>kn12 (t12 b a f)) b:=by kernel_rfl
theorem i18(kn12:K_)(b a:Int):∀(q:Nat) (g:Int) (h:LX),z18 kn12 q (t18 b a g h)=Ts (fun a f=>kn12 (t12 b a f)) b a q g h:=
 ind (fun _ _=>by kernel_rfl) fun q ih g h=>Eq.trans (b:=Ago (x20 kn12 b) (fun g h=>(z18 kn12 q) (t18 b a g h)) b a g h) (by kernel_rfl) (by simp only[e20,ih]<;>rfl)
theorem e18(kn12:K_)(b:Int):x18 kn12 b=Aod (fun a f=>kn12 (t12 b a f)) b:=by funext a g h;exact Eq.trans (by kernel_rfl) ((i18 kn12 b a Cn g h).trans (by rw[Ar];rfl))
theorem e17(kn12:K_)(b:Int):x17 kn12 b=Agk (fun a f=>kn12 (t12 b a f)) b:=Eq.trans (b:=Aol (x18 kn12 b) b) (by kernel_rfl) (by simp only[e18]<;>rfl)
theorem i12(b:Int):∀(q:Nat) (a:Int) (f:LX),z12 q (t12 b a f)=Om b q a f:=
 ind (fun _ _=>by kernel_rfl) fun q ih a f=>Eq.trans (b:=Aoc (x17 (z12 q) b) x22 b a f) (by kernel_rfl) (by simp only[e17,e22,ih]<;>rfl)
theorem e12:x12=Anx:=by funext b a f;exact Eq.trans (by kernel_rfl) ((i12 b Cn a f).trans (by rw[Ar];rfl))
noncomputable def F:=u2 Aw7
theorem rn x:H.u P_ x=F x:=Eq.trans (b:=u2 (As1 x12) x) (by kernel_rfl) (by simp only[e12]<;>rfl)
noncomputable def c:Con:=⟨H.p,H.r,F⟩
theorem ok:ConOk P_ gl 173 c:=cr H func173 (.cons F190.ok (.cons F207.ok .nil)) (AnsOk.cons ent208 AnsOk.nil) rn
end F173
namespace F119
def Ri(j16:Int→Int32→Int→(List (Int×Int32×(Int×LX×LX×Unit)×Unit))→LX→Int→Int32→Int→LX→LX→Option (LX×Int))(j18:Int→Int→LX→Option (LX×Int))(f:LU)(a b g:Int)(h:List (Int×Int32×(Int×LX×LX×Unit)×Unit))(k:LX):Option (LX×Int):=
if(Bv g (Ac f))then
(getI f g).bind fun ag=>
(Gk (Bb a 0)).bind fun _=>
(getI h (Fb g a)).bind fun _=>
both (
(getI h (Fb g a)).bind fun m=>
both (
(Tj ag).bind fun ae=>
(fun ao:Option (LX×Int)=>
bo (
ao)) (
(Is m.1 m.2.1 m.2.2.1.1 m.2.2.1.2.1 m.2.2.1.2.2.1 ae).bind fun(w,y,v,aa,ab,ac,u)=>
j16 g w u h k y v aa ab ac)) [
(Tj ag).bind fun ae=>
(Is m.1 m.2.1 m.2.2.1.1 m.2.2.1.2.1 m.2.2.1.2.2.1 ae).bind fun(w,y,v,aa,ab,ac,u)=>
j16 g w u h k y v aa ab ac]) [
(Tj ag).bind fun af=>
both (
(getI h (Fb g a)).bind fun ad=>
(fun ap:Option (LX×Int)=>
bo (
ap)) (
(Is ad.1 ad.2.1 ad.2.2.1.1 ad.2.2.1.2.1 ad.2.2.1.2.2.1 af).bind fun(w,y,v,aa,ab,ac,u)=>
j16 g w u h k y v aa ab ac)) [
(getI h (Fb g a)).bind fun ad=>
(Is ad.1 ad.2.1 ad.2.2.1.1 ad.2.2.1.2.1 ad.2.2.1.2.2.1 af).bind fun(w,y,v,aa,ab,ac,u)=>
j16 g w u h k y v aa ab ac],
both (
(getI h (Fb g a)).bind fun m=>
(Tj ag).bind fun ae=>
(Is m.1 m.2.1 m.2.2.1.1 m.2.2.1.2.1 m.2.2.1.2.2.1 ae).bind fun(w,y,v,aa,ab,ac,u)=>
j16 g w u h k y v aa ab ac) [
(Tj ag).bind fun af=>
(getI h (Fb g a)).bind fun ad=>
(Is ad.1 ad.2.1 ad.2.2.1.1 ad.2.2.1.2.1 ad.2.2.1.2.2.1 af).bind fun(w,y,v,aa,ab,ac,u)=>
j16 g w u h k y v aa ab ac]]
else
j18 a b k
theorem Am5: @Ri= @Iy:=by
  unfold Ri Iy
  try simp only[Az9,Ars,Aro]
  all_goals
    repeat (refine funext fun _=>?_)
    repeat' first
      |with_reducible rfl
      |with_reducible refine Tg ?_ ?_
      |with_reducible refine Ru ?_ ?_ ?_
      |with_reducible refine Sr ?_ ?_ ?_ ?_
      |((with_reducible refine Abg ?_ ?_);focus (intro h;first|(subst h;rfl)|(simp only[h];rfl)|(simp[Ed,Ac,h];done)))
      |with_reducible refine Aav fun x=>?_
      |with_reducible refine Aji (fun _=>?_) (fun _=>?_)
      |(refine Ki (fun h=>by simp only[h,Aa1,Gy,Ge,ite_self]) (fun x h=>?_);(try simp only[h,Gy]))
      |(refine Mz (fun h=>?_) (fun h=>?_)<;>simp only[h,if_true,if_false,Bool.false_eq_true])
abbrev R_:=(LX×Int)
abbrev K_:=S→Option R_
noncomputable def H:Hd:=⟨[.agg [Si,Si], .lf (.vec 16 (.int .i32)) none,Sv],[Ow 21,Si],(.seq .d (.seq .d (.cut [2,3,8] [] (.seq .d (.blk (.loop [2,3,4,8,20] [] .d))) (.seq .d (.cut [3,10] [] (.seq .d (.blk (.loop [3,8,10,33,34,35] [⟨10,[], .own 21 (.int .i32)⟩] (.seq .d (.seq .d (.seq (.blk (.seq .d (.seq .d (.cut [3,8,10,13,14,15,16,33,34,35] [] (.mode false) .d)))) .d)))))) .d))))),⟨[(67,F67.c),(170,F170.c),(171,F171.c),(172,F172.c),(173,F173.c)],gl,false⟩,[],f119⟩
def t13(f:LU)(a b g:Int)(h:List (Int×Int32×(Int×LX×LX×Unit)×Unit))(k:LX):S:=⟨[(3, .ptr 0 []),(8, .ptr 1 []),(10, .own 2),(33,vv f),(34,vi (Ac f)),(35,vi g)],[.box 60 (.agg [vi a,vi b]), .box 237 (.val (.vec 6 (.cons (.int .i64) (.cons (.int .i32) (.cons (.cons (.int .i64) (.cons (.vec 16 (.int .i32)) (.cons (.vec 16 (.int .i32)) .nil))) .nil)))) h),Aw 21 k],[]⟩
def z13:Nat→S→Option R_:=H.i P_ [r,r,r,r,l,r,d]
def t10(f:LU)(a b:Int)(o:LX)(p:Int)(n:List (Int×Int32×(Int×LX×LX×Unit)×Unit)):S:=⟨[(2,vv f),(3, .ptr 0 []),(4, .ptr 1 []),(8, .ptr 2 []),(20,vi p)],[.box 60 (.agg [vi a,vi b]), .box 110 (.val (.vec 16 (.int .i32)) o), .box 237 (.val (.vec 6 (.cons (.int .i64) (.cons (.int .i32) (.cons (.cons (.int .i64) (.cons (.vec 16 (.int .i32)) (.cons (.vec 16 (.int .i32)) .nil))) .nil)))) n)],[]⟩
def z10:Nat→S→Option R_:=H.i P_ [r,r,l,r,d]
def x18(a b:Int)(k:LX):Option R_:=H.e P_ [r,r,r,r,r] ⟨[(3, .ptr 0 []),(10, .own 1)],[.box 60 (.agg [vi a,vi b]),Aw 21 k],[]⟩
def x16(kn13:K_)(a:Int)(f:LU)(b g:Int)(w:Int32)(u:Int)(h:List (Int×Int32×(Int×LX×LX×Unit)×Unit))(k:LX)(y:Int)(v:Int32)(aa:Int)(ab ac:LX):Option R_:=H.e P_ [r,r,r,r,l,r,d,(lp kn13),r,r,l,d,r,r,r] ⟨[(3, .ptr 0 []),(8, .ptr 1 []),(10, .own 2),(13, .ptr 1 [.idx (Fb g a) 35]),(14,vx w),(15, .ptr 3 []),(16,vi u),(33,vv f),(34,vi (Ac f)),(35,vi g)],[.box 60 (.agg [vi a,vi b]), .box 237 (.val (.vec 6 (.cons (.int .i64) (.cons (.int .i32) (.cons (.cons (.int .i64) (.cons (.vec 16 (.int .i32)) (.cons (.vec 16 (.int .i32)) .nil))) .nil)))) h),Aw 21 k, .box 236 (.agg [vi y,vx v, .agg [vi aa, .val (.vec 16 (.int .i32)) ab, .val (.vec 16 (.int .i32)) ac]])],[]⟩
def x13(f:LU)(a b g:Int)(h:List (Int×Int32×(Int×LX×LX×Unit)×Unit))(k:LX):Option R_:=H.e P_ [r,r,r,r,l,r,d] (t13 f a b g h k)
def x12(f:LU)(a b:Int)(n:List (Int×Int32×(Int×LX×LX×Unit)×Unit)):Option R_:=H.e P_ [r,r,r] ⟨[(2,vv f),(3, .ptr 0 []),(8, .ptr 1 [])],[.box 60 (.agg [vi a,vi b]), .box 237 (.val (.vec 6 (.cons (.int .i64) (.cons (.int .i32) (.cons (.cons (.int .i64) (.cons (.vec 16 (.int .i32)) (.cons (.vec 16 (.int .i32)) .nil))) .nil)))) n)],[]⟩
def x10(f:LU)(a b:Int)(o:LX)(p:Int)(n:List (Int×Int32×(Int×LX×LX×Unit)×Unit)):Option R_:=H.e P_ [r,r,l,r,d] (t10 f a b o p n)
theorem e18:x18=Iz:=by kernel_rfl
theorem e16(kn13:K_)(f:LU)(a b:Int):x16 kn13 a f b=Uc (fun g h k=>kn13 (t13 f a b g h k)) a f b:=by kernel_rfl
theorem i13(f:LU)(a b:Int):∀(q:Nat) (g:Int) (h:List (Int×Int32×(Int×LX×LX×Unit)×Unit)) (k:LX),z13 q (t13 f a b g h k)=Gs f a b q g h k:=
 ind (fun _ _ _=>by kernel_rfl) fun q ih g h k=>Eq.trans (b:=Ri (x16 (z13 q) a f b) x18 f a b g h k) (by kernel_rfl) (by rw[Am5];simp only[e16,e18,ih]<;>rfl)
theorem e13:x13=Agb:=by funext f a b g h k;exact Eq.trans (by kernel_rfl) ((i13 f a b Cn g h k).trans (by rw[Ar];rfl))
theorem e12:x12=Up:=Eq.trans (b:=Af6 x13) (by kernel_rfl) (by simp only[e13]<;>rfl)
theorem i10(f:LU)(a b:Int)(o:LX):∀(q:Nat) (p:Int) (n:List (Int×Int32×(Int×LX×LX×Unit)×Unit)),z10 q (t10 f a b o p n)=Ue f a b o q p n:=
 ind (fun _ _=>by kernel_rfl) fun q ih p n=>Eq.trans (b:=Aga x12 (fun p n=>(z10 q) (t10 f a b o p n)) f a b o p n) (by kernel_rfl) (by simp only[e12,ih]<;>rfl)
theorem e10:x10=Mj:=by funext f a b o p n;exact Eq.trans (by kernel_rfl) ((i10 f a b o Cn p n).trans (by rw[Ar];rfl))
noncomputable def F:=u4 Ou
theorem rn x:H.u P_ x=F x:=Eq.trans (b:=u4 (Wt x10) x) (by kernel_rfl) (by simp only[e10]<;>rfl)
noncomputable def c:Con:=⟨H.p,H.r,F⟩
theorem ok:ConOk P_ gl 119 c:=co H func119 (.cons F67.ok (.cons F170.ok (.cons F171.ok (.cons F172.ok (.cons F173.ok .nil))))) rn
end F119
namespace F66
noncomputable def H:Hd:=⟨[.agg [Si,Si], .lf (.vec 16 (.int .i32)) none,Si,Sb],[Ow 21,Si], .d,⟨[(114,F114.c),(115,F115.c),(116,F116.c),(117,F117.c),(118,F118.c),(119,F119.c)],gl,false⟩,[],f66⟩
noncomputable def F:=u5 deframe_Decode
theorem rn x:H.u P_ x=F x:=by kernel_rfl
noncomputable def c:Con:=⟨H.p,H.r,F⟩
theorem ok:ConOk P_ gl 66 c:=co H func66 (.cons F114.ok (.cons F115.ok (.cons F116.ok (.cons F117.ok (.cons F118.ok (.cons F119.ok .nil)))))) rn
end F66
namespace F25
abbrev R_:=(LB×Int)
abbrev K_:=S→Option R_
noncomputable def H:Hd:=⟨[Si,Sw],[Ob 5,Si],(.seq .d (.seq .d (.seq .d (.cut [7] [] (.seq .d (.blk (.loop [0,7,17,18,19] [⟨7,[], .own 5 (.int .u8)⟩] (.seq .d (.seq .d (.cut [0,7,17,18,19] [] (.blk (.seq .d (.cut [0,7,9,17,18,19] [] .d (.seq .d (.blk (.loop [0,7,9,17,18,19,28,29] [] .d)))))) .d)))))) .d)))),⟨[(67,F67.c)],gl,false⟩,[],f25⟩
def t26(b:Int)(a:LX)(k:Int32)(f m:Int)(h:LB):S:=⟨[(0,vi b),(7, .own 0),(9,vx k),(17,vw a),(18,vi (Ac a)),(19,vi f),(28,vi (Bj b (8:Int))),(29,vi m)],[Ab 5 h],[]⟩
def z26(kn16:K_):Nat→S→Option R_:=H.i P_ [r,r,r,l,r,d,(lp kn16),r,r,l,d,r,r,r,d]
def t16(b:Int)(a:LX)(f:Int)(g:LB):S:=⟨[(0,vi b),(7, .own 0),(17,vw a),(18,vi (Ac a)),(19,vi f)],[Ab 5 g],[]⟩
def z16:Nat→S→Option R_:=H.i P_ [r,r,r,l,r,d]
def x30(g:LB):Option R_:=H.e P_ [r,r,r,r] ⟨[(7, .own 0)],[Ab 5 g],[]⟩
def x28(kn16:K_)(b:Int)(a:LX)(f:Int)(h:LB):Option R_:=H.e P_ [r,r,r,l,r,d,(lp kn16),r,r,r] ⟨[(0,vi b),(7, .own 0),(17,vw a),(18,vi (Ac a)),(19,vi f)],[Ab 5 h],[]⟩
def x26(kn16:K_)(b:Int)(a:LX)(k:Int32)(f m:Int)(h:LB):Option R_:=H.e P_ [r,r,r,l,r,d,(lp kn16),r,r,l,d,r,r,r,d] (t26 b a k f m h)
def x25(kn16:K_)(b:Int)(a:LX)(f:Int)(g:LB)(k:Int32):Option R_:=H.e P_ [r,r,r,l,r,d,(lp kn16),r,r,l,d,r,r] ⟨[(0,vi b),(7, .own 0),(9,vx k),(17,vw a),(18,vi (Ac a)),(19,vi f)],[Ab 5 g],[]⟩
def x16(b:Int)(a:LX)(f:Int)(g:LB):Option R_:=H.e P_ [r,r,r,l,r,d] (t16 b a f g)
theorem e30:x30=Ao6:=by kernel_rfl
theorem e28(kn16:K_)(b:Int)(a:LX):x28 kn16 b a=Afv (fun f g=>kn16 (t16 b a f g)) b a:=by kernel_rfl
theorem i26(kn16:K_)(b:Int)(a:LX)(k:Int32)(f:Int):∀(q:Nat) (m:Int) (h:LB),z26 kn16 q (t26 b a k f m h)=Gv (fun f g=>kn16 (t16 b a f g)) b a k f q m h:=
 ind (fun _ _=>by kernel_rfl) fun q ih m h=>Eq.trans (b:=Vx (x28 kn16 b a) (fun m h=>(z26 kn16 q) (t26 b a k f m h)) b a k f m h) (by kernel_rfl) (by simp only[e28,ih]<;>rfl)
theorem e26(kn16:K_)(b:Int)(a:LX):x26 kn16 b a=Afz (fun f g=>kn16 (t16 b a f g)) b a:=by funext k f m h;exact Eq.trans (by kernel_rfl) ((i26 kn16 b a k f Cn m h).trans (by rw[Ar];rfl))
theorem e25(kn16:K_)(b:Int)(a:LX):x25 kn16 b a=It (fun f g=>kn16 (t16 b a f g)) b a:=Eq.trans (b:=Afe (x26 kn16 b a) b a) (by kernel_rfl) (by simp only[e26]<;>rfl)
theorem i16(b:Int)(a:LX):∀(q:Nat) (f:Int) (g:LB),z16 q (t16 b a f g)=Er b a q f g:=
 ind (fun _ _=>by kernel_rfl) fun q ih f g=>Eq.trans (b:=Vw (x25 (z16 q) b a) x30 b a f g) (by kernel_rfl) (by simp only[e25,e30,ih]<;>rfl)
theorem e16:x16=Apk:=by funext b a f g;exact Eq.trans (by kernel_rfl) ((i16 b a Cn f g).trans (by rw[Ar];rfl))
noncomputable def F:=u2 width_Bytes
theorem rn x:H.u P_ x=F x:=Eq.trans (b:=u2 (Air x16) x) (by kernel_rfl) (by simp only[e16]<;>rfl)
noncomputable def c:Con:=⟨H.p,H.r,F⟩
theorem ok:ConOk P_ gl 25 c:=co H func25 (.cons F67.ok .nil) rn
end F25
namespace F23
abbrev R_:=(LB×Int)
noncomputable def H:Hd:=⟨[Sb,Ss,Si],[Ob 5,Si],(.seq .d (.cut [2,8,9,11] [] (.keep [0,1,2,8,9,11,12,13,14,15,16,17,18,19] true) (.seq .d (.seq .d (.cut [6,7] [⟨6,[], .own 5 (.int .u8)⟩] (.keep [2,6,7,8,30,31,32,33,34] true) .d))))),⟨[(21,F21.c),(25,F25.c),(58,F58.c),(65,F65.c),(66,F66.c),(108,F108.c)],gl,false⟩,[(60, .d),(109,(.seq .d (.cut [0,3,4,5,6,10,11] [] .d (.seq .d (.cut [4,12,13] [] .d .d)))))],f23⟩
def x6(a ac:Int):Option R_:=H.e P_ [r,r] ⟨[(2,vi a),(8, .cst .nilFunc),(9,vi 0),(11,vi ac)],[],[]⟩
def x10(ad:Int)(ae:LB):Option R_:=H.e P_ [r,r,r,r,r] ⟨[(6, .own 0),(7,vi ad)],[Ab 5 ae],[]⟩
def x9(w a h b:Int)(aa:LX)(n o p k:Int)(m:LB)(u:LX)(v f g:LI):Option R_:=H.e P_ [r,r,r,r,l,(call 2 109),r,r,r,r] ⟨[(4, .ptr 0 []),(12, .own 1),(13,vi w)],[.box 60 (.agg [vi h,vi b]),Aw 21 aa, .box 46 (.agg [.agg [vi n,vi h,vi b,vi o,vi p],vi k, .own 7]), .box 23 (.own 8), .box 22 (vb m), .box 110 (.val (.vec 16 (.int .i32)) u), .box 23 (.own 9),Ai 3 v,Ai 3 f,Ai 3 g],[[(2,vi a),(8, .fn 109 [.ptr 2 [], .ptr 3 [], .ptr 4 [], .ptr 0 [], .ptr 5 [], .ptr 6 []]),(30, .fn 109 [.ptr 2 [], .ptr 3 [], .ptr 4 [], .ptr 0 [], .ptr 5 [], .ptr 6 []]),(31,vi a)]]⟩
def x8(a k ab y:Int)(m:LB)(h b:Int)(u:LX)(n o p:Int)(g v f:LI):Option R_:=H.e P_ [r,r,r,r,l,(call 2 109),r,r] ⟨[(0,vi a),(3, .ptr 0 []),(4, .ptr 1 []),(5, .ptr 2 []),(6, .ptr 3 []),(10,vi (Ae k ab)),(11,vi (Ae k y))],[.box 22 (vb m), .box 60 (.agg [vi h,vi b]), .box 110 (.val (.vec 16 (.int .i32)) u), .box 23 (.own 6), .box 46 (.agg [.agg [vi n,vi h,vi b,vi o,vi p],vi k, .own 7]), .box 23 (.own 8),Ai 3 g,Ai 3 v,Ai 3 f],[[(2,vi a),(8, .fn 109 [.ptr 4 [], .ptr 5 [], .ptr 0 [], .ptr 1 [], .ptr 2 [], .ptr 3 []]),(30, .fn 109 [.ptr 4 [], .ptr 5 [], .ptr 0 [], .ptr 1 [], .ptr 2 [], .ptr 3 []]),(31,vi a)]]⟩
def x7(a:Int)(g:LI)(n h b o p k:Int)(m:LB)(u:LX)(v f:LI):Option R_:=H.e P_ [r,r] ⟨[(2,vi a),(8, .fn 109 [.ptr 0 [], .ptr 1 [], .ptr 2 [], .ptr 3 [], .ptr 4 [], .ptr 5 []]),(9,vi (Ac g)),(11,vi 0)],[.box 46 (.agg [.agg [vi n,vi h,vi b,vi o,vi p],vi k, .own 6]), .box 23 (.own 7), .box 22 (vb m), .box 60 (.agg [vi h,vi b]), .box 110 (.val (.vec 16 (.int .i32)) u), .box 23 (.own 8),Ai 3 v,Ai 3 f,Ai 3 g],[]⟩
theorem e6:x6=Apm:=by kernel_rfl
theorem e10:x10=Acy:=by kernel_rfl
theorem e9:x9=Afi:=Eq.trans (b:=Afh x10) (by kernel_rfl) (by simp only[e10]<;>rfl)
theorem e8:x8=Afk:=Eq.trans (b:=Afy x10 x9) (by kernel_rfl) (by simp only[e10,e9]<;>rfl)
theorem e7:x7=Oo:=Eq.trans (b:=Aff x8) (by kernel_rfl) (by simp only[e8]<;>rfl)
noncomputable def F:=u3 Tr
theorem rn x:H.u P_ x=F x:=Eq.trans (b:=u3 (Afx x6 x7) x) (by kernel_rfl) (by simp only[e6,e7]<;>rfl)
noncomputable def c:Con:=⟨H.p,H.r,F⟩
theorem ok:ConOk P_ gl 23 c:=cr H func23 (.cons F21.ok (.cons F25.ok (.cons F58.ok (.cons F65.ok (.cons F66.ok (.cons F108.ok .nil)))))) (AnsOk.cons ent60 (AnsOk.cons ent109 AnsOk.nil)) rn
end F23
namespace F121
abbrev R_:=(LX×Int)
abbrev K_:=S→Option R_
noncomputable def H:Hd:=⟨[Si,Sb],[Ow 21,Si],(.seq .d (.seq .d (.seq .d (.seq .d (.seq .d (.seq .d (.cut [10] [] (.seq .d (.blk (.loop [0,1,9,10,11] [⟨10,[], .own 21 (.int .i32)⟩] (.seq .d (.cut [0,1,9,10,11] [] (.blk (.seq .d (.seq .d (.cut [0,1,9,10,11,12] [] (.seq .d (.blk (.loop [0,1,9,10,11,12,53,54] [] .d))) .d)))) .d))))) .d))))))),⟨[(120,F120.c)],gl,false⟩,[],f121⟩
def t25(a:Int)(b:LB)(f:Int)(g:LX)(h:Int32)(k:Int):S:=⟨[(0,vi a),(1,vb b),(9,vi (Bj a (8:Int))),(10, .own 0),(11,vi f),(12,vx h),(53,vi (Bj a (8:Int))),(54,vi k)],[Aw 21 g],[]⟩
def z25(kn16:K_):Nat→S→Option R_:=H.i P_ [r,r,r,r,r,r,l,r,d,(lp kn16),r,l,d,r,r,l,r,d]
def t16(a:Int)(b:LB)(f:Int)(g:LX):S:=⟨[(0,vi a),(1,vb b),(9,vi (Bj a (8:Int))),(10, .own 0),(11,vi f)],[Aw 21 g],[]⟩
def z16:Nat→S→Option R_:=H.i P_ [r,r,r,r,r,r,l,r,d]
def x30(g:LX):Option R_:=H.e P_ [r,r,r,r,r,r,r] ⟨[(10, .own 0)],[Aw 21 g],[]⟩
def x28(kn16:K_)(a:Int)(b:LB)(f:Int)(m:LX):Option R_:=H.e P_ [r,r,r,r,r,r,l,r,d,(lp kn16),r,r] ⟨[(0,vi a),(1,vb b),(9,vi (Bj a (8:Int))),(10, .own 0),(11,vi f)],[Aw 21 m],[]⟩
def x27(kn16:K_)(a:Int)(b:LB)(f:Int)(h:Int32)(g:LX):Option R_:=H.e P_ [r,r,r,r,r,r,l,r,d,(lp kn16),r,l,d,r,r,r] ⟨[(0,vi a),(1,vb b),(9,vi (Bj a (8:Int))),(10, .own 0),(11,vi f),(12,vx h)],[Aw 21 g],[]⟩
def x25(kn16:K_)(a:Int)(b:LB)(f:Int)(g:LX)(h:Int32)(k:Int):Option R_:=H.e P_ [r,r,r,r,r,r,l,r,d,(lp kn16),r,l,d,r,r,l,r,d] (t25 a b f g h k)
def x16(a:Int)(b:LB)(f:Int)(g:LX):Option R_:=H.e P_ [r,r,r,r,r,r,l,r,d] (t16 a b f g)
theorem e30:x30=Akj:=by kernel_rfl
theorem e28(kn16:K_)(a:Int)(b:LB):x28 kn16 a b=Gf (fun f g=>kn16 (t16 a b f g)) a b:=by kernel_rfl
theorem e27(kn16:K_)(a:Int)(b:LB):x27 kn16 a b=Qb (fun f g=>kn16 (t16 a b f g)) a b:=Eq.trans (b:=Qh (x28 kn16 a b) a b) (by kernel_rfl) (by simp only[e28]<;>rfl)
theorem i25(kn16:K_)(a:Int)(b:LB)(f:Int)(g:LX):∀(q:Nat) (h:Int32) (k:Int),z25 kn16 q (t25 a b f g h k)=Cw (fun f g=>kn16 (t16 a b f g)) a b f g q h k:=
 ind (fun _ _=>by kernel_rfl) fun q ih h k=>Eq.trans (b:=Dw (x27 kn16 a b) (fun h k=>(z25 kn16 q) (t25 a b f g h k)) a b f g h k) (by kernel_rfl) (by simp only[e27,ih]<;>rfl)
theorem e25(kn16:K_)(a:Int)(b:LB):x25 kn16 a b=Ij (fun f g=>kn16 (t16 a b f g)) a b:=by funext f g h k;exact Eq.trans (by kernel_rfl) ((i25 kn16 a b f g Cn h k).trans (by rw[Ar];rfl))
theorem i16(a:Int)(b:LB):∀(q:Nat) (f:Int) (g:LX),z16 q (t16 a b f g)=Cl a b q f g:=
 ind (fun _ _=>by kernel_rfl) fun q ih f g=>Eq.trans (b:=Dz (x28 (z16 q) a b) (x25 (z16 q) a b) x30 a b f g) (by kernel_rfl) (by simp only[e28,e25,e30,ih]<;>rfl)
theorem e16:x16=Yn:=by funext a b f g;exact Eq.trans (by kernel_rfl) ((i16 a b Cn f g).trans (by rw[Ar];rfl))
noncomputable def F:=u2 Pb
theorem rn x:H.u P_ x=F x:=Eq.trans (b:=u2 (Acf x16) x) (by kernel_rfl) (by simp only[e16]<;>rfl)
noncomputable def c:Con:=⟨H.p,H.r,F⟩
theorem ok:ConOk P_ gl 121 c:=co H func121 (.cons F120.ok .nil) rn
end F121
namespace F32
abbrev R_:=(LI×Int)
abbrev K_:=S→Option R_
noncomputable def H:Hd:=⟨[Sb,Ss],[Ol 3,Si],(.seq .d (.seq .d (.cut [6,8] [⟨6,[], .own 3 (.int .i64)⟩] (.keep [0,1,6,7,8,9,10,11,12,13,14,15] true) .d))),⟨[(21,F21.c),(23,F23.c),(58,F58.c),(121,F121.c)],gl,false⟩,[(73,(.seq .d (.seq .d (.seq .d (.seq .d (.seq .d (.cut [6,8] [] (.seq .d (.blk (.loop [0,1,2,6,8,37,38,39] [⟨2,[0], .own 3 (.int .i64)⟩] (.seq .d (.seq .d (.cut [0,1,2,6,8,37,38,39] [] (.blk (.seq .d (.seq .d (.seq .d (.cut [0,1,2,6,8,11,12,14,15,37,38,39] [⟨15,[], .own 21 (.int .i32)⟩] .d (.cut [0,1,2,6,8,16,37,38,39] [] (.keep [0,1,2,6,8,11,12,14,15,16,37,38,39,65,66,67,68,69,70,71] true) .d)))))) .d)))))) .d))))))),(76, .d)],f32⟩
def t14(a b:LB)(f:LI)(h k g m n o:Int)(p:LI)(u:Int)(v:LI):S:=⟨[(0,vb a),(1,vs b),(2, .fn 76 [.ptr 0 []]),(6, .ptr 1 []),(8, .ptr 2 []),(37, .own 3),(38,vi (Ac f)),(39,vi u)],[.box 23 (.own 4), .box 27 (.agg [vi 0,vi 0,vi 0,vi 0,vi 0]), .box 46 (.agg [.agg [vi h,vi k,vi g,vi m,vi n],vi o, .own 5]),Ai 3 f,Ai 3 v,Ai 3 p],[[(0,vb a),(1,vs b),(6, .ptr 0 []),(10,vb a),(11,vs b),(12, .fn 76 [.ptr 0 []])]]⟩
def z14:Nat→S→Option R_:=H.i P_ [r,r,l,(call 3 73),r,r,r,r,r,l,r,d]
def x26(ab:Int)(ac:LI):Option R_:=H.e P_ [r,r,r] ⟨[(6, .ptr 0 []),(8,vi ab)],[.box 23 (.own 1),Ai 3 ac],[]⟩
def x25(a b:LB)(h k g m n o:Int)(p v:LI):Option R_:=H.e P_ [r,r,l,(call 3 73),r,r,r,r,r,r] ⟨[(6, .ptr 0 []),(8, .ptr 1 [])],[.box 27 (.agg [vi 0,vi 0,vi 0,vi 0,vi 0]), .box 46 (.agg [.agg [vi h,vi k,vi g,vi m,vi n],vi o, .own 3]), .box 23 (.own 4),Ai 3 p,Ai 3 v],[[(0,vb a),(1,vs b),(6, .ptr 2 []),(10,vb a),(11,vs b),(12, .fn 76 [.ptr 2 []])]]⟩
def x23(kn14:K_)(a b:LB)(f:LI)(h k g m n o:Int)(p:LI)(u:Int)(w:LI):Option R_:=H.e P_ [r,r,l,(call 3 73),r,r,r,r,r,l,r,d,(lp kn14),r,r,r] ⟨[(0,vb a),(1,vs b),(2, .fn 76 [.ptr 0 []]),(6, .ptr 1 []),(8, .ptr 2 []),(37, .own 3),(38,vi (Ac f)),(39,vi u)],[.box 23 (.own 4), .box 27 (.agg [vi 0,vi 0,vi 0,vi 0,vi 0]), .box 46 (.agg [.agg [vi h,vi k,vi g,vi m,vi n],vi o, .own 5]),Ai 3 f,Ai 3 w,Ai 3 p],[[(0,vb a),(1,vs b),(6, .ptr 0 []),(10,vb a),(11,vs b),(12, .fn 76 [.ptr 0 []])]]⟩
def x22(kn14:K_)(a b:LB)(f:LI)(h k g m n o:Int)(p:LI)(u:Int)(w:LI):Option R_:=H.e P_ [r,r,l,(call 3 73),r,r,r,r,r,l,r,d,(lp kn14),r,r,l,d,r,r,r,r,r] ⟨[(0,vb a),(1,vs b),(2, .fn 76 [.ptr 0 []]),(6, .ptr 1 []),(8, .ptr 2 []),(16,vi 0),(37, .own 3),(38,vi (Ac f)),(39,vi u)],[.box 23 (.own 4), .box 27 (.agg [vi 0,vi 0,vi 0,vi 0,vi 0]), .box 46 (.agg [.agg [vi h,vi k,vi g,vi m,vi n],vi o, .own 5]),Ai 3 f,Ai 3 w,Ai 3 p],[[(0,vb a),(1,vs b),(6, .ptr 0 []),(10,vb a),(11,vs b),(12, .fn 76 [.ptr 0 []])]]⟩
def x21(kn14:K_)(a b:LB)(f:LI)(h k g m n o:Int)(p:LI)(u aa y:Int)(v:LI)(ad:LX):Option R_:=H.e P_ [r,r,l,(call 3 73),r,r,r,r,r,l,r,d,(lp kn14),r,r,l,d,r,r,r,r] ⟨[(0,vb a),(1,vs b),(2, .fn 76 [.ptr 0 []]),(6, .ptr 1 []),(8, .ptr 2 []),(11,vi u),(12,vi aa),(14,vi y),(15, .own 3),(37, .own 4),(38,vi (Ac f)),(39,vi u)],[.box 23 (.own 5), .box 27 (.agg [vi 0,vi 0,vi 0,vi 0,vi 0]), .box 46 (.agg [.agg [vi h,vi k,vi g,vi m,vi n],vi o, .own 6]),Aw 21 ad,Ai 3 f,Ai 3 v,Ai 3 p],[[(0,vb a),(1,vs b),(6, .ptr 0 []),(10,vb a),(11,vs b),(12, .fn 76 [.ptr 0 []])]]⟩
def x14(a b:LB)(f:LI)(h k g m n o:Int)(p:LI)(u:Int)(v:LI):Option R_:=H.e P_ [r,r,l,(call 3 73),r,r,r,r,r,l,r,d] (t14 a b f h k g m n o p u v)
theorem e26:x26=Jy:=by kernel_rfl
theorem e25:x25=Ai9:=Eq.trans (b:=Aib x26) (by kernel_rfl) (by simp only[e26]<;>rfl)
theorem e23(kn14:K_)(a b:LB)(f:LI)(h k g m n o:Int)(p:LI):x23 kn14 a b f h k g m n o p=Ai6 (fun u v=>kn14 (t14 a b f h k g m n o p u v)) a b f h k g m n o p:=by kernel_rfl
theorem e22(kn14:K_)(a b:LB)(f:LI)(h k g m n o:Int)(p:LI):x22 kn14 a b f h k g m n o p=Aa8 (fun u v=>kn14 (t14 a b f h k g m n o p u v)) a b f h k g m n o p:=Eq.trans (b:=Ai3 x26 (x23 kn14 a b f h k g m n o p) a b f h k g m n o p) (by kernel_rfl) (by simp only[e26,e23]<;>rfl)
theorem e21(kn14:K_)(a b:LB)(f:LI)(h k g m n o:Int)(p:LI):x21 kn14 a b f h k g m n o p=Ys (fun u v=>kn14 (t14 a b f h k g m n o p u v)) a b f h k g m n o p:=Eq.trans (b:=Yi (x22 kn14 a b f h k g m n o p) a b f h k g m n o p) (by kernel_rfl) (by simp only[e22]<;>rfl)
theorem i14(a b:LB)(f:LI)(h k g m n o:Int)(p:LI):∀(q:Nat) (u:Int) (v:LI),z14 q (t14 a b f h k g m n o p u v)=Ka a b f h k g m n o p q u v:=
 ind (fun _ _=>by kernel_rfl) fun q ih u v=>Eq.trans (b:=Zp x26 (x21 (z14 q) a b f h k g m n o p) x25 a b f h k g m n o p u v) (by kernel_rfl) (by simp only[e26,e21,e25,ih]<;>rfl)
theorem e14:x14=Aqn:=by funext a b f h k g m n o p u v;exact Eq.trans (by kernel_rfl) ((i14 a b f h k g m n o p Cn u v).trans (by rw[Ar];rfl))
noncomputable def F:=u2 Se
theorem rn x:H.u P_ x=F x:=Eq.trans (b:=u2 (Adh x26 x14) x) (by kernel_rfl) (by simp only[e26,e14]<;>rfl)
noncomputable def c:Con:=⟨H.p,H.r,F⟩
theorem ok:ConOk P_ gl 32 c:=cr H func32 (.cons F21.ok (.cons F23.ok (.cons F58.ok (.cons F121.ok .nil)))) (AnsOk.cons ent73 (AnsOk.cons ent76 AnsOk.nil)) rn
end F32
namespace F62
noncomputable def H:Hd:=⟨[Sb],[.agg [.agg [Si,Si,Si,Si,Si], .agg [Si,Si,Si,Si,Si],Ol 3],Si], .d,⟨[(55,Adl),(56,F56.c),(58,F58.c)],gl,false⟩,[],f62⟩
noncomputable def F:=Asa
theorem rn x:H.u P_ x=F x:=by kernel_rfl
noncomputable def c:Con:=⟨H.p,H.r,F⟩
theorem ok:ConOk P_ gl 62 c:=co H func62 (.cons As2 (.cons F56.ok (.cons F58.ok .nil))) rn
end F62
namespace F111
abbrev R_:=(Int×Int)
noncomputable def H:Hd:=⟨[Sb],[Si,Si],(.seq .d (.seq .d (.cut [0,4] [] .d .d))),⟨[(52,F52.c),(161,F161.c),(162,F162.c),(163,F163.c)],gl,false⟩,[],f111⟩
def x2(a:LB):Option R_:=H.e P_ [r,r,r] ⟨[(0,vb a),(4,vi (Ah (Ac a) (32:Int)))],[],[]⟩
theorem e2:x2=Aqo:=by kernel_rfl
noncomputable def F:=Axg
theorem rn x:H.u P_ x=F x:=Eq.trans (b:=Arr x2 x) (by kernel_rfl) (by simp only[e2]<;>rfl)
noncomputable def c:Con:=⟨H.p,H.r,F⟩
theorem ok:ConOk P_ gl 111 c:=co H func111 (.cons F52.ok (.cons F161.ok (.cons F162.ok (.cons F163.ok .nil)))) rn
end F111
namespace F61
abbrev R_:=(Int×Int)
abbrev K_:=S→Option R_
noncomputable def H:Hd:=⟨[Sb],[Si,Si],(.seq .d (.seq .d (.seq .d (.seq .d (.cut [5] [] (.blk (.loop [1,4,5] [] (.seq .d (.cut [1,4,5] [] (.blk (.cut [1,4,5,6] [] (.keep [1,4,5,6,16,17] true) .d)) .d)))) .d))))),⟨[(111,F111.c)],gl,false⟩,[(110, .d)],f61⟩
def t8(a:Int)(b:LB):S:=⟨[(1, .ptr 0 []),(4, .fn 110 [.ptr 0 []]),(5,vi a)],[.box 22 (vb b)],[]⟩
def z8:Nat→S→Option R_:=H.i P_ [r,r,r,r,l,d]
def x14(a:Int):Option R_:=H.e P_ [r,r,r,r,r] ⟨[(5,vi a)],[],[]⟩
def x12(kn8:K_)(a:Int)(g:LB):Option R_:=H.e P_ [r,r,r,r,l,d,(lp kn8),r,r] ⟨[(1, .ptr 0 []),(4, .fn 110 [.ptr 0 []]),(5,vi a)],[.box 22 (vb g)],[]⟩
def x11(kn8:K_)(a f:Int)(b:LB):Option R_:=H.e P_ [r,r,r,r,l,d,(lp kn8),r,l,d,r] ⟨[(1, .ptr 0 []),(4, .fn 110 [.ptr 0 []]),(5,vi a),(6,vi f)],[.box 22 (vb b)],[]⟩
def x8(a:Int)(b:LB):Option R_:=H.e P_ [r,r,r,r,l,d] (t8 a b)
theorem e14:x14=Am0:=by kernel_rfl
theorem e12(kn8:K_):x12 kn8=Acs (fun a b=>kn8 (t8 a b)):=by kernel_rfl
theorem e11(kn8:K_):x11 kn8=Aci (fun a b=>kn8 (t8 a b)):=Eq.trans (b:=Acz (x12 kn8)) (by kernel_rfl) (by simp only[e12]<;>rfl)
theorem i8:∀(q:Nat) (a:Int) (b:LB),z8 q (t8 a b)=On q a b:=
 ind (fun _ _=>by kernel_rfl) fun q ih a b=>Eq.trans (b:=Afj (x11 (z8 q)) x14 a b) (by kernel_rfl) (by simp only[e11,e14,ih]<;>rfl)
theorem e8:x8=Ape:=by funext a b;exact Eq.trans (by kernel_rfl) ((i8 Cn a b).trans (by rw[Ar];rfl))
noncomputable def F:=Agn
theorem rn x:H.u P_ x=F x:=Eq.trans (b:=Afn x8 x) (by kernel_rfl) (by simp only[e8]<;>rfl)
noncomputable def c:Con:=⟨H.p,H.r,F⟩
theorem ok:ConOk P_ gl 61 c:=cr H func61 (.cons F111.ok .nil) (AnsOk.cons ent110 AnsOk.nil) rn
end F61
namespace F24
abbrev R_:=(Int×Int×Int×LX×Int)
abbrev K_:=S→Option R_
noncomputable def H:Hd:=⟨[Sb,Ss],[.agg [Si,Si,Si,Ow 21],Si],(.seq .d (.seq .d (.seq .d (.seq .d (.cut [0,1,4,6] [] (.cut [0,1,4,6,8] [] (.keep [0,1,4,6,8,34,35,36] true) .d) (.cut [0,1,4,6,7,9] [⟨9,[], .own 3 (.int .i64)⟩] (.keep [0,1,4,6,7,9,41,42,43,44,45] true) (.seq .d (.seq .d (.seq .d (.seq .d (.seq .d (.cut [0,4,10,14] [] (.seq .d (.blk (.loop [0,4,6,10,11,12,14,75,76,77] [⟨10,[3], .own 21 (.int .i32)⟩] (.seq .d (.seq .d (.seq (.blk (.seq .d (.seq .d (.cut [0,4,6,10,11,12,14,16,17,18,75,76,77] [] .d .d)))) .d)))))) .d)))))))))))),⟨[(57,F57.c),(59,F59.c),(61,F61.c),(62,F62.c),(65,F65.c),(66,F66.c)],gl,false⟩,[(63, .d),(64,(.seq .d (.seq .d (.cut [0,6,7] [] .d (.seq .d (.seq .d (.seq .d (.cut [6] [] (.seq .d (.blk (.loop [0,6,60,61,62] [] .d))) .d))))))))],f24⟩
def t21(a:LB)(w:LI)(m b f h o p n g y ab:Int)(ac:LX)(k:LI)(aa ae:Int)(ad:LX):S:=⟨[(0,vb a),(4, .ptr 0 []),(6, .ptr 1 []),(10, .ptr 2 []),(11, .ptr 3 []),(12, .ptr 4 []),(14,vi aa),(75, .own 5),(76,vi (Ac w)),(77,vi ae)],[.box 54 (.agg [vi 0,vi 0,vi 0, .nils]), .box 105 (.agg [.agg [vi m,vi b,vi f,vi h,vi o], .agg [vi p,vi n,vi g,vi y,vi ab], .own 6]), .box 54 (.agg [vi b,vi f,vi h, .own 7]), .box 60 (.agg [vi b,vi f]), .box 110 (.val (.vec 16 (.int .i32)) ac),Ai 3 w,Ai 3 k,Aw 21 ad],[]⟩
def z21:Nat→S→Option R_:=H.i P_ [r,r,r,r,r,r,r,r,r,r,r,l,r,d]
def t17(v:LI)(a u:LB)(m b f h o p n g:Int)(k:LI)(ag af:Int):S:=⟨[(0, .ptr 0 []),(6, .own 1),(60, .own 1),(61,vi (Ac v)),(62,vi ag)],[.box 105 (.agg [.agg [vi m,vi b,vi f,vi h,vi o], .agg [vi p,vi n,vi g,vi (Ae (Ae g (Ay (4:Int) (Ac v))) (4:Int)),vi af], .own 3]),Ai 3 v, .box 54 (.agg [vi 0,vi 0,vi 0, .nils]),Ai 3 k],[[(0,vb a),(1,vs u),(4, .ptr 2 []),(6, .ptr 0 []),(42,vb a)]]⟩
def z17:Nat→S→Option R_:=H.i P_ [r,r,r,r,r,l,(call 1 64),r,r,r,r,r,r,l,r,d]
def x26(a:LB)(aa b f h:Int)(ad:LX):Option R_:=H.e P_ [r,r,r,r,r,r,r,r,r,r,r,r] ⟨[(0,vb a),(4, .ptr 0 []),(10, .ptr 1 []),(14,vi aa)],[.box 54 (.agg [vi 0,vi 0,vi 0, .nils]), .box 54 (.agg [vi b,vi f,vi h, .own 2]),Aw 21 ad],[]⟩
def x24(kn21:K_)(a:LB)(w:LI)(m b f h o p n g y ab:Int)(ac:LX)(k:LI)(aa aj ak ae:Int)(am ad:LX):Option R_:=H.e P_ [r,r,r,r,r,r,r,r,r,r,r,l,r,d,(lp kn21),r,r,l,d,r,r,r] ⟨[(0,vb a),(4, .ptr 0 []),(6, .ptr 1 []),(10, .ptr 2 []),(11, .ptr 3 []),(12, .ptr 4 []),(14,vi aa),(16,vi aj),(17, .own 5),(18,vi ak),(75, .own 6),(76,vi (Ac w)),(77,vi ae)],[.box 54 (.agg [vi 0,vi 0,vi 0, .nils]), .box 105 (.agg [.agg [vi m,vi b,vi f,vi h,vi o], .agg [vi p,vi n,vi g,vi y,vi ab], .own 7]), .box 54 (.agg [vi b,vi f,vi h, .own 8]), .box 60 (.agg [vi b,vi f]), .box 110 (.val (.vec 16 (.int .i32)) ac),Aw 21 am,Ai 3 w,Ai 3 k,Aw 21 ad],[]⟩
def x21(a:LB)(w:LI)(m b f h o p n g y ab:Int)(ac:LX)(k:LI)(aa ae:Int)(ad:LX):Option R_:=H.e P_ [r,r,r,r,r,r,r,r,r,r,r,l,r,d] (t21 a w m b f h o p n g y ab ac k aa ae ad)
def x20(a u:LB)(m b f h o p n g:Int)(k:LI)(an y ab:Int)(w:LI):Option R_:=H.e P_ [r,r,r,r,r,r] ⟨[(0,vb a),(1,vs u),(4, .ptr 0 []),(6, .ptr 1 []),(7,vi an),(9, .own 2)],[.box 54 (.agg [vi 0,vi 0,vi 0, .nils]), .box 105 (.agg [.agg [vi m,vi b,vi f,vi h,vi o], .agg [vi p,vi n,vi g,vi y,vi ab], .own 3]),Ai 3 w,Ai 3 k],[]⟩
def x19(a u:LB)(v:LI)(m b f h o p n g af:Int)(k:LI):Option R_:=H.e P_ [r,r,r,r,r,l,(call 1 64),r,r,r,r,r,r,r] ⟨[(6, .own 0)],[Ai 3 v, .box 54 (.agg [vi 0,vi 0,vi 0, .nils]), .box 105 (.agg [.agg [vi m,vi b,vi f,vi h,vi o], .agg [vi p,vi n,vi g,vi (Ae (Ae g (Ay (4:Int) (Ac v))) (4:Int)),vi af], .own 3]),Ai 3 k],[[(0,vb a),(1,vs u),(4, .ptr 1 []),(6, .ptr 2 []),(42,vb a)]]⟩
def x17(v:LI)(a u:LB)(m b f h o p n g:Int)(k:LI)(ag af:Int):Option R_:=H.e P_ [r,r,r,r,r,l,(call 1 64),r,r,r,r,r,r,l,r,d] (t17 v a u m b f h o p n g k ag af)
def x16(al:Int)(a u:LB)(m b f h o p n g ah ai:Int)(v k:LI):Option R_:=H.e P_ [r,r,r,r,r,l,(call 1 64),r,r,r] ⟨[(0, .ptr 0 []),(6, .own 1),(7,vi al)],[.box 105 (.agg [.agg [vi m,vi b,vi f,vi h,vi o], .agg [vi p,vi n,vi g,vi ah,vi ai], .own 3]),Ai 3 v, .box 54 (.agg [vi 0,vi 0,vi 0, .nils]),Ai 3 k],[[(0,vb a),(1,vs u),(4, .ptr 2 []),(6, .ptr 0 []),(42,vb a)]]⟩
def x15(a u:LB)(m b f h o p n g ah ai:Int)(k:LI):Option R_:=H.e P_ [r,r,r,r,r] ⟨[(0,vb a),(1,vs u),(4, .ptr 0 []),(6, .ptr 1 [])],[.box 54 (.agg [vi 0,vi 0,vi 0, .nils]), .box 105 (.agg [.agg [vi m,vi b,vi f,vi h,vi o], .agg [vi p,vi n,vi g,vi ah,vi ai], .own 2]),Ai 3 k],[]⟩
def x14(a u:LB)(m b f h o p n g ah ai:Int)(k:LI)(ao:Int):Option R_:=H.e P_ [r,r,r,r,l,r] ⟨[(0,vb a),(1,vs u),(4, .ptr 0 []),(6, .ptr 1 []),(8,vi ao)],[.box 54 (.agg [vi 0,vi 0,vi 0, .nils]), .box 105 (.agg [.agg [vi m,vi b,vi f,vi h,vi o], .agg [vi p,vi n,vi g,vi ah,vi ai], .own 2]),Ai 3 k],[]⟩
theorem e26:x26=Aih:=by kernel_rfl
theorem e24(kn21:K_)(a:LB)(w:LI)(m b f h o p n g y ab:Int)(ac:LX)(k:LI):x24 kn21 a w m b f h o p n g y ab ac k=Ajc (fun aa ae ad=>kn21 (t21 a w m b f h o p n g y ab ac k aa ae ad)) a w m b f h o p n g y ab ac k:=by kernel_rfl
theorem i21(a:LB)(w:LI)(m b f h o p n g y ab:Int)(ac:LX)(k:LI):∀(q:Nat) (aa ae:Int) (ad:LX),z21 q (t21 a w m b f h o p n g y ab ac k aa ae ad)=Nb a w m b f h o p n g y ab ac k q aa ae ad:=
 ind (fun _ _ _=>by kernel_rfl) fun q ih aa ae ad=>Eq.trans (b:=Aai (x24 (z21 q) a w m b f h o p n g y ab ac k) x26 a w m b f h o p n g y ab ac k aa ae ad) (by kernel_rfl) (by simp only[e24,e26,ih]<;>rfl)
theorem e21:x21=Asp:=by funext a w m b f h o p n g y ab ac k aa ae ad;exact Eq.trans (by kernel_rfl) ((i21 a w m b f h o p n g y ab ac k Cn aa ae ad).trans (by rw[Ar];rfl))
theorem e20:x20=Js:=Eq.trans (b:=Aay x21) (by kernel_rfl) (by simp only[e21]<;>rfl)
theorem e19:x19=Aaq:=Eq.trans (b:=Ag6 x20) (by kernel_rfl) (by simp only[e20]<;>rfl)
theorem i17(v:LI)(a u:LB)(m b f h o p n g:Int)(k:LI):∀(q:Nat) (ag af:Int),z17 q (t17 v a u m b f h o p n g k ag af)=Ms v a u m b f h o p n g k q ag af:=
 ind (fun _ _=>by kernel_rfl) fun q ih ag af=>Eq.trans (b:=Yv x19 (fun ag af=>(z17 q) (t17 v a u m b f h o p n g k ag af)) v a u m b f h o p n g k ag af) (by kernel_rfl) (by simp only[e19,ih]<;>rfl)
theorem e17:x17=Ait:=by funext v a u m b f h o p n g k ag af;exact Eq.trans (by kernel_rfl) ((i17 v a u m b f h o p n g k Cn ag af).trans (by rw[Ar];rfl))
theorem e16:x16=Aaf:=Eq.trans (b:=Zy x20 x17) (by kernel_rfl) (by simp only[e20,e17]<;>rfl)
theorem e15:x15=Sj:=Eq.trans (b:=Ahy x20 x16) (by kernel_rfl) (by simp only[e20,e16]<;>rfl)
theorem e14:x14=My:=Eq.trans (b:=Aao x15) (by kernel_rfl) (by simp only[e15]<;>rfl)
noncomputable def F:=u2 Kc
theorem rn x:H.u P_ x=F x:=Eq.trans (b:=u2 (Ak8 x14) x) (by kernel_rfl) (by simp only[e14]<;>rfl)
noncomputable def c:Con:=⟨H.p,H.r,F⟩
theorem ok:ConOk P_ gl 24 c:=cr H func24 (.cons F57.ok (.cons F59.ok (.cons F61.ok (.cons F62.ok (.cons F65.ok (.cons F66.ok .nil)))))) (AnsOk.cons ent63 (AnsOk.cons ent64 AnsOk.nil)) rn
end F24
namespace F122
noncomputable def H:Hd:=⟨[.agg [Si,Si],Si],[Si], .d,⟨[(114,F114.c)],gl,false⟩,[],f122⟩
noncomputable def F:=u3 Alk
theorem rn x:H.u P_ x=F x:=by kernel_rfl
noncomputable def c:Con:=⟨H.p,H.r,F⟩
theorem ok:ConOk P_ gl 122 c:=co H func122 (.cons F114.ok .nil) rn
end F122
namespace F75
noncomputable def H:Hd:=⟨[.agg [Si,Si],Si],[Ow 21,Si], .d,⟨[(122,F122.c)],gl,false⟩,[],f75⟩
noncomputable def F:=u3 Vy
theorem rn x:H.u P_ x=F x:=by kernel_rfl
noncomputable def c:Con:=⟨H.p,H.r,F⟩
theorem ok:ConOk P_ gl 75 c:=co H func75 (.cons F122.ok .nil) rn
end F75
namespace F31
def Vz(a b h ak:Int)(an:LI)(ah:LX):Option (Int×Int×Int×LX×LI×Int):=
if(Bb ak 0)then
some (0,0,0,([]:LX),([]:LI),ak)
else
if(geq (Ac ah) 0)then
some (0,0,0,([]:LX),([]:LI),6)
else
both (
bo (
some (a,b,h,ah,an,0))) [
some (a,b,h,ah,an,0)]
theorem Aqi: @Vz= @Qd:=by
  unfold Vz Qd
  repeat (refine funext fun _=>?_)
  repeat' first
    |with_reducible rfl
    |with_reducible refine Tg ?_ ?_
    |with_reducible refine Ru ?_ ?_ ?_
    |with_reducible refine Sr ?_ ?_ ?_ ?_
    |((with_reducible refine Abg ?_ ?_);focus (intro h;first|(subst h;rfl)|(simp only[h];rfl)|(simp[Ed,Ac,h];done)))
    |with_reducible refine Aav fun x=>?_
    |with_reducible refine Aji (fun _=>?_) (fun _=>?_)
    |(refine Ki (fun h=>by simp only[h,Aa1,Gy,Ge,ite_self]) (fun x h=>?_);(try simp only[h,Gy]))
    |(refine Mz (fun h=>?_) (fun h=>?_)<;>simp only[h,if_true,if_false,Bool.false_eq_true])
abbrev R_:=(Int×Int×Int×LX×LI×Int)
abbrev K_:=S→Option R_
noncomputable def H:Hd:=⟨[Sb,Ss,Si],[.agg [Si,Si,Si,Ow 21],Ol 3,Si],(.seq .d (.seq .d (.seq .d (.seq .d (.seq .d (.seq .d (.seq .d (.cut [6,12,14,15] [⟨14,[], .own 3 (.int .i64)⟩,⟨15,[3], .own 21 (.int .i32)⟩] (.keep [0,1,5,6,12,13,14,15,60,61,62,63,64,66] true) (.seq .d (.seq .d (.seq (.mode false) .d))))))))))),⟨[(21,F21.c),(23,F23.c),(24,F24.c),(58,F58.c),(75,F75.c),(121,F121.c)],gl,false⟩,[(73,(.seq .d (.seq .d (.seq .d (.seq .d (.seq .d (.cut [6,8] [] (.seq .d (.blk (.loop [0,1,2,6,8,37,38,39] [⟨2,[0], .own 3 (.int .i64)⟩,⟨2,[3,3], .own 21 (.int .i32)⟩] (.seq .d (.seq .d (.cut [0,1,2,6,8,37,38,39] [] (.blk (.seq .d (.seq .d (.seq .d (.cut [0,1,2,6,8,11,12,14,15,37,38,39] [⟨15,[], .own 21 (.int .i32)⟩] .d (.cut [0,1,2,6,8,16,37,38,39] [] (.keep [0,1,2,6,8,11,12,14,15,16,37,38,39,65,66,67,68,69,70,71] true) .d)))))) .d)))))) .d))))))),(74,(.seq .d (.cut [2,7] [] .d .d)))],f31⟩
def t21(f g:LB)(k:LI)(n m a b h p u o v w y:Int)(aa:LI)(ab:Int)(ad:LI)(ac:LX):S:=⟨[(0,vb f),(1,vs g),(2, .fn 74 [.ptr 0 [], .ptr 1 [], .ptr 2 [], .ptr 3 []]),(6, .ptr 4 []),(8, .ptr 5 []),(37, .own 6),(38,vi (Ac k)),(39,vi ab)],[.box 23 (.own 8), .box 3 (vi m), .box 60 (.agg [vi a,vi b]), .box 54 (.agg [vi a,vi b,vi h, .own 9]), .box 27 (.agg [vi 0,vi 0,vi 0,vi 0,vi 0]), .box 46 (.agg [.agg [vi p,vi u,vi o,vi v,vi w],vi y, .own 10]),Ai 3 k, .box 54 (.agg [vi 0,vi 0,vi 0, .nils]),Ai 3 ad,Aw 21 ac,Ai 3 aa],[[(0,vb f),(1,vs g),(5, .ptr 1 []),(6, .ptr 7 []),(12,vi n),(13, .ptr 2 []),(14, .ptr 0 []),(15, .ptr 3 []),(61,vb f),(62,vs g),(63, .fn 74 [.ptr 0 [], .ptr 1 [], .ptr 2 [], .ptr 3 []])]]⟩
def z21:Nat→S→Option R_:=H.i P_ [r,r,r,r,r,r,r,l,(call 3 73),r,r,r,r,r,l,r,d]
def x40(a b h ak:Int)(an:LI)(ah:LX):Option R_:=H.e P_ [r,r,r,r,r,r,r,r] ⟨[(6, .ptr 0 []),(12,vi ak),(14, .ptr 1 []),(15, .ptr 2 [])],[.box 54 (.agg [vi 0,vi 0,vi 0, .nils]), .box 23 (.own 3), .box 54 (.agg [vi a,vi b,vi h, .own 4]),Ai 3 an,Aw 21 ah],[]⟩
def x39(f g:LB)(n p u o v w y m a b h:Int)(aa ad:LI)(ac:LX):Option R_:=H.e P_ [r,r,r,r,r,r,r,l,(call 3 73),r,r,r,r,r,r] ⟨[(6, .ptr 0 []),(8, .ptr 1 [])],[.box 27 (.agg [vi 0,vi 0,vi 0,vi 0,vi 0]), .box 46 (.agg [.agg [vi p,vi u,vi o,vi v,vi w],vi y, .own 7]), .box 3 (vi m), .box 54 (.agg [vi 0,vi 0,vi 0, .nils]), .box 60 (.agg [vi a,vi b]), .box 23 (.own 8), .box 54 (.agg [vi a,vi b,vi h, .own 9]),Ai 3 aa,Ai 3 ad,Aw 21 ac],[[(0,vb f),(1,vs g),(5, .ptr 2 []),(6, .ptr 3 []),(12,vi n),(13, .ptr 4 []),(14, .ptr 5 []),(15, .ptr 6 []),(61,vb f),(62,vs g),(63, .fn 74 [.ptr 5 [], .ptr 2 [], .ptr 4 [], .ptr 6 []])]]⟩
def x37(kn21:K_)(f g:LB)(k:LI)(n m a b h p u o v w y:Int)(aa:LI)(ab:Int)(ai:LI)(aj:LX):Option R_:=H.e P_ [r,r,r,r,r,r,r,l,(call 3 73),r,r,r,r,r,l,r,d,(lp kn21),r,r,r] ⟨[(0,vb f),(1,vs g),(2, .fn 74 [.ptr 0 [], .ptr 1 [], .ptr 2 [], .ptr 3 []]),(6, .ptr 4 []),(8, .ptr 5 []),(37, .own 6),(38,vi (Ac k)),(39,vi ab)],[.box 23 (.own 8), .box 3 (vi m), .box 60 (.agg [vi a,vi b]), .box 54 (.agg [vi a,vi b,vi h, .own 9]), .box 27 (.agg [vi 0,vi 0,vi 0,vi 0,vi 0]), .box 46 (.agg [.agg [vi p,vi u,vi o,vi v,vi w],vi y, .own 10]),Ai 3 k, .box 54 (.agg [vi 0,vi 0,vi 0, .nils]),Ai 3 ai,Aw 21 aj,Ai 3 aa],[[(0,vb f),(1,vs g),(5, .ptr 1 []),(6, .ptr 7 []),(12,vi n),(13, .ptr 2 []),(14, .ptr 0 []),(15, .ptr 3 []),(61,vb f),(62,vs g),(63, .fn 74 [.ptr 0 [], .ptr 1 [], .ptr 2 [], .ptr 3 []])]]⟩
def x36(kn21:K_)(f g:LB)(k:LI)(n m a b h p u o v w y:Int)(aa:LI)(ab ao:Int)(ai:LI)(aj:LX):Option R_:=H.e P_ [r,r,r,r,r,r,r,l,(call 3 73),r,r,r,r,r,l,r,d,(lp kn21),r,r,l,d,r,r,r,r,r] ⟨[(0,vb f),(1,vs g),(2, .fn 74 [.ptr 0 [], .ptr 1 [], .ptr 2 [], .ptr 3 []]),(6, .ptr 4 []),(8, .ptr 5 []),(16,vi ao),(37, .own 6),(38,vi (Ac k)),(39,vi ab)],[.box 23 (.own 8), .box 3 (vi m), .box 60 (.agg [vi a,vi b]), .box 54 (.agg [vi a,vi b,vi h, .own 9]), .box 27 (.agg [vi 0,vi 0,vi 0,vi 0,vi 0]), .box 46 (.agg [.agg [vi p,vi u,vi o,vi v,vi w],vi y, .own 10]),Ai 3 k, .box 54 (.agg [vi 0,vi 0,vi 0, .nils]),Ai 3 ai,Aw 21 aj,Ai 3 aa],[[(0,vb f),(1,vs g),(5, .ptr 1 []),(6, .ptr 7 []),(12,vi n),(13, .ptr 2 []),(14, .ptr 0 []),(15, .ptr 3 []),(61,vb f),(62,vs g),(63, .fn 74 [.ptr 0 [], .ptr 1 [], .ptr 2 [], .ptr 3 []])]]⟩
def x34(kn21:K_)(f g:LB)(k:LI)(n a b h m p u o v w y:Int)(aa:LI)(ab af ae:Int)(al ag ac:LX)(am:LI):Option R_:=H.e P_ [r,r,r,r,r,r,r,l,(call 3 73),r,r,r,r,r,l,r,d,(lp kn21),r,r,l,d,r,r,r,r,l,(call 6 74),r,r] ⟨[(2, .own 0),(7, .ptr 1 [])],[Aw 21 al, .box 54 (.agg [vi a,vi b,vi h, .own 10]), .box 23 (.own 11), .box 3 (vi m), .box 60 (.agg [vi a,vi b]), .box 27 (.agg [vi 0,vi 0,vi 0,vi 0,vi 0]), .box 46 (.agg [.agg [vi p,vi u,vi o,vi v,vi w],vi y, .own 12]),Aw 21 ag,Ai 3 k, .box 54 (.agg [vi 0,vi 0,vi 0, .nils]),Aw 21 ac,Ai 3 am,Ai 3 aa],[[(0,vb f),(1,vs g),(2, .fn 74 [.ptr 2 [], .ptr 3 [], .ptr 4 [], .ptr 1 []]),(6, .ptr 5 []),(8, .ptr 6 []),(11,vi ab),(12,vi af),(14,vi ae),(15, .own 7),(37, .own 8),(38,vi (Ac k)),(39,vi ab),(65, .fn 74 [.ptr 2 [], .ptr 3 [], .ptr 4 [], .ptr 1 []]),(66,vi ab),(67,vi af),(68, .own 7),(69,vi ae),(70,vt (geq ae (0:Int)))],[(0,vb f),(1,vs g),(5, .ptr 3 []),(6, .ptr 9 []),(12,vi n),(13, .ptr 4 []),(14, .ptr 2 []),(15, .ptr 1 []),(61,vb f),(62,vs g),(63, .fn 74 [.ptr 2 [], .ptr 3 [], .ptr 4 [], .ptr 1 []])]]⟩
def x35(kn21:K_)(f g:LB)(k:LI)(n a b h m p u o v w y:Int)(aa:LI)(ab af ae:Int)(ag ac:LX)(ap:LI):Option R_:=H.e P_ [r,r,r,r,r,r,r,l,(call 3 73),r,r,r,r,r,l,r,d,(lp kn21),r,r,l,d,r,r,r,r,l,(call 6 74),r,r] ⟨[(2, .own 0),(7, .ptr 1 [])],[Aw 21 ag, .box 54 (.agg [vi a,vi b,vi h, .own 9]), .box 23 (.own 10), .box 3 (vi m), .box 60 (.agg [vi a,vi b]), .box 27 (.agg [vi 0,vi 0,vi 0,vi 0,vi 0]), .box 46 (.agg [.agg [vi p,vi u,vi o,vi v,vi w],vi y, .own 11]),Ai 3 k, .box 54 (.agg [vi 0,vi 0,vi 0, .nils]),Aw 21 ac,Ai 3 ap,Ai 3 aa],[[(0,vb f),(1,vs g),(2, .fn 74 [.ptr 2 [], .ptr 3 [], .ptr 4 [], .ptr 1 []]),(6, .ptr 5 []),(8, .ptr 6 []),(11,vi ab),(12,vi af),(14,vi ae),(15, .own 0),(37, .own 7),(38,vi (Ac k)),(39,vi ab),(65, .fn 74 [.ptr 2 [], .ptr 3 [], .ptr 4 [], .ptr 1 []]),(66,vi ab),(67,vi af),(68, .own 0),(69,vi ae),(70,vt (geq ae (0:Int)))],[(0,vb f),(1,vs g),(5, .ptr 3 []),(6, .ptr 8 []),(12,vi n),(13, .ptr 4 []),(14, .ptr 2 []),(15, .ptr 1 []),(61,vb f),(62,vs g),(63, .fn 74 [.ptr 2 [], .ptr 3 [], .ptr 4 [], .ptr 1 []])]]⟩
def x33(kn21:K_)(f g:LB)(k:LI)(n m a b h p u o v w y:Int)(aa:LI)(ab af ae:Int)(ad:LI)(ac ag:LX):Option R_:=H.e P_ [r,r,r,r,r,r,r,l,(call 3 73),r,r,r,r,r,l,r,d,(lp kn21),r,r,l,d,r,r,r,r] ⟨[(0,vb f),(1,vs g),(2, .fn 74 [.ptr 0 [], .ptr 1 [], .ptr 2 [], .ptr 3 []]),(6, .ptr 4 []),(8, .ptr 5 []),(11,vi ab),(12,vi af),(14,vi ae),(15, .own 6),(37, .own 7),(38,vi (Ac k)),(39,vi ab)],[.box 23 (.own 9), .box 3 (vi m), .box 60 (.agg [vi a,vi b]), .box 54 (.agg [vi a,vi b,vi h, .own 10]), .box 27 (.agg [vi 0,vi 0,vi 0,vi 0,vi 0]), .box 46 (.agg [.agg [vi p,vi u,vi o,vi v,vi w],vi y, .own 11]),Aw 21 ag,Ai 3 k, .box 54 (.agg [vi 0,vi 0,vi 0, .nils]),Ai 3 ad,Aw 21 ac,Ai 3 aa],[[(0,vb f),(1,vs g),(5, .ptr 1 []),(6, .ptr 8 []),(12,vi n),(13, .ptr 2 []),(14, .ptr 0 []),(15, .ptr 3 []),(61,vb f),(62,vs g),(63, .fn 74 [.ptr 0 [], .ptr 1 [], .ptr 2 [], .ptr 3 []])]]⟩
def x21(f g:LB)(k:LI)(n m a b h p u o v w y:Int)(aa:LI)(ab:Int)(ad:LI)(ac:LX):Option R_:=H.e P_ [r,r,r,r,r,r,r,l,(call 3 73),r,r,r,r,r,l,r,d] (t21 f g k n m a b h p u o v w y aa ab ad ac)
theorem e40:x40=Fh:=Eq.trans (b:=Vz) (by kernel_rfl) (by rw[Aqi];rfl)
theorem e39:x39=Akn:=Eq.trans (b:=Aks x40) (by kernel_rfl) (by simp only[e40]<;>rfl)
theorem e37(kn21:K_)(f g:LB)(k:LI)(n m a b h p u o v w y:Int)(aa:LI):x37 kn21 f g k n m a b h p u o v w y aa=Yl (fun ab ad ac=>kn21 (t21 f g k n m a b h p u o v w y aa ab ad ac)) f g k n m a b h p u o v w y aa:=by kernel_rfl
theorem e36(kn21:K_)(f g:LB)(k:LI)(n m a b h p u o v w y:Int)(aa:LI):x36 kn21 f g k n m a b h p u o v w y aa=Im (fun ab ad ac=>kn21 (t21 f g k n m a b h p u o v w y aa ab ad ac)) f g k n m a b h p u o v w y aa:=Eq.trans (b:=Aaz x40 (x37 kn21 f g k n m a b h p u o v w y aa) f g k n m a b h p u o v w y aa) (by kernel_rfl) (by simp only[e40,e37]<;>rfl)
theorem e34(kn21:K_)(f g:LB)(k:LI)(n m a b h p u o v w y:Int)(aa:LI):x34 kn21 f g k n a b h m p u o v w y aa=Yq (fun ab ad ac=>kn21 (t21 f g k n m a b h p u o v w y aa ab ad ac)) f g k n a b h m p u o v w y aa:=Eq.trans (b:=Aan (x36 kn21 f g k n m a b h p u o v w y aa) f g k n a b h m p u o v w y aa) (by kernel_rfl) (by simp only[e36]<;>rfl)
theorem e35(kn21:K_)(f g:LB)(k:LI)(n m a b h p u o v w y:Int)(aa:LI):x35 kn21 f g k n a b h m p u o v w y aa=Ql (fun ab ad ac=>kn21 (t21 f g k n m a b h p u o v w y aa ab ad ac)) f g k n a b h m p u o v w y aa:=Eq.trans (b:=Ra (x36 kn21 f g k n m a b h p u o v w y aa) f g k n a b h m p u o v w y aa) (by kernel_rfl) (by simp only[e36]<;>rfl)
theorem e33(kn21:K_)(f g:LB)(k:LI)(n m a b h p u o v w y:Int)(aa:LI):x33 kn21 f g k n m a b h p u o v w y aa=Qx (fun ab ad ac=>kn21 (t21 f g k n m a b h p u o v w y aa ab ad ac)) f g k n m a b h p u o v w y aa:=Eq.trans (b:=Qt (x36 kn21 f g k n m a b h p u o v w y aa) (x34 kn21 f g k n a b h m p u o v w y aa) (x35 kn21 f g k n a b h m p u o v w y aa) f g k n m a b h p u o v w y aa) (by kernel_rfl) (by simp only[e36,e34,e35]<;>rfl)
theorem i21(f g:LB)(k:LI)(n m a b h p u o v w y:Int)(aa:LI):∀(q:Nat) (ab:Int) (ad:LI) (ac:LX),z21 q (t21 f g k n m a b h p u o v w y aa ab ad ac)=Gm f g k n m a b h p u o v w y aa q ab ad ac:=
 ind (fun _ _ _=>by kernel_rfl) fun q ih ab ad ac=>Eq.trans (b:=Qi x40 (x33 (z21 q) f g k n m a b h p u o v w y aa) x39 f g k n m a b h p u o v w y aa ab ad ac) (by kernel_rfl) (by simp only[e40,e33,e39,ih]<;>rfl)
theorem e21:x21=Zu:=by funext f g k n m a b h p u o v w y aa ab ad ac;exact Eq.trans (by kernel_rfl) ((i21 f g k n m a b h p u o v w y aa Cn ab ad ac).trans (by rw[Ar];rfl))
noncomputable def F:=u3 Ch
theorem rn x:H.u P_ x=F x:=Eq.trans (b:=u3 (Mw x40 x21) x) (by kernel_rfl) (by simp only[e40,e21]<;>rfl)
noncomputable def c:Con:=⟨H.p,H.r,F⟩
theorem ok:ConOk P_ gl 31 c:=cr H func31 (.cons F21.ok (.cons F23.ok (.cons F24.ok (.cons F58.ok (.cons F75.ok (.cons F121.ok .nil)))))) (AnsOk.cons ent73 (AnsOk.cons ent74 AnsOk.nil)) rn
end F31
namespace F54
abbrev R_:=Bool
noncomputable def H:Hd:=⟨[Sl,Sl],[Sz],(.seq .d (.seq .d (.cut [] [] (.seq .d (.blk (.loop [0,1,5] [] .d))) .d))),⟨[],gl,false⟩,[],f54⟩
def t4(a b:LI)(f:Int):S:=⟨[(0,vl a),(1,vl b),(5,vi f)],[],[]⟩
def z4:Nat→S→Option R_:=H.i P_ [r,r,l,r,d]
def x6:Option R_:=H.e P_ [r,r,r] ⟨[],[],[]⟩
def x4(a b:LI)(f:Int):Option R_:=H.e P_ [r,r,l,r,d] (t4 a b f)
theorem e6:x6=Vo:=by kernel_rfl
theorem i4(a b:LI):∀(q:Nat) (f:Int),z4 q (t4 a b f)=Lu a b q f:=
 ind (fun _=>by kernel_rfl) fun q ih f=>Eq.trans (b:=Va x6 (fun f=>(z4 q) (t4 a b f)) a b f) (by kernel_rfl) (by simp only[e6,ih]<;>rfl)
theorem e4:x4=Vi:=by funext a b f;exact Eq.trans (by kernel_rfl) ((i4 a b Cn f).trans (by rw[Ar];rfl))
noncomputable def F:=u2 Hb
theorem rn x:H.u P_ x=F x:=Eq.trans (b:=u2 (Vf x4) x) (by kernel_rfl) (by simp only[e4]<;>rfl)
noncomputable def c:Con:=⟨H.p,H.r,F⟩
theorem ok:ConOk P_ gl 54 c:=co H func54 .nil rn
end F54
namespace F77
abbrev R_:=Bool
noncomputable def H:Hd:=⟨[Sw,Sw],[Sz],(.seq .d (.seq .d (.cut [] [] (.seq .d (.blk (.loop [0,1,5] [] .d))) .d))),⟨[],gl,false⟩,[],f77⟩
def t4(a b:LX)(f:Int):S:=⟨[(0,vw a),(1,vw b),(5,vi f)],[],[]⟩
def z4:Nat→S→Option R_:=H.i P_ [r,r,l,r,d]
def x6:Option R_:=H.e P_ [r,r,r] ⟨[],[],[]⟩
def x4(a b:LX)(f:Int):Option R_:=H.e P_ [r,r,l,r,d] (t4 a b f)
theorem e6:x6=Ae7:=by kernel_rfl
theorem i4(a b:LX):∀(q:Nat) (f:Int),z4 q (t4 a b f)=Fw a b q f:=
 ind (fun _=>by kernel_rfl) fun q ih f=>Eq.trans (b:=Lk x6 (fun f=>(z4 q) (t4 a b f)) a b f) (by kernel_rfl) (by simp only[e6,ih]<;>rfl)
theorem e4:x4=Adu:=by funext a b f;exact Eq.trans (by kernel_rfl) ((i4 a b Cn f).trans (by rw[Ar];rfl))
noncomputable def F:=u2 Qw
theorem rn x:H.u P_ x=F x:=Eq.trans (b:=u2 (Tf x4) x) (by kernel_rfl) (by simp only[e4]<;>rfl)
noncomputable def c:Con:=⟨H.p,H.r,F⟩
theorem ok:ConOk P_ gl 77 c:=co H func77 .nil rn
end F77
namespace F33
noncomputable def H:Hd:=⟨[.agg [Si,Si,Si,Sw], .agg [Si,Si,Si,Sw]],[Sz], .d,⟨[(77,F77.c)],gl,false⟩,[],f33⟩
noncomputable def F:=u8 Eb
theorem rn x:H.u P_ x=F x:=by kernel_rfl
noncomputable def c:Con:=⟨H.p,H.r,F⟩
theorem ok:ConOk P_ gl 33 c:=co H func33 (.cons F77.ok .nil) rn
end F33
namespace F72
noncomputable def H:Hd:=⟨[Sb,Si,Sl,Sw],[Sz], .d,⟨[(31,F31.c),(33,F33.c),(54,F54.c)],gl,false⟩,[],f72⟩
noncomputable def F:=u4 Cc
theorem rn x:H.u P_ x=F x:=by kernel_rfl
noncomputable def c:Con:=⟨H.p,H.r,F⟩
theorem ok:ConOk P_ gl 72 c:=co H func72 (.cons F31.ok (.cons F33.ok (.cons F54.ok .nil))) rn
end F72
namespace F30
noncomputable def H:Hd:=⟨[],[Sz], .d,⟨[(31,F31.c),(32,F32.c),(54,F54.c),(71,F71.c),(72,F72.c)],gl,false⟩,[],f30⟩
noncomputable def F(x:Unit):=Nw
theorem rn x:H.u P_ x=F x:=by kernel_rfl
noncomputable def c:Con:=⟨H.p,H.r,F⟩
theorem ok:ConOk P_ gl 30 c:=co H func30 (.cons F31.ok (.cons F32.ok (.cons F54.ok (.cons F71.ok (.cons F72.ok .nil))))) rn
end F30
namespace F10
noncomputable def H:Hd:=⟨[Sb],[Sz], .d,⟨[],gl,false⟩,[],f10⟩
noncomputable def F:=Zc
theorem rn x:H.u P_ x=F x:=by kernel_rfl
noncomputable def c:Con:=⟨H.p,H.r,F⟩
theorem ok:ConOk P_ gl 10 c:=co H func10 .nil rn
end F10
namespace F8
abbrev R_:=Bool
noncomputable def H:Hd:=⟨[Sb,Ss],[Sz],(.seq .d (.seq .d (.seq .d (.seq .d (.seq .d (.seq .d (.seq .d (.seq .d (.cut [5,6,7,11,13,14,16,17,18] [] .d (.cut [5,7,17,18] [] .d .d)))))))))),⟨[(10,F10.c),(24,F24.c),(30,F30.c),(31,F31.c),(32,F32.c),(33,F33.c)],gl,false⟩,[],f8⟩
def x4(a:Bool)(b f:Int)(g:LI):Option R_:=H.e P_ [r,r,r,r,r,r,r,r,r,r] ⟨[(5,vt a),(7,vi b),(17, .own 0),(18,vi f)],[Ai 3 g],[]⟩
def x3(a:Bool)(b w y f h k m aa ab ac o p u:Int)(g:LI)(n ad v:LX):Option R_:=H.e P_ [r,r,r,r,r,r,r,r,r] ⟨[(5,vt a),(6, .ptr 0 []),(7,vi b),(11, .ptr 1 []),(13,vi w),(14, .ptr 2 []),(16,vi y),(17, .own 3),(18,vi f)],[.box 54 (.agg [vi h,vi k,vi m, .own 4]), .box 54 (.agg [vi aa,vi ab,vi ac, .own 5]), .box 54 (.agg [vi o,vi p,vi u, .own 6]),Ai 3 g,Aw 21 n,Aw 21 ad,Aw 21 v],[]⟩
theorem e4:x4=Ga:=by kernel_rfl
theorem e3:x3=Dv:=Eq.trans (b:=Dx x4) (by kernel_rfl) (by simp only[e4]<;>rfl)
noncomputable def F:=u2 Hz
theorem rn x:H.u P_ x=F x:=Eq.trans (b:=u2 (Jj x3) x) (by kernel_rfl) (by simp only[e3]<;>rfl)
noncomputable def c:Con:=⟨H.p,H.r,F⟩
theorem ok:ConOk P_ gl 8 c:=co H func8 (.cons F10.ok (.cons F24.ok (.cons F30.ok (.cons F31.ok (.cons F32.ok (.cons F33.ok .nil)))))) rn
end F8
end
end Go.Proofs.YtfcmocdmhnafcaaGreatDoor
