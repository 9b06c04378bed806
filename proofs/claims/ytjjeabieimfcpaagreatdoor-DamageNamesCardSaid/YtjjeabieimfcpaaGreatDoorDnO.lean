/- A part of a proof (see the text that ends in Proof). No conditions. -/
import Derived.Test.YtjjeabieimfcpaaGreatDoorDnHA
set_option linter.unusedVariables false
set_option linter.unusedSimpArgs false
set_option maxRecDepth 10000
namespace Go.Proofs.YtjjeabieimfcpaaGreatDoor
open Go Go.Lv Go.Pl Go.Rx Go.Rx.PS
noncomputable section
def g0:List Value:=[.int .i64 2,.int .i64 2,.int .i64 2,.int .i64 4,.int .i64 4]
def g6:List Value:=[.int .u8 0,.int .u8 1,.int .u8 56,.int .u8 2,.int .u8 57,.int .u8 49,.int .u8 28,.int .u8 3,.int .u8 61,.int .u8 58,.int .u8 42,.int .u8 50,.int .u8 38,.int .u8 29,.int .u8 17,.int .u8 4,.int .u8 62,.int .u8 47,.int .u8 59,.int .u8 36,.int .u8 45,.int .u8 43,.int .u8 51,.int .u8 22,.int .u8 53,.int .u8 39,.int .u8 33,.int .u8 30,.int .u8 24,.int .u8 18,.int .u8 12,.int .u8 5,.int .u8 63,.int .u8 55,.int .u8 48,.int .u8 27,.int .u8 60,.int .u8 41,.int .u8 37,.int .u8 16,.int .u8 46,.int .u8 35,.int .u8 44,.int .u8 21,.int .u8 52,.int .u8 32,.int .u8 23,.int .u8 11,.int .u8 54,.int .u8 26,.int .u8 40,.int .u8 15,.int .u8 34,.int .u8 20,.int .u8 31,.int .u8 10,.int .u8 25,.int .u8 14,.int .u8 19,.int .u8 9,.int .u8 13,.int .u8 8,.int .u8 7,.int .u8 6]
def gl:List (Nat×List Value):=[(0,g0),(6,g6)]
theorem mixed:Tryz.prog.follows .mixedOrders=true:=by kernel_rfl
noncomputable abbrev P_:=Tryz.prog
theorem cr(H:Hd){f:Nat}{F:Jk (Fp H.p)->Option (Jk (Fp H.r))}(hf:P_.funcs[f]? =some H.f)(hT:Kf P_ H.T)(hA:∀p∈H.s,Ent P_ p.1)(h:∀x,H.u P_ x=F x)(hb:qK H=true:=by kernel_rfl):ConOk P_ H.T.gl f ⟨H.p,H.r,F⟩:=Hd.sO mixed H hf hT hA hb h
theorem co(H:Hd){f:Nat}{F:Jk (Fp H.p)->Option (Jk (Fp H.r))}(hf:P_.funcs[f]? =some H.f)(hT:Kf P_ H.T)(h:∀x,H.u P_ x=F x)(hb:(H.s.isEmpty&&qK H)=true:=by kernel_rfl):ConOk P_ H.T.gl f ⟨H.p,H.r,F⟩:=Hd.rK mixed H hf hT hb h
theorem ent46:Ent Tryz.prog 46:=Ent.mk Tryz.func46 (by kernel_rfl) rfl
theorem ent49:Ent Tryz.prog 49:=Ent.mk Tryz.func49 (by kernel_rfl) rfl
theorem ent54:Ent Tryz.prog 54:=Ent.mk Tryz.func54 (by kernel_rfl) rfl
theorem ent59:Ent Tryz.prog 59:=Ent.mk Tryz.func59 (by kernel_rfl) rfl
theorem ent65:Ent Tryz.prog 65:=Ent.mk Tryz.func65 (by kernel_rfl) rfl
theorem ent66:Ent Tryz.prog 66:=Ent.mk Tryz.func66 (by kernel_rfl) rfl
theorem ent107:Ent Tryz.prog 107:=Ent.mk Tryz.func107 (by kernel_rfl) rfl
theorem ent116:Ent Tryz.prog 116:=Ent.mk Tryz.func116 (by kernel_rfl) rfl
theorem ent117:Ent Tryz.prog 117:=Ent.mk Tryz.func117 (by kernel_rfl) rfl
theorem ent185:Ent Tryz.prog 185:=Ent.mk Tryz.func185 (by kernel_rfl) rfl
theorem ent195:Ent Tryz.prog 195:=Ent.mk Tryz.func195 (by kernel_rfl) rfl
theorem ent275:Ent Tryz.prog 275:=Ent.mk Tryz.func275 (by kernel_rfl) rfl
theorem ent276:Ent Tryz.prog 276:=Ent.mk Tryz.func276 (by kernel_rfl) rfl
theorem ent277:Ent Tryz.prog 277:=Ent.mk Tryz.func277 (by kernel_rfl) rfl
theorem ent282:Ent Tryz.prog 282:=Ent.mk Tryz.func282 (by kernel_rfl) rfl
theorem ent283:Ent Tryz.prog 283:=Ent.mk Tryz.func283 (by kernel_rfl) rfl
theorem ent284:Ent Tryz.prog 284:=Ent.mk Tryz.func284 (by kernel_rfl) rfl
theorem ent292:Ent Tryz.prog 292:=Ent.mk Tryz.func292 (by kernel_rfl) rfl
theorem ent330:Ent Tryz.prog 330:=Ent.mk Tryz.func330 (by kernel_rfl) rfl
theorem ent335:Ent Tryz.prog 335:=Ent.mk Tryz.func335 (by kernel_rfl) rfl
theorem ent337:Ent Tryz.prog 337:=Ent.mk Tryz.func337 (by kernel_rfl) rfl
theorem ent340:Ent Tryz.prog 340:=Ent.mk Tryz.func340 (by kernel_rfl) rfl
theorem ent364:Ent Tryz.prog 364:=Ent.mk Tryz.func364 (by kernel_rfl) rfl
abbrev u2{A B R:Type}(f:A->B->R)(x:A×B):=f x.1 x.2
abbrev u3{A B C R:Type}(f:A->B->C->R):=u2 λa=>u2 (f a)
abbrev u4{A B C D R:Type}(f:A->B->C->D->R):=u2 λa=>u3 (f a)
abbrev u5{A B C D E R:Type}(f:A->B->C->D->E->R):=u2 λa=>u4 (f a)
abbrev u6{A B C D E F R:Type}(f:A->B->C->D->E->F->R):=u2 λa=>u5 (f a)
abbrev u7{A B C D E F G R:Type}(f:A->B->C->D->E->F->G->R):=u2 λa=>u6 (f a)
open Go.Proofs.Tryz
namespace F101
def H:Hd:=⟨[.agg [Si,Si,Si,Sw]],[.agg [Si,Si]],.d,⟨[],gl,false⟩,[],f101⟩
def F:=u4 FI
theorem rn x:H.u P_ x=F x:=by kernel_rfl
def c:Con:=⟨H.p,H.r,F⟩
theorem ok:ConOk P_ gl 101 c:=co H func101 .nil rn
end F101
namespace F151
abbrev R_:=(Int32×Int32×Int)
def H:Hd:=⟨[Si],[Sx,Sx,Si],(.seq .d (.seq (.seq .d (.blk (.cut [0,7] [] .d .d))) .d)),⟨[],gl,false⟩,[],f151⟩
def x2(a:Int)(b:Bool):Option R_:=H.e P_ [r,l,r,d,r] ⟨[(0,vi a),(7,vt b)],[],[]⟩
theorem e2:x2=BM:=by kernel_rfl
def F:=BW
theorem rn x:H.u P_ x=F x:=Eq.trans (b:=Zp x2 x) (by kernel_rfl) (by simp only[e2]<;>rfl)
def c:Con:=⟨H.p,H.r,F⟩
theorem ok:ConOk P_ gl 151 c:=co H func151 .nil rn
end F151
namespace F123
def H:Hd:=⟨[.agg [Si,Si]],[Si],.d,⟨[(151,F151.c)],gl,false⟩,[],f123⟩
def F:=u2 La
theorem rn x:H.u P_ x=F x:=by kernel_rfl
def c:Con:=⟨H.p,H.r,F⟩
theorem ok:ConOk P_ gl 123 c:=co H func123 (.cons F151.ok .nil) rn
end F123
namespace F120
def H:Hd:=⟨[Si],[Si,Si],.d,⟨[],gl,false⟩,[],f120⟩
def F:=Tm
theorem rn x:H.u P_ x=F x:=by kernel_rfl
def c:Con:=⟨H.p,H.r,F⟩
theorem ok:ConOk P_ gl 120 c:=co H func120 .nil rn
end F120
namespace F119
def H:Hd:=⟨[Si,Si],[Si,Si],.d,⟨[(120,F120.c)],gl,false⟩,[],f119⟩
def F:=u2 Kx
theorem rn x:H.u P_ x=F x:=by kernel_rfl
def c:Con:=⟨H.p,H.r,F⟩
theorem ok:ConOk P_ gl 119 c:=co H func119 (.cons F120.ok .nil) rn
end F119
namespace F168
def H:Hd:=⟨[.agg [Si,Si,Si,Sw],Si],[Si],.d,⟨[(101,F101.c),(119,F119.c),(123,F123.c)],gl,false⟩,[],f168⟩
def F:=u5 TS
theorem rn x:H.u P_ x=F x:=by kernel_rfl
def c:Con:=⟨H.p,H.r,F⟩
theorem ok:ConOk P_ gl 168 c:=co H func168 (.cons F101.ok (.cons F119.ok (.cons F123.ok .nil))) rn
end F168
namespace F169
abbrev R_:=Int
def H:Hd:=⟨[Si,Sw],[Si],(.seq .d (.seq .d (.seq .d (.seq .d (.cut [] [] (.seq .d (.blk (.loop [5,6,22,23,24] [] .d))) .d))))),⟨[(151,F151.c)],gl,false⟩,[],f169⟩
def t4(b f:Int32)(a:LX)(g:Int):S:=⟨[(5,vx b),(6,vx f),(22,vw a),(23,vi (Ac a)),(24,vi g)],[],[]⟩
def z4:Nat->S->Option R_:=H.i P_ [r,r,r,r,l,r,d]
def x6:Option R_:=H.e P_ [r,r,r,r,r] ⟨[],[],[]⟩
def x4(b f:Int32)(a:LX)(g:Int):Option R_:=H.e P_ [r,r,r,r,l,r,d] (t4 b f a g)
theorem e6:x6=AN:=by kernel_rfl
theorem i4(b f:Int32)(a:LX):∀(q:Nat) (g:Int),z4 q (t4 b f a g)=Nn b f a q g:=
 ind (λ_=>by kernel_rfl) λq ih g=>Eq.trans (b:=Xo x6 (λg=>(z4 q) (t4 b f a g)) b f a g) (by kernel_rfl) (by simp only[e6,ih]<;>rfl)
theorem e4:x4=Xp:=by funext b f a g;exact Eq.trans (by kernel_rfl) ((i4 b f a Bj g).trans (by rw[Aj];rfl))
def F:=u2 Lj
theorem rn x:H.u P_ x=F x:=Eq.trans (b:=u2 (AI x4) x) (by kernel_rfl) (by simp only[e4]<;>rfl)
def c:Con:=⟨H.p,H.r,F⟩
theorem ok:ConOk P_ gl 169 c:=co H func169 (.cons F151.ok .nil) rn
end F169
namespace F93
def H:Hd:=⟨[.agg [Si,Si,Si,Sw]],[Si],.d,⟨[(168,F168.c),(169,F169.c)],gl,false⟩,[],f93⟩
def F:=u4 Kh
theorem rn x:H.u P_ x=F x:=by kernel_rfl
def c:Con:=⟨H.p,H.r,F⟩
theorem ok:ConOk P_ gl 93 c:=co H func93 (.cons F168.ok (.cons F169.ok .nil)) rn
end F93
namespace F41
def Lz(j2:LB->Int->Int->Int->LX->Option (Int×Int×Int×Int×Int×Int))(a b f:Int)(g:LX)(h:LB):Option (Int×Int×Int×Int×Int×Int):=
(Kh a b f g).bind λk=>
if(Bi k 0)then
some (0,0,0,0,0,k)
else
if(Fg (Ac h) 64)then
some (0,0,0,0,0,2)
else
(Ee (Bi a 0)).bind λ_=>
bo (
j2 h a b f g)
theorem FL: @Lz= @Na:=by
  unfold Lz Na;simp only[NF,Xd,AY]
abbrev R_:=(Int×Int×Int×Int×Int×Int)
def H:Hd:=⟨[.agg [Si,Si,Si,Sw],Ss],[.agg [Si,Si,Si,Si,Si],Si],(.seq .d (.seq .d (.seq .d (.cut [1,4,7] [] .d .d)))),⟨[(93,F93.c)],gl,false⟩,[],f41⟩
def x2(h:LB)(a b f:Int)(g:LX):Option R_:=H.e P_ [r,r,r,r] ⟨[(1,vs h),(4,.ptr 0 []),(7,.ptr 1 [])],[.box 33 (.agg [vi 0,vi 0,vi 0,vi 0,vi 0]),.box 33 (.agg [vi 1,vi a,vi b,vi f,vi (Jm (Ac g) a)])],[]⟩
theorem e2:x2=Zj:=by kernel_rfl
def F:=u5 MV
theorem rn x:H.u P_ x=F x:=Eq.trans (b:=u5 (Lz x2) x) (by kernel_rfl) (by unfold F;rw[FL];simp only[e2]<;>rfl)
def c:Con:=⟨H.p,H.r,F⟩
theorem ok:ConOk P_ gl 41 c:=co H func41 (.cons F93.ok .nil) rn
end F41
namespace F199
abbrev R_:=(UInt64×Int)
abbrev K_:=S->Option R_
def H:Hd:=⟨[Sq,Sb],[Sq,Si],(.seq .d (.seq .d (.cut [4,5] [] (.keep [0,1,4,5,9,10,11,12] true) .d))),⟨[],gl,false⟩,[(282,(.seq .d (.cut [1] [] (.seq .d (.blk (.loop [0,1,9,10,11] [] .d))) .d))),(283,(.seq .d (.seq .d (.cut [1] [] (.seq .d (.blk (.loop [1,5] [] (.seq .d (.seq .d (.cut [1,5] [] (.blk (.seq .d (.seq .d (.cut [1,2,3,5] [] (.seq .d (.blk (.loop [1,2,3,5,11] [] .d))) .d)))) .d)))))) .d))))],f199⟩
def t27(a:LB)(b:UInt64)(f:LQ)(h:UInt64)(m:Int):S:=⟨[(0,.ptr 0 []),(1,vq h),(9,vb a),(10,vi (Ac a)),(11,vi m)],[.box 413 (.val (.vec 256 (.int .u64)) f)],[[(0,vq b),(1,vb a),(4,vq 0),(5,vi 0),(9,.ptr 0 []),(10,vq b),(11,vb a)]]⟩
def z27:Nat->S->Option R_:=H.i P_ [r,r,l,(call 3 282),r,l,r,d]
def t21(b:UInt64)(a:LB)(g:Int)(f:LQ)(k:UInt64)(n:Int):S:=⟨[(1,.ptr 0 []),(2,vi g),(3,vq k),(5,vi g),(11,vi n)],[.box 413 (.val (.vec 256 (.int .u64)) f)],[[(0,vq b),(1,vb a),(4,vq 0),(5,vi 0)]]⟩
def z21(Bm:K_):Nat->S->Option R_:=H.i P_ [r,r,l,(call 0 283),r,r,l,r,d,(lp Bm),r,r,l,d,r,r,l,r,d]
def t16(b:UInt64)(a:LB)(g:Int)(f:LQ):S:=⟨[(1,.ptr 0 []),(5,vi g)],[.box 413 (.val (.vec 256 (.int .u64)) f)],[[(0,vq b),(1,vb a),(4,vq 0),(5,vi 0)]]⟩
def z16:Nat->S->Option R_:=H.i P_ [r,r,l,(call 0 283),r,r,l,r,d]
def x30(h:UInt64):Option R_:=H.e P_ [r,r,r] ⟨[(4,vq h),(5,vi 0)],[],[]⟩
def x29(h b:UInt64)(a:LB)(f:LQ):Option R_:=H.e P_ [r,r,l,(call 3 282),r,r] ⟨[(1,vq h)],[.box 413 (.val (.vec 256 (.int .u64)) f)],[[(0,vq b),(1,vb a),(4,vq 0),(5,vi 0),(9,.ptr 0 []),(10,vq b),(11,vb a)]]⟩
def x27(a:LB)(b:UInt64)(f:LQ)(h:UInt64)(m:Int):Option R_:=H.e P_ [r,r,l,(call 3 282),r,l,r,d] (t27 a b f h m)
def x26(b:UInt64)(a:LB)(f:LQ):Option R_:=H.e P_ [r,r,l,(call 0 283),r,r,r] ⟨[(1,.ptr 0 [])],[.box 413 (.val (.vec 256 (.int .u64)) f)],[[(0,vq b),(1,vb a),(4,vq 0),(5,vi 0)]]⟩
def x24(Bm:K_)(b:UInt64)(a:LB)(g:Int)(o:LQ):Option R_:=H.e P_ [r,r,l,(call 0 283),r,r,l,r,d,(lp Bm),r,r,r] ⟨[(1,.ptr 0 []),(5,vi g)],[.box 413 (.val (.vec 256 (.int .u64)) o)],[[(0,vq b),(1,vb a),(4,vq 0),(5,vi 0)]]⟩
def x23(Bm:K_)(b:UInt64)(a:LB)(g:Int)(k:UInt64)(f:LQ):Option R_:=H.e P_ [r,r,l,(call 0 283),r,r,l,r,d,(lp Bm),r,r,l,d,r,r,r] ⟨[(1,.ptr 0 []),(2,vi g),(3,vq k),(5,vi g)],[.box 413 (.val (.vec 256 (.int .u64)) f)],[[(0,vq b),(1,vb a),(4,vq 0),(5,vi 0)]]⟩
def x21(Bm:K_)(b:UInt64)(a:LB)(g:Int)(f:LQ)(k:UInt64)(n:Int):Option R_:=H.e P_ [r,r,l,(call 0 283),r,r,l,r,d,(lp Bm),r,r,l,d,r,r,l,r,d] (t21 b a g f k n)
def x16(b:UInt64)(a:LB)(g:Int)(f:LQ):Option R_:=H.e P_ [r,r,l,(call 0 283),r,r,l,r,d] (t16 b a g f)
theorem e30:x30=Zo:=by kernel_rfl
theorem e29:x29=AH:=Eq.trans (b:=Xr x30) (by kernel_rfl) (by simp only[e30]<;>rfl)
theorem i27(a:LB)(b:UInt64)(f:LQ):∀(q:Nat) (h:UInt64) (m:Int),z27 q (t27 a b f h m)=Ns a b f q h m:=
 ind (λ_ _=>by kernel_rfl) λq ih h m=>Eq.trans (b:=Yv x29 (λh m=>(z27 q) (t27 a b f h m)) a b f h m) (by kernel_rfl) (by simp only[e29,ih]<;>rfl)
theorem e27:x27=Yf:=by funext a b f h m;exact Eq.trans (by kernel_rfl) ((i27 a b f Bj h m).trans (by rw[Aj];rfl))
theorem e26:x26=Zr:=Eq.trans (b:=Xn x27) (by kernel_rfl) (by simp only[e27]<;>rfl)
theorem e24(Bm:K_)(b:UInt64)(a:LB):x24 Bm b a=Yl (λg f=>Bm (t16 b a g f)) b a:=by kernel_rfl
theorem e23(Bm:K_)(b:UInt64)(a:LB):x23 Bm b a=Yb (λg f=>Bm (t16 b a g f)) b a:=Eq.trans (b:=Xw (x24 Bm b a) b a) (by kernel_rfl) (by simp only[e24]<;>rfl)
theorem i21(Bm:K_)(b:UInt64)(a:LB)(g:Int)(f:LQ):∀(q:Nat) (k:UInt64) (n:Int),z21 Bm q (t21 b a g f k n)=Om (λg f=>Bm (t16 b a g f)) b a g f q k n:=
 ind (λ_ _=>by kernel_rfl) λq ih k n=>Eq.trans (b:=Xg (x23 Bm b a) (λk n=>(z21 Bm q) (t21 b a g f k n)) b a g f k n) (by kernel_rfl) (by simp only[e23,ih]<;>rfl)
theorem e21(Bm:K_)(b:UInt64)(a:LB):x21 Bm b a=BO (λg f=>Bm (t16 b a g f)) b a:=by funext g f k n;exact Eq.trans (by kernel_rfl) ((i21 Bm b a g f Bj k n).trans (by rw[Aj];rfl))
theorem i16(b:UInt64)(a:LB):∀(q:Nat) (g:Int) (f:LQ),z16 q (t16 b a g f)=Pe b a q g f:=
 ind (λ_ _=>by kernel_rfl) λq ih g f=>Eq.trans (b:=Ze (x21 (z16 q) b a) x26 b a g f) (by kernel_rfl) (by simp only[e21,e26,ih]<;>rfl)
theorem e16:x16=Zd:=by funext b a g f;exact Eq.trans (by kernel_rfl) ((i16 b a Bj g f).trans (by rw[Aj];rfl))
def F:=u2 RW
theorem rn x:H.u P_ x=F x:=Eq.trans (b:=u2 (EO x16) x) (by kernel_rfl) (by simp only[e16]<;>rfl)
def c:Con:=⟨H.p,H.r,F⟩
theorem ok:ConOk P_ gl 199 c:=cr H func199 .nil (Bp.cons ent282 (Bp.cons ent283 Bp.nil)) rn
end F199
namespace F121
def H:Hd:=⟨[Sb],[Sq,Si],.d,⟨[(199,F199.c)],gl,false⟩,[],f121⟩
def F:=KH
theorem rn x:H.u P_ x=F x:=by kernel_rfl
def c:Con:=⟨H.p,H.r,F⟩
theorem ok:ConOk P_ gl 121 c:=co H func121 (.cons F199.ok .nil) rn
end F121
namespace F122
abbrev R_:=LX
def H:Hd:=⟨[Sq],[.lf (.vec 16 (.int .i32)) none],(.seq .d (.seq .d (.cut [2,3] [] (.seq .d (.blk (.loop [0,2,3,5] [] .d))) .d))),⟨[],gl,false⟩,[],f122⟩
def t4(f:UInt64)(b:Int)(a:LX):S:=⟨[(0,vq f),(2,.ptr 0 []),(3,.ptr 1 []),(5,vi b)],[.box 105 (.val (.vec 16 (.int .i32)) (List.replicate 16 (0:Int32))),.box 105 (.val (.vec 16 (.int .i32)) a)],[]⟩
def z4:Nat->S->Option R_:=H.i P_ [r,r,l,r,d]
def x6(a:LX):Option R_:=H.e P_ [r,r,r] ⟨[(2,.ptr 0 []),(3,.ptr 1 [])],[.box 105 (.val (.vec 16 (.int .i32)) (List.replicate 16 (0:Int32))),.box 105 (.val (.vec 16 (.int .i32)) a)],[]⟩
def x4(f:UInt64)(b:Int)(a:LX):Option R_:=H.e P_ [r,r,l,r,d] (t4 f b a)
theorem e6:x6=PM:=by kernel_rfl
theorem i4(f:UInt64):∀(q:Nat) (b:Int) (a:LX),z4 q (t4 f b a)=FQ f q b a:=
 ind (λ_ _=>by kernel_rfl) λq ih b a=>Eq.trans (b:=SW x6 (λb a=>(z4 q) (t4 f b a)) f b a) (by kernel_rfl) (by simp only[e6,ih]<;>rfl)
theorem e4:x4=SV:=by funext f b a;exact Eq.trans (by kernel_rfl) ((i4 f Bj b a).trans (by rw[Aj];rfl))
def F:=bZ
theorem rn x:H.u P_ x=F x:=Eq.trans (b:=RX x4 x) (by kernel_rfl) (by simp only[e4]<;>rfl)
def c:Con:=⟨H.p,H.r,F⟩
theorem ok:ConOk P_ gl 122 c:=co H func122 .nil rn
end F122
namespace F67
def H:Hd:=⟨[Ss],[.lf (.vec 16 (.int .i32)) none,Si],.d,⟨[(121,F121.c),(122,F122.c)],gl,false⟩,[],f67⟩
def F:=Mu
theorem rn x:H.u P_ x=F x:=by kernel_rfl
def c:Con:=⟨H.p,H.r,F⟩
theorem ok:ConOk P_ gl 67 c:=co H func67 (.cons F121.ok (.cons F122.ok .nil)) rn
end F67
namespace F339
def H:Hd:=⟨[Sq,Sq],[Sq,Sq],.d,⟨[],gl,false⟩,[],f339⟩
def F:=u2 Ma
theorem rn x:H.u P_ x=F x:=by kernel_rfl
def c:Con:=⟨H.p,H.r,F⟩
theorem ok:ConOk P_ gl 339 c:=co H func339 .nil rn
end F339
namespace F280
def H:Hd:=⟨[Sq,Sq],[Sq,Sq],.d,⟨[(339,F339.c)],gl,false⟩,[],f280⟩
def F:=u2 Lb
theorem rn x:H.u P_ x=F x:=by kernel_rfl
def c:Con:=⟨H.p,H.r,F⟩
theorem ok:ConOk P_ gl 280 c:=co H func280 (.cons F339.ok .nil) rn
end F280
namespace F193
def Er(j10:LI->Option (LI))(WZ:Int->LI->Option (LI))(b:Int)(a:LI):Option (LI):=
if(Cd b (Ac a))then
both (
(TB (Ac a) b (Ac a)).bind λ_=>
(TB (Ac a) 0 b).bind λ_=>
WZ (Aa b (EF ((Ac a)-b) (Xb a 0 (b-(0:Int))).length)) (Hs a b ((Ac a)-b) (Xb a 0 (b-(0:Int))))) [
(TB (Ac a) 0 b).bind λ_=>
(TB (Ac a) b (Ac a)).bind λ_=>
WZ (Aa b (EF ((Ac a)-b) (Xb a 0 (b-(0:Int))).length)) (Hs a b ((Ac a)-b) (Xb a 0 (b-(0:Int))))]
else
j10 a
theorem Lt: @Er= @Ev:=by
  unfold Er Ev
  repeat (refine funext λ_=>?_)
  repeat' first
    |with_reducible rfl
    |with_reducible refine Gv ?_ ?_
    |with_reducible refine Gn ?_ ?_ ?_
    |with_reducible refine Gy ?_ ?_ ?_ ?_
    |((with_reducible refine Jz ?_ ?_);focus (intro h;first|(subst h;rfl)|(simp only[h];rfl)|(simp[Dh,Ac,h];done)))
    |with_reducible refine Jr λx=>?_
    |with_reducible refine Nw (λ_=>?_) (λ_=>?_)
    |(refine Eg (λh=>by simp only[h,Jv,Dg,Cx,ite_self]) (λx h=>?_);(try simp only[h,Dg]))
    |(refine Ff (λh=>?_) (λh=>?_)<;>simp only[h,if_true,if_false,Bool.false_eq_true])
abbrev R_:=LI
def H:Hd:=⟨[Sl,Si],[Ol 3],(.seq .d (.cut [0,1] [] .d (.seq .d (.cut [0,6] [] .d (.seq .d (.seq .d (.cut [7] [] (.blk (.loop [7,8] [] (.seq .d (.blk (.mode false))))) .d))))))),⟨[(280,F280.c)],gl,true⟩,[],f193⟩
def t8(b:Int)(a:LI):S:=⟨[(7,.own 0),(8,vi b)],[Ai 3 a],[]⟩
def z8:Nat->S->Option R_:=H.i P_ [r,r,r,r,r,r,l,d]
def x10(a:LI):Option R_:=H.e P_ [r,r,r,r,r,r,r] ⟨[(7,.own 0)],[Ai 3 a],[]⟩
def x8(b:Int)(a:LI):Option R_:=H.e P_ [r,r,r,r,r,r,l,d] (t8 b a)
def x7(f:LI)(g:UInt64):Option R_:=H.e P_ [r,r,r,r] ⟨[(0,vl f),(6,vq g)],[],[]⟩
def x6(f:LI)(h:Int):Option R_:=H.e P_ [r,r] ⟨[(0,vl f),(1,vi h)],[],[]⟩
theorem e10:x10=Hh:=by kernel_rfl
theorem i8:∀(q:Nat) (b:Int) (a:LI),z8 q (t8 b a)=Ey q b a:=
 ind (λ_ _=>by kernel_rfl) λq ih b a=>Eq.trans (b:=Er x10 (λb a=>(z8 q) (t8 b a)) b a) (by kernel_rfl) (by rw[Lt];simp only[e10,ih]<;>rfl)
theorem e8:x8=Ij:=by funext b a;exact Eq.trans (by kernel_rfl) ((i8 Bj b a).trans (by rw[Aj];rfl))
theorem e7:x7=If:=Eq.trans (b:=Ik x8) (by kernel_rfl) (by simp only[e8]<;>rfl)
theorem e6:x6=Il:=Eq.trans (b:=Hz x7) (by kernel_rfl) (by simp only[e7]<;>rfl)
def F:=u2 Kg
theorem rn x:H.u P_ x=F x:=Eq.trans (b:=u2 (Ii x6) x) (by kernel_rfl) (by simp only[e6]<;>rfl)
def c:Con:=⟨H.p,H.r,F⟩
theorem ok:ConOk P_ gl 193 c:=co H func193 (.cons F280.ok .nil) rn
end F193
namespace F281
abbrev R_:=LI
def H:Hd:=⟨[.lf (.list (.list (.int .i64))) none],[Ol 3],(.seq .d (.seq .d (.cut [0,3] [] (.seq .d (.blk (.loop [0,3,9,10,11] [] .d))) (.cut [0,6] [⟨6,[],.own 3 (.int .i64)⟩] (.keep [0,3,6,23,24] true) (.cut [6] [] (.seq .d (.blk (.loop [6,25,26,27] [] .d))) .d))))),⟨[],gl,true⟩,[(340,(.seq .d (.cut [0,1] [] .d .d)))],f281⟩
def t14(a:List LI)(g:Int)(f:LI):S:=⟨[(6,.own 0),(25,.val (.list (.list (.int .i64))) a),(26,vi (Ac a)),(27,vi g)],[Ai 3 f],[]⟩
def z14:Nat->S->Option R_:=H.i P_ [r,r,r,r,l,r,d]
def t9(a:List LI)(b h:Int):S:=⟨[(0,.val (.list (.list (.int .i64))) a),(3,vi b),(9,.val (.list (.list (.int .i64))) a),(10,vi (Ac a)),(11,vi h)],[],[]⟩
def z9:Nat->S->Option R_:=H.i P_ [r,r,l,r,d]
def x16(f:LI):Option R_:=H.e P_ [r,r,r,r,r] ⟨[(6,.own 0)],[Ai 3 f],[]⟩
def x14(a:List LI)(g:Int)(f:LI):Option R_:=H.e P_ [r,r,r,r,l,r,d] (t14 a g f)
def x13(a:List LI)(k:LI):Option R_:=H.e P_ [r,r,r,r] ⟨[(0,.val (.list (.list (.int .i64))) a),(6,.own 0)],[Ai 3 k],[]⟩
def x12(b:Int)(a:List LI):Option R_:=H.e P_ [r,r,r,l,(call 1 340),r,r] ⟨[(0,.nils),(1,vi b)],[],[[(0,.val (.list (.list (.int .i64))) a),(3,vi b),(23,vi b)]]⟩
def x11(a:List LI)(b:Int):Option R_:=H.e P_ [r,r,r] ⟨[(0,.val (.list (.list (.int .i64))) a),(3,vi b)],[],[]⟩
def x9(a:List LI)(b h:Int):Option R_:=H.e P_ [r,r,l,r,d] (t9 a b h)
theorem e16:x16=Hp:=by kernel_rfl
theorem i14(a:List LI):∀(q:Nat) (g:Int) (f:LI),z14 q (t14 a g f)=Ep a q g f:=
 ind (λ_ _=>by kernel_rfl) λq ih g f=>Eq.trans (b:=Hi x16 (λg f=>(z14 q) (t14 a g f)) a g f) (by kernel_rfl) (by simp only[e16,ih]<;>rfl)
theorem e14:x14=Hn:=by funext a g f;exact Eq.trans (by kernel_rfl) ((i14 a Bj g f).trans (by rw[Aj];rfl))
theorem e13:x13=Ho:=Eq.trans (b:=Hj x14) (by kernel_rfl) (by simp only[e14]<;>rfl)
theorem e12:x12=Hl:=Eq.trans (b:=Hk x13) (by kernel_rfl) (by simp only[e13]<;>rfl)
theorem e11:x11=Hg:=Eq.trans (b:=Hq x12) (by kernel_rfl) (by simp only[e12]<;>rfl)
theorem i9(a:List LI):∀(q:Nat) (b h:Int),z9 q (t9 a b h)=Ew a q b h:=
 ind (λ_ _=>by kernel_rfl) λq ih b h=>Eq.trans (b:=Ic x11 (λb h=>(z9 q) (t9 a b h)) a b h) (by kernel_rfl) (by simp only[e11,ih]<;>rfl)
theorem e9:x9=Ib:=by funext a b h;exact Eq.trans (by kernel_rfl) ((i9 a Bj b h).trans (by rw[Aj];rfl))
def F:=Kc
theorem rn x:H.u P_ x=F x:=Eq.trans (b:=Ig x9 x) (by kernel_rfl) (by simp only[e9]<;>rfl)
def c:Con:=⟨H.p,H.r,F⟩
theorem ok:ConOk P_ gl 281 c:=cr H func281 .nil (Bp.cons ent340 Bp.nil) rn
end F281
namespace F194
def H:Hd:=⟨[Sl,Sl],[Ol 3],.d,⟨[(281,F281.c)],gl,false⟩,[],f194⟩
def F:=u2 Zl
theorem rn x:H.u P_ x=F x:=by kernel_rfl
def c:Con:=⟨H.p,H.r,F⟩
theorem ok:ConOk P_ gl 194 c:=co H func194 (.cons F281.ok .nil) rn
end F194
namespace F114
def H:Hd:=⟨[Si,Si],[Ol 3,Si],.d,⟨[(119,F119.c),(120,F120.c),(193,F193.c),(194,F194.c)],gl,false⟩,[],f114⟩
def F:=u2 Lg
theorem rn x:H.u P_ x=F x:=by kernel_rfl
def c:Con:=⟨H.p,H.r,F⟩
theorem ok:ConOk P_ gl 114 c:=co H func114 (.cons F119.ok (.cons F120.ok (.cons F193.ok (.cons F194.ok .nil)))) rn
end F114
namespace F267
def H:Hd:=⟨[.agg [Si,Si],Sw],[Si],.d,⟨[(123,F123.c),(169,F169.c)],gl,false⟩,[],f267⟩
def F:=u3 DK
theorem rn x:H.u P_ x=F x:=by kernel_rfl
def c:Con:=⟨H.p,H.r,F⟩
theorem ok:ConOk P_ gl 267 c:=co H func267 (.cons F123.ok (.cons F169.ok .nil)) rn
end F267
namespace F290
def H:Hd:=⟨[Si,Sw],[Si],.d,⟨[],gl,false⟩,[],f290⟩
def F:=u2 KR
theorem rn x:H.u P_ x=F x:=by kernel_rfl
def c:Con:=⟨H.p,H.r,F⟩
theorem ok:ConOk P_ gl 290 c:=co H func290 .nil rn
end F290
namespace F291
def Dv(a:LX):Option (LX):=
TC a (
some ([]:LX)) (
(Dh ([]:LX) a).bind λb=>
some b)
theorem Kb: @Dv= @Ci:=by
  unfold Dv Ci
  repeat (refine funext λ_=>?_)
  repeat' first
    |with_reducible rfl
    |with_reducible refine Gv ?_ ?_
    |with_reducible refine Gn ?_ ?_ ?_
    |with_reducible refine Gy ?_ ?_ ?_ ?_
    |((with_reducible refine Jz ?_ ?_);focus (intro h;first|(subst h;rfl)|(simp only[h];rfl)|(simp[Dh,Ac,h];done)))
    |with_reducible refine Jr λx=>?_
    |with_reducible refine Nw (λ_=>?_) (λ_=>?_)
    |(refine Eg (λh=>by simp only[h,Jv,Dg,Cx,ite_self]) (λx h=>?_);(try simp only[h,Dg]))
    |(refine Ff (λh=>?_) (λh=>?_)<;>simp only[h,if_true,if_false,Bool.false_eq_true])
def H:Hd:=⟨[Sw],[Ow 21],.d,⟨[],gl,false⟩,[],f291⟩
def F:=Ci
theorem rn x:H.u P_ x=F x:=Eq.trans (b:=Dv x) (by kernel_rfl) (by rw[Kb];rfl)
def c:Con:=⟨H.p,H.r,F⟩
theorem ok:ConOk P_ gl 291 c:=co H func291 .nil rn
end F291
namespace F268
abbrev R_:=(LX×Int)
abbrev K_:=S->Option R_
def H:Hd:=⟨[Si,Sw],[Ow 21,Si],(.seq .d (.seq .d (.seq .d (.cut [7] [] (.seq .d (.blk (.loop [0,7,8] [] (.seq .d (.cut [0,7,8] [] (.blk (.keep [0,7,8,24,25,26,27,28,29] true)) .d))))) .d)))),⟨[(290,F290.c),(291,F291.c)],gl,true⟩,[(330,(.seq .d (.cut [0,2] [] (.seq .d (.blk (.loop [0,2,7,8] [] .d))) .d)))],f268⟩
def t17(b a h:Int)(g:LX):S:=⟨[(0,.view true 0 [] (.int .i32) a ((Aa a b)-a)),(2,vi (Ae ((Aa a b)-a) (1:Int))),(7,vi (Ae ((Aa a b)-a) (1:Int))),(8,vi h)],[Aw 21 g],[[(0,vi b),(7,.own 0),(8,vi a),(24,.own 0),(25,vi a),(26,vi a),(27,vi b),(28,vi (Aa a b)),(29,.view true 0 [] (.int .i32) a ((Aa a b)-a))]]⟩
def z17(En:K_):Nat->S->Option R_:=H.i P_ [r,r,r,l,r,d,(lp En),r,l,d,(call 6 330),r,l,r,d]
def t12(b a:Int)(f:LX):S:=⟨[(0,vi b),(7,.own 0),(8,vi a)],[Aw 21 f],[]⟩
def z12:Nat->S->Option R_:=H.i P_ [r,r,r,l,r,d]
def x22(f:LX):Option R_:=H.e P_ [r,r,r,r] ⟨[(7,.own 0)],[Aw 21 f],[]⟩
def x20(En:K_)(b a:Int)(k:LX):Option R_:=H.e P_ [r,r,r,l,r,d,(lp En),r,r] ⟨[(0,vi b),(7,.own 0),(8,vi a)],[Aw 21 k],[]⟩
def x19(En:K_)(b a:Int)(g:LX):Option R_:=H.e P_ [r,r,r,l,r,d,(lp En),r,l,d,(call 6 330),r,r] ⟨[(0,.view true 0 [] (.int .i32) a ((Aa a b)-a)),(2,vi (Ae ((Aa a b)-a) (1:Int)))],[Aw 21 g],[[(0,vi b),(7,.own 0),(8,vi a),(24,.own 0),(25,vi a),(26,vi a),(27,vi b),(28,vi (Aa a b)),(29,.view true 0 [] (.int .i32) a ((Aa a b)-a))]]⟩
def x17(En:K_)(b a h:Int)(g:LX):Option R_:=H.e P_ [r,r,r,l,r,d,(lp En),r,l,d,(call 6 330),r,l,r,d] (t17 b a h g)
def x12(b a:Int)(f:LX):Option R_:=H.e P_ [r,r,r,l,r,d] (t12 b a f)
theorem e22:x22=LH:=by kernel_rfl
theorem e20(En:K_)(b:Int):x20 En b=MW (λa f=>En (t12 b a f)) b:=by kernel_rfl
theorem e19(En:K_)(b:Int):x19 En b=LK (λa f=>En (t12 b a f)) b:=Eq.trans (b:=NI (x20 En b) b) (by kernel_rfl) (by simp only[e20]<;>rfl)
theorem i17(En:K_)(b a:Int):∀(q:Nat) (h:Int) (g:LX),z17 En q (t17 b a h g)=AM (λa f=>En (t12 b a f)) b a q h g:=
 ind (λ_ _=>by kernel_rfl) λq ih h g=>Eq.trans (b:=LD (x19 En b) (λh g=>(z17 En q) (t17 b a h g)) b a h g) (by kernel_rfl) (by simp only[e19,ih]<;>rfl)
theorem e17(En:K_)(b:Int):x17 En b=MA (λa f=>En (t12 b a f)) b:=by funext a h g;exact Eq.trans (by kernel_rfl) ((i17 En b a Bj h g).trans (by rw[Aj];rfl))
theorem i12(b:Int):∀(q:Nat) (a:Int) (f:LX),z12 q (t12 b a f)=BT b q a f:=
 ind (λ_ _=>by kernel_rfl) λq ih a f=>Eq.trans (b:=LW (x17 (z12 q) b) x22 b a f) (by kernel_rfl) (by simp only[e17,e22,ih]<;>rfl)
theorem e12:x12=LO:=by funext b a f;exact Eq.trans (by kernel_rfl) ((i12 b Bj a f).trans (by rw[Aj];rfl))
def F:=u2 dN
theorem rn x:H.u P_ x=F x:=Eq.trans (b:=u2 (QQ x12) x) (by kernel_rfl) (by simp only[e12]<;>rfl)
def c:Con:=⟨H.p,H.r,F⟩
theorem ok:ConOk P_ gl 268 c:=cr H func268 (.cons F290.ok (.cons F291.ok .nil)) (Bp.cons ent330 Bp.nil) rn
end F268
namespace F286
abbrev R_:=(Int×LX×LX×Int)
def H:Hd:=⟨[Si,.lf (.vec 16 (.int .i32)) none],[.agg [Si,.lf (.vec 16 (.int .i32)) none,.lf (.vec 16 (.int .i32)) none],Si],(.seq .d (.seq .d (.seq (.seq .d (.blk (.cut [4,6,9,11] [] .d .d))) .d))),⟨[],gl,false⟩,[],f286⟩
def x2(a:Int)(b:LX)(f:Bool):Option R_:=H.e P_ [r,r,l,r,d,r] ⟨[(4,.ptr 0 []),(6,.ptr 1 []),(9,vi a),(11,vt f)],[.box 279 (.agg [vi 0,.val (.vec 16 (.int .i32)) (List.replicate 16 (0:Int32)),.val (.vec 16 (.int .i32)) (List.replicate 16 (0:Int32))]),.box 279 (.agg [vi 10,.val (.vec 16 (.int .i32)) b,.val (.vec 16 (.int .i32)) (List.replicate 16 (0:Int32))])],[]⟩
theorem e2:x2=MH:=by kernel_rfl
def F:=u2 RT
theorem rn x:H.u P_ x=F x:=Eq.trans (b:=u2 (MU x2) x) (by kernel_rfl) (by simp only[e2]<;>rfl)
def c:Con:=⟨H.p,H.r,F⟩
theorem ok:ConOk P_ gl 286 c:=co H func286 .nil rn
end F286
namespace F206
def H:Hd:=⟨[Si,.lf (.vec 16 (.int .i32)) none],[.agg [Si,Sx,.agg [Si,.lf (.vec 16 (.int .i32)) none,.lf (.vec 16 (.int .i32)) none]],Si],.d,⟨[(286,F286.c)],gl,false⟩,[],f206⟩
def F:=u2 KY
theorem rn x:H.u P_ x=F x:=by kernel_rfl
def c:Con:=⟨H.p,H.r,F⟩
theorem ok:ConOk P_ gl 206 c:=co H func206 (.cons F286.ok .nil) rn
end F206
namespace F287
def H:Hd:=⟨[.agg [Si,Sx,.agg [Si,.lf (.vec 16 (.int .i32)) none,.lf (.vec 16 (.int .i32)) none]]],[Si],.d,⟨[(286,F286.c)],gl,false⟩,[],f287⟩
def F:=u5 Li
theorem rn x:H.u P_ x=F x:=by kernel_rfl
def c:Con:=⟨H.p,H.r,F⟩
theorem ok:ConOk P_ gl 287 c:=co H func287 (.cons F286.ok .nil) rn
end F287
namespace F342
def H:Hd:=⟨[Si],[Si,Si],.d,⟨[],gl,false⟩,[],f342⟩
def F:=ML
theorem rn x:H.u P_ x=F x:=by kernel_rfl
def c:Con:=⟨H.p,H.r,F⟩
theorem ok:ConOk P_ gl 342 c:=co H func342 .nil rn
end F342
namespace F343
def H:Hd:=⟨[Si,Sx],[Sx],.d,⟨[],gl,false⟩,[],f343⟩
def F:=u2 LG
theorem rn x:H.u P_ x=F x:=by kernel_rfl
def c:Con:=⟨H.p,H.r,F⟩
theorem ok:ConOk P_ gl 343 c:=co H func343 .nil rn
end F343
namespace F288
def H:Hd:=⟨[Si,Sx],[Sx,Si],.d,⟨[(342,F342.c),(343,F343.c)],gl,false⟩,[],f288⟩
def F:=u2 Lk
theorem rn x:H.u P_ x=F x:=by kernel_rfl
def c:Con:=⟨H.p,H.r,F⟩
theorem ok:ConOk P_ gl 288 c:=co H func288 (.cons F342.ok (.cons F343.ok .nil)) rn
end F288
namespace F366
def H:Hd:=⟨[.agg [Si,.lf (.vec 16 (.int .i32)) none,.lf (.vec 16 (.int .i32)) none]],[Si],.d,⟨[],gl,false⟩,[],f366⟩
def F:=u3 Oj
theorem rn x:H.u P_ x=F x:=by kernel_rfl
def c:Con:=⟨H.p,H.r,F⟩
theorem ok:ConOk P_ gl 366 c:=co H func366 .nil rn
end F366
namespace F344
abbrev R_:=(Int32×Int)
def H:Hd:=⟨[.agg [Si,.lf (.vec 16 (.int .i32)) none,.lf (.vec 16 (.int .i32)) none]],[Sx,Si],(.seq .d (.seq .d (.seq .d (.cut [1,5] [] (.seq .d (.blk (.loop [1,5,18,19] [] .d))) .d)))),⟨[(366,F366.c)],gl,false⟩,[],f344⟩
def t4(b:LX)(a:Int)(f:LX)(g:Int32)(h:Int):S:=⟨[(1,.ptr 0 []),(5,vx g),(18,.val (.vec 16 (.int .i32)) b),(19,vi h)],[.box 279 (.agg [vi a,.val (.vec 16 (.int .i32)) b,.val (.vec 16 (.int .i32)) f])],[]⟩
def z4:Nat->S->Option R_:=H.i P_ [r,r,r,l,r,d]
def x6(g:Int32)(a:Int)(b f:LX):Option R_:=H.e P_ [r,r,r,r] ⟨[(1,.ptr 0 []),(5,vx g)],[.box 279 (.agg [vi a,.val (.vec 16 (.int .i32)) b,.val (.vec 16 (.int .i32)) f])],[]⟩
def x4(b:LX)(a:Int)(f:LX)(g:Int32)(h:Int):Option R_:=H.e P_ [r,r,r,l,r,d] (t4 b a f g h)
theorem e6:x6=DP:=by kernel_rfl
theorem i4(b:LX)(a:Int)(f:LX):∀(q:Nat) (g:Int32) (h:Int),z4 q (t4 b a f g h)=Rn b a f q g h:=
 ind (λ_ _=>by kernel_rfl) λq ih g h=>Eq.trans (b:=DX x6 (λg h=>(z4 q) (t4 b a f g h)) b a f g h) (by kernel_rfl) (by simp only[e6,ih]<;>rfl)
theorem e4:x4=EB:=by funext b a f g h;exact Eq.trans (by kernel_rfl) ((i4 b a f Bj g h).trans (by rw[Aj];rfl))
def F:=u3 FN
theorem rn x:H.u P_ x=F x:=Eq.trans (b:=u3 (DH x4) x) (by kernel_rfl) (by simp only[e4]<;>rfl)
def c:Con:=⟨H.p,H.r,F⟩
theorem ok:ConOk P_ gl 344 c:=co H func344 (.cons F366.ok .nil) rn
end F344
namespace F377
def H:Hd:=⟨[Si],[Sx],.d,⟨[],gl,false⟩,[],f377⟩
def F:=JX
theorem rn x:H.u P_ x=F x:=by kernel_rfl
def c:Con:=⟨H.p,H.r,F⟩
theorem ok:ConOk P_ gl 377 c:=co H func377 .nil rn
end F377
namespace F367
abbrev R_:=(Int×LX×LX×Int)
def H:Hd:=⟨[.agg [Si,.lf (.vec 16 (.int .i32)) none,.lf (.vec 16 (.int .i32)) none],Sx],[.agg [Si,.lf (.vec 16 (.int .i32)) none,.lf (.vec 16 (.int .i32)) none],Si],(.seq .d (.seq .d (.seq .d (.cut [2,4] [] (.seq .d (.blk (.loop [1,2,4,19,20] [] .d))) .d)))),⟨[(366,F366.c),(377,F377.c)],gl,false⟩,[],f367⟩
def t4(h:Int32)(f:LX)(g a:Int)(b:LX):S:=⟨[(1,vx h),(2,.ptr 0 []),(4,.ptr 1 []),(19,.val (.vec 16 (.int .i32)) f),(20,vi a)],[.box 279 (.agg [vi g,.val (.vec 16 (.int .i32)) b,.val (.vec 16 (.int .i32)) f]),.box 279 (.agg [vi 0,.val (.vec 16 (.int .i32)) (List.replicate 16 (0:Int32)),.val (.vec 16 (.int .i32)) (List.replicate 16 (0:Int32))])],[]⟩
def z4:Nat->S->Option R_:=H.i P_ [r,r,r,l,r,d]
def x6(g:Int)(b f:LX):Option R_:=H.e P_ [r,r,r,r] ⟨[(2,.ptr 0 []),(4,.ptr 1 [])],[.box 279 (.agg [vi g,.val (.vec 16 (.int .i32)) b,.val (.vec 16 (.int .i32)) f]),.box 279 (.agg [vi 0,.val (.vec 16 (.int .i32)) (List.replicate 16 (0:Int32)),.val (.vec 16 (.int .i32)) (List.replicate 16 (0:Int32))])],[]⟩
def x4(h:Int32)(f:LX)(g a:Int)(b:LX):Option R_:=H.e P_ [r,r,r,l,r,d] (t4 h f g a b)
theorem e6:x6=EC:=by kernel_rfl
theorem i4(h:Int32)(f:LX)(g:Int):∀(q:Nat) (a:Int) (b:LX),z4 q (t4 h f g a b)=Rf h f g q a b:=
 ind (λ_ _=>by kernel_rfl) λq ih a b=>Eq.trans (b:=DY x6 (λa b=>(z4 q) (t4 h f g a b)) h f g a b) (by kernel_rfl) (by simp only[e6,ih]<;>rfl)
theorem e4:x4=DS:=by funext h f g a b;exact Eq.trans (by kernel_rfl) ((i4 h f g Bj a b).trans (by rw[Aj];rfl))
def F:=u4 SX
theorem rn x:H.u P_ x=F x:=Eq.trans (b:=u4 (EM x4) x) (by kernel_rfl) (by simp only[e4]<;>rfl)
def c:Con:=⟨H.p,H.r,F⟩
theorem ok:ConOk P_ gl 367 c:=co H func367 (.cons F366.ok (.cons F377.ok .nil)) rn
end F367
namespace F368
def Qy(j2:Int32->Int->LX->LX->Option (Int×LX×LX×Int))(b:Int)(f a:LX)(g:Int32):Option (Int×LX×LX×Int):=
(Oj b f a).bind λh=>
if(Bi h 0)then
some (0,(List.replicate 16 (0:Int32)),(List.replicate 16 (0:Int32)),h)
else
both (
(TB 16 1 16).bind λ_=>
(TB 16 0 16).bind λ_=>
j2 g b f a) [
(TB 16 0 16).bind λ_=>
(TB 16 1 16).bind λ_=>
j2 g b f a]
theorem KV: @Qy= @Ub:=by
  unfold Qy Ub
  repeat (refine funext λ_=>?_)
  repeat' first
    |with_reducible rfl
    |with_reducible refine Gv ?_ ?_
    |with_reducible refine Gn ?_ ?_ ?_
    |with_reducible refine Gy ?_ ?_ ?_ ?_
    |((with_reducible refine Jz ?_ ?_);focus (intro h;first|(subst h;rfl)|(simp only[h];rfl)|(simp[Dh,Ac,h];done)))
    |with_reducible refine Jr λx=>?_
    |with_reducible refine Nw (λ_=>?_) (λ_=>?_)
    |(refine Eg (λh=>by simp only[h,Jv,Dg,Cx,ite_self]) (λx h=>?_);(try simp only[h,Dg]))
    |(refine Ff (λh=>?_) (λh=>?_)<;>simp only[h,if_true,if_false,Bool.false_eq_true])
abbrev R_:=(Int×LX×LX×Int)
def H:Hd:=⟨[.agg [Si,.lf (.vec 16 (.int .i32)) none,.lf (.vec 16 (.int .i32)) none],Sx],[.agg [Si,.lf (.vec 16 (.int .i32)) none,.lf (.vec 16 (.int .i32)) none],Si],(.seq .d (.seq .d (.cut [1,2,4] [] .d .d))),⟨[(366,F366.c)],gl,false⟩,[],f368⟩
def x2(g:Int32)(b:Int)(f a:LX):Option R_:=H.e P_ [r,r,r] ⟨[(1,vx g),(2,.ptr 0 []),(4,.ptr 1 [])],[.box 279 (.agg [vi b,.val (.vec 16 (.int .i32)) f,.val (.vec 16 (.int .i32)) (Hs a (1:Int) ((16:Int)-(1:Int)) (Xb a (0:Int) ((16:Int)-(0:Int))))]),.box 279 (.agg [vi 0,.val (.vec 16 (.int .i32)) (List.replicate 16 (0:Int32)),.val (.vec 16 (.int .i32)) (List.replicate 16 (0:Int32))])],[]⟩
theorem e2:x2=IK:=by kernel_rfl
def F:=u4 US
theorem rn x:H.u P_ x=F x:=Eq.trans (b:=u4 (Qy x2) x) (by kernel_rfl) (by unfold F;rw[KV];simp only[e2]<;>rfl)
def c:Con:=⟨H.p,H.r,F⟩
theorem ok:ConOk P_ gl 368 c:=co H func368 (.cons F366.ok .nil) rn
end F368
namespace F345
def H:Hd:=⟨[.agg [Si,.lf (.vec 16 (.int .i32)) none,.lf (.vec 16 (.int .i32)) none],Sx,Sx],[.agg [Si,.lf (.vec 16 (.int .i32)) none,.lf (.vec 16 (.int .i32)) none]],.d,⟨[(367,F367.c),(368,F368.c)],gl,false⟩,[],f345⟩
def F:=u5 FD
theorem rn x:H.u P_ x=F x:=by kernel_rfl
def c:Con:=⟨H.p,H.r,F⟩
theorem ok:ConOk P_ gl 345 c:=co H func345 (.cons F367.ok (.cons F368.ok .nil)) rn
end F345
namespace F331
def H:Hd:=⟨[.agg [Si,.lf (.vec 16 (.int .i32)) none,.lf (.vec 16 (.int .i32)) none],Sx],[Sx,.agg [Si,.lf (.vec 16 (.int .i32)) none,.lf (.vec 16 (.int .i32)) none],Si],.d,⟨[(344,F344.c),(345,F345.c)],gl,false⟩,[],f331⟩
def F:=u4 CD
theorem rn x:H.u P_ x=F x:=by kernel_rfl
def c:Con:=⟨H.p,H.r,F⟩
theorem ok:ConOk P_ gl 331 c:=co H func331 (.cons F344.ok (.cons F345.ok .nil)) rn
end F331
namespace F269
def Jw(a:Int)(b:Int32)(f:Int)(g h:LX)(k:Int32):Option (Int32×Int×Int32×Int×LX×LX×Int):=
(Li a b f g h).bind λm=>
if(Bi m 0)then
some (0,0,0,0,(List.replicate 16 (0:Int32)),(List.replicate 16 (0:Int32)),m)
else
(Lk a b).bind λ(n,y)=>
(CD f g h (Ae k n)).bind λ(o,p,u,v,w)=>
bo (
some (o,a,k,p,u,v,w))
theorem AX: @Jw= @Kw:=by
  unfold Jw Kw;simp only[NF,Xd,AY]
def H:Hd:=⟨[.agg [Si,Sx,.agg [Si,.lf (.vec 16 (.int .i32)) none,.lf (.vec 16 (.int .i32)) none]],Sx],[Sx,.agg [Si,Sx,.agg [Si,.lf (.vec 16 (.int .i32)) none,.lf (.vec 16 (.int .i32)) none]],Si],(.seq .d (.seq .d (.seq .d (.seq .d (.seq (.mode false) .d))))),⟨[(287,F287.c),(288,F288.c),(331,F331.c)],gl,false⟩,[],f269⟩
def F:=u6 Kw
theorem rn x:H.u P_ x=F x:=Eq.trans (b:=u6 Jw x) (by kernel_rfl) (by rw[AX];rfl)
def c:Con:=⟨H.p,H.r,F⟩
theorem ok:ConOk P_ gl 269 c:=co H func269 (.cons F287.ok (.cons F288.ok (.cons F331.ok .nil))) rn
end F269
namespace F270
def H:Hd:=⟨[Sx],[Su],.d,⟨[],gl,false⟩,[],f270⟩
def F:=TX
theorem rn x:H.u P_ x=F x:=by kernel_rfl
def c:Con:=⟨H.p,H.r,F⟩
theorem ok:ConOk P_ gl 270 c:=co H func270 .nil rn
end F270
namespace F182
abbrev R_:=(LU×Int)
def H:Hd:=⟨[.agg [Si,Si],.lf (.vec 16 (.int .i32)) none,Sw],[Ov 43,Si],(.seq .d (.seq .d (.seq .d (.seq .d (.seq .d (.cut [3,9,11] [] (.seq .d (.blk (.loop [3,4,9,11,36] [] .d))) (.seq .d (.cut [13] [] (.seq .d (.blk (.loop [3,11,13,49,50,51] [⟨13,[],.own 43 (.int .u32)⟩] .d))) .d)))))))),⟨[(206,F206.c),(267,F267.c),(268,F268.c),(269,F269.c),(270,F270.c)],gl,false⟩,[],f182⟩
def t10(b:LX)(a f g:Int)(o:List (Int×Int32×(Int×LX×LX×Unit)×Unit))(k:LU):S:=⟨[(3,.ptr 0 []),(11,.ptr 1 []),(13,.own 2),(49,.own 3),(50,vi (Ac b)),(51,vi g)],[.box 104 (.agg [vi a,vi f]),.box 282 (.val (.vec 6 (.cons (.int .i64) (.cons (.int .i32) (.cons (.cons (.int .i64) (.cons (.vec 16 (.int .i32)) (.cons (.vec 16 (.int .i32)) .nil))) .nil)))) o),Av 43 k,Aw 21 b],[]⟩
def z10:Nat->S->Option R_:=H.i P_ [r,r,r,r,r,r,r,l,r,d]
def t7(a f:Int)(m b:LX)(n:Int)(h:List (Int×Int32×(Int×LX×LX×Unit)×Unit)):S:=⟨[(3,.ptr 0 []),(4,.ptr 1 []),(9,.own 2),(11,.ptr 3 []),(36,vi n)],[.box 104 (.agg [vi a,vi f]),.box 105 (.val (.vec 16 (.int .i32)) m),Aw 21 b,.box 282 (.val (.vec 6 (.cons (.int .i64) (.cons (.int .i32) (.cons (.cons (.int .i64) (.cons (.vec 16 (.int .i32)) (.cons (.vec 16 (.int .i32)) .nil))) .nil)))) h)],[]⟩
def z7:Nat->S->Option R_:=H.i P_ [r,r,r,r,r,l,r,d]
def x12(k:LU):Option R_:=H.e P_ [r,r,r,r,r,r,r,r] ⟨[(13,.own 0)],[Av 43 k],[]⟩
def x10(b:LX)(a f g:Int)(o:List (Int×Int32×(Int×LX×LX×Unit)×Unit))(k:LU):Option R_:=H.e P_ [r,r,r,r,r,r,r,l,r,d] (t10 b a f g o k)
def x9(a f:Int)(b:LX)(h:List (Int×Int32×(Int×LX×LX×Unit)×Unit)):Option R_:=H.e P_ [r,r,r,r,r,r] ⟨[(3,.ptr 0 []),(9,.own 1),(11,.ptr 2 [])],[.box 104 (.agg [vi a,vi f]),Aw 21 b,.box 282 (.val (.vec 6 (.cons (.int .i64) (.cons (.int .i32) (.cons (.cons (.int .i64) (.cons (.vec 16 (.int .i32)) (.cons (.vec 16 (.int .i32)) .nil))) .nil)))) h)],[]⟩
def x7(a f:Int)(m b:LX)(n:Int)(h:List (Int×Int32×(Int×LX×LX×Unit)×Unit)):Option R_:=H.e P_ [r,r,r,r,r,l,r,d] (t7 a f m b n h)
theorem e12:x12=Pq:=by kernel_rfl
theorem i10(b:LX)(a f:Int):∀(q:Nat) (g:Int) (o:List (Int×Int32×(Int×LX×LX×Unit)×Unit)) (k:LU),z10 q (t10 b a f g o k)=Iv b a f q g o k:=
 ind (λ_ _ _=>by kernel_rfl) λq ih g o k=>Eq.trans (b:=Pf x12 (λg o k=>(z10 q) (t10 b a f g o k)) b a f g o k) (by kernel_rfl) (by simp only[e12,ih]<;>rfl)
theorem e10:x10=Nl:=by funext b a f g o k;exact Eq.trans (by kernel_rfl) ((i10 b a f Bj g o k).trans (by rw[Aj];rfl))
theorem e9:x9=Pz:=Eq.trans (b:=Py x10) (by kernel_rfl) (by simp only[e10]<;>rfl)
theorem i7(a f:Int)(m b:LX):∀(q:Nat) (n:Int) (h:List (Int×Int32×(Int×LX×LX×Unit)×Unit)),z7 q (t7 a f m b n h)=Jt a f m b q n h:=
 ind (λ_ _=>by kernel_rfl) λq ih n h=>Eq.trans (b:=Qd x9 (λn h=>(z7 q) (t7 a f m b n h)) a f m b n h) (by kernel_rfl) (by simp only[e9,ih]<;>rfl)
theorem e7:x7=Qw:=by funext a f m b n h;exact Eq.trans (by kernel_rfl) ((i7 a f m b Bj n h).trans (by rw[Aj];rfl))
def F:=u4 Yh
theorem rn x:H.u P_ x=F x:=Eq.trans (b:=u4 (Qj x7) x) (by kernel_rfl) (by simp only[e7]<;>rfl)
def c:Con:=⟨H.p,H.r,F⟩
theorem ok:ConOk P_ gl 182 c:=co H func182 (.cons F206.ok (.cons F267.ok (.cons F268.ok (.cons F269.ok (.cons F270.ok .nil))))) rn
end F182
namespace F201
def H:Hd:=⟨[],[.agg [Si,Si,Sq,Sq]],.d,⟨[],gl,false⟩,[],f201⟩
noncomputable def F(x:Unit):=GP
theorem rn x:H.u P_ x=F x:=by kernel_rfl
def c:Con:=⟨H.p,H.r,F⟩
theorem ok:ConOk P_ gl 201 c:=co H func201 .nil rn
end F201
namespace F183
abbrev R_:=((List (Int×Int×UInt64×UInt64×Unit)))
def H:Hd:=⟨[],[.lf (.vec 6 (.cons (.int .i64) (.cons (.int .i64) (.cons (.int .u64) (.cons (.int .u64) .nil))))) none],(.seq .d (.seq .d (.cut [0,1] [] (.seq .d (.blk (.loop [0,1,3] [] .d))) .d))),⟨[(201,F201.c)],gl,false⟩,[],f183⟩
def t4(b:Int)(a:List (Int×Int×UInt64×UInt64×Unit)):S:=⟨[(0,.ptr 0 []),(1,.ptr 1 []),(3,vi b)],[.box 255 (.val (.vec 6 (.cons (.int .i64) (.cons (.int .i64) (.cons (.int .u64) (.cons (.int .u64) .nil))))) (List.replicate 6 ((0:Int),(0:Int),(0:UInt64),(0:UInt64),()))),.box 255 (.val (.vec 6 (.cons (.int .i64) (.cons (.int .i64) (.cons (.int .u64) (.cons (.int .u64) .nil))))) a)],[]⟩
def z4:Nat->S->Option R_:=H.i P_ [r,r,l,r,d]
def x6(a:List (Int×Int×UInt64×UInt64×Unit)):Option R_:=H.e P_ [r,r,r] ⟨[(0,.ptr 0 []),(1,.ptr 1 [])],[.box 255 (.val (.vec 6 (.cons (.int .i64) (.cons (.int .i64) (.cons (.int .u64) (.cons (.int .u64) .nil))))) (List.replicate 6 ((0:Int),(0:Int),(0:UInt64),(0:UInt64),()))),.box 255 (.val (.vec 6 (.cons (.int .i64) (.cons (.int .i64) (.cons (.int .u64) (.cons (.int .u64) .nil))))) a)],[]⟩
def x4(b:Int)(a:List (Int×Int×UInt64×UInt64×Unit)):Option R_:=H.e P_ [r,r,l,r,d] (t4 b a)
theorem e6:x6=Qs:=by kernel_rfl
theorem i4:∀(q:Nat) (b:Int) (a:List (Int×Int×UInt64×UInt64×Unit)),z4 q (t4 b a)=Jn q b a:=
 ind (λ_ _=>by kernel_rfl) λq ih b a=>Eq.trans (b:=Qv x6 (λb a=>(z4 q) (t4 b a)) b a) (by kernel_rfl) (by simp only[e6,ih]<;>rfl)
theorem e4:x4=Qq:=by funext b a;exact Eq.trans (by kernel_rfl) ((i4 Bj b a).trans (by rw[Aj];rfl))
noncomputable def F(x:Unit):=AD
theorem rn x:H.u P_ x=F x:=Eq.trans (b:=Qh x4) (by kernel_rfl) (by simp only[e4]<;>rfl)
def c:Con:=⟨H.p,H.r,F⟩
theorem ok:ConOk P_ gl 183 c:=co H func183 (.cons F201.ok .nil) rn
end F183
namespace F204
def H:Hd:=⟨[.agg [Sb,Si]],[Si],.d,⟨[],gl,false⟩,[],f204⟩
def F:=u2 Em
theorem rn x:H.u P_ x=F x:=by kernel_rfl
def c:Con:=⟨H.p,H.r,F⟩
theorem ok:ConOk P_ gl 204 c:=co H func204 .nil rn
end F204
namespace F271
def Ny(j4:Int->Int->UInt64->UInt64->Option Int)(a b:Int)(f g:UInt64):Option Int:=
both (
bo (
j4 a b f g)) [
j4 a b f g]
theorem HQ: @Ny= @Re:=by
  unfold Ny Re
  repeat (refine funext λ_=>?_)
  repeat' first
    |with_reducible rfl
    |with_reducible refine Gv ?_ ?_
    |with_reducible refine Gn ?_ ?_ ?_
    |with_reducible refine Gy ?_ ?_ ?_ ?_
    |((with_reducible refine Jz ?_ ?_);focus (intro h;first|(subst h;rfl)|(simp only[h];rfl)|(simp[Dh,Ac,h];done)))
    |with_reducible refine Jr λx=>?_
    |with_reducible refine Nw (λ_=>?_) (λ_=>?_)
    |(refine Eg (λh=>by simp only[h,Jv,Dg,Cx,ite_self]) (λx h=>?_);(try simp only[h,Dg]))
    |(refine Ff (λh=>?_) (λh=>?_)<;>simp only[h,if_true,if_false,Bool.false_eq_true])
def My(j3:Int->Int->UInt64->UInt64->Option Int)(a b:Int)(f g:UInt64):Option Int:=
both (
bo (
j3 a b f g)) [
j3 a b f g]
theorem IE: @My= @Ri:=by
  unfold My Ri
  repeat (refine funext λ_=>?_)
  repeat' first
    |with_reducible rfl
    |with_reducible refine Gv ?_ ?_
    |with_reducible refine Gn ?_ ?_ ?_
    |with_reducible refine Gy ?_ ?_ ?_ ?_
    |((with_reducible refine Jz ?_ ?_);focus (intro h;first|(subst h;rfl)|(simp only[h];rfl)|(simp[Dh,Ac,h];done)))
    |with_reducible refine Jr λx=>?_
    |with_reducible refine Nw (λ_=>?_) (λ_=>?_)
    |(refine Eg (λh=>by simp only[h,Jv,Dg,Cx,ite_self]) (λx h=>?_);(try simp only[h,Dg]))
    |(refine Ff (λh=>?_) (λh=>?_)<;>simp only[h,if_true,if_false,Bool.false_eq_true])
abbrev R_:=Int
def H:Hd:=⟨[.agg [Si,Si,Sq,Sq]],[Si],(.seq .d (.seq .d (.cut [1,3] [] (.mode false) (.cut [1,3] [] (.mode false) .d)))),⟨[],gl,false⟩,[],f271⟩
def x4(a b:Int)(f g:UInt64):Option R_:=H.e P_ [r,r,r,r] ⟨[(1,.ptr 0 []),(3,.ptr 1 [])],[.box 254 (.agg [vi a,vi b,vq f,vq g]),.box 254 (.agg [vi (Di (TH a (0:Int)) (24:Int)),vi (Di (TH b (0:Int)) (24:Int)),vq (Di f (68719476735:UInt64)),vq (Di g (68719476735:UInt64))])],[]⟩
def x3(a b:Int)(f g:UInt64):Option R_:=H.e P_ [r,r,r] ⟨[(1,.ptr 0 []),(3,.ptr 1 [])],[.box 254 (.agg [vi a,vi b,vq f,vq g]),.box 254 (.agg [vi (Di (TH a (0:Int)) (24:Int)),vi (Di (TH b (0:Int)) (24:Int)),vq f,vq g])],[]⟩
theorem e4:x4=DA:=by kernel_rfl
theorem e3:x3=EW:=Eq.trans (b:=Ny x4) (by kernel_rfl) (by rw[HQ];simp only[e4]<;>rfl)
def F:=u4 GA
theorem rn x:H.u P_ x=F x:=Eq.trans (b:=u4 (My x3) x) (by kernel_rfl) (by unfold F;rw[IE];simp only[e3]<;>rfl)
def c:Con:=⟨H.p,H.r,F⟩
theorem ok:ConOk P_ gl 271 c:=co H func271 .nil rn
end F271
namespace F272
def H:Hd:=⟨[.agg [Si,Si,Sq,Sq],Su],[Si,Su],.d,⟨[],gl,false⟩,[],f272⟩
def F:=u5 Ue
theorem rn x:H.u P_ x=F x:=by kernel_rfl
def c:Con:=⟨H.p,H.r,F⟩
theorem ok:ConOk P_ gl 272 c:=co H func272 .nil rn
end F272
namespace F200
def Ej(a:LB):Option (LB):=
TC a (
some ([]:LB)) (
(Dh ([]:LB) a).bind λb=>
some b)
theorem Lq: @Ej= @Db:=by
  unfold Ej Db
  repeat (refine funext λ_=>?_)
  repeat' first
    |with_reducible rfl
    |with_reducible refine Gv ?_ ?_
    |with_reducible refine Gn ?_ ?_ ?_
    |with_reducible refine Gy ?_ ?_ ?_ ?_
    |((with_reducible refine Jz ?_ ?_);focus (intro h;first|(subst h;rfl)|(simp only[h];rfl)|(simp[Dh,Ac,h];done)))
    |with_reducible refine Jr λx=>?_
    |with_reducible refine Nw (λ_=>?_) (λ_=>?_)
    |(refine Eg (λh=>by simp only[h,Jv,Dg,Cx,ite_self]) (λx h=>?_);(try simp only[h,Dg]))
    |(refine Ff (λh=>?_) (λh=>?_)<;>simp only[h,if_true,if_false,Bool.false_eq_true])
def H:Hd:=⟨[Sb],[Ob 5],.d,⟨[],gl,false⟩,[],f200⟩
def F:=Db
theorem rn x:H.u P_ x=F x:=Eq.trans (b:=Ej x) (by kernel_rfl) (by rw[Lq];rfl)
def c:Con:=⟨H.p,H.r,F⟩
theorem ok:ConOk P_ gl 200 c:=co H func200 .nil rn
end F200
namespace F332
def H:Hd:=⟨[.agg [Sb,Si]],[.agg [Ob 5,Si]],.d,⟨[(200,F200.c)],gl,false⟩,[],f332⟩
def F:=u2 KG
theorem rn x:H.u P_ x=F x:=by kernel_rfl
def c:Con:=⟨H.p,H.r,F⟩
theorem ok:ConOk P_ gl 332 c:=co H func332 (.cons F200.ok .nil) rn
end F332
namespace F273
abbrev R_:=(LB×Int×Int)
abbrev K_:=S->Option R_
def H:Hd:=⟨[.agg [Sb,Si],Sq,Si],[.agg [Ob 5,Si],Si],(.seq .d (.seq .d (.seq .d (.cut [3,6] [] (.keep [1,2,3,6,40,41] true) .d)))),⟨[(204,F204.c),(332,F332.c)],gl,false⟩,[(284,(.blk (.loop [0,1,2] [] (.seq .d (.blk (.cut [0,1,2] [] .d (.seq .d (.cut [0,1,2,7] [] .d .d))))))))],f273⟩
def t15(b:UInt64)(a:Int)(m:UInt64)(h f:Int)(o:LB):S:=⟨[(0,.ptr 0 []),(1,vq m),(2,vi h)],[.box 183 (.agg [.own 2,vi f]),.box 183 (.agg [.nils,vi 0]),Ab 5 o],[[(1,vq b),(2,vi a),(3,.ptr 0 []),(6,.ptr 1 []),(40,vq b),(41,vi a)]]⟩
def z15:Nat->S->Option R_:=H.i P_ [r,r,r,l,(call 2 284),d]
def t22(b:UInt64)(a:Int)(n:UInt64)(k g:Int)(p:LB):S:=⟨[(0,.ptr 0 []),(1,vq n),(2,vi k)],[.box 183 (.agg [.own 2,vi g]),.box 183 (.agg [.nils,vi 0]),Ab 5 p],[[(1,vq b),(2,vi a),(3,.ptr 0 []),(6,.ptr 1 []),(40,vq b),(41,vi a)]]⟩
def z22:Nat->S->Option R_:=H.i P_ [r,r,r,l,(call 2 284),d]
def x21(f:Int)(o:LB):Option R_:=H.e P_ [r,r,r,r] ⟨[(3,.ptr 0 []),(6,.ptr 1 [])],[.box 183 (.agg [.own 2,vi f]),.box 183 (.agg [.nils,vi 0]),Ab 5 o],[]⟩
def x19(TO:K_)(b:UInt64)(a:Int)(m:UInt64)(h f:Int)(w:LB):Option R_:=H.e P_ [r,r,r,l,(call 2 284),d,(lp TO),r,d,r,r,r] ⟨[(0,.ptr 0 []),(1,vq m),(2,vi h),(7,vi (Di h (Ae (8:Int) (Ck f (7:Int)))))],[.box 183 (.agg [.own 2,vi f]),.box 183 (.agg [.nils,vi 0]),Ab 5 w],[[(1,vq b),(2,vi a),(3,.ptr 0 []),(6,.ptr 1 []),(40,vq b),(41,vi a)]]⟩
def x18(TO:K_)(b:UInt64)(a:Int)(m:UInt64)(h f:Int)(u:LB):Option R_:=H.e P_ [r,r,r,l,(call 2 284),d,(lp TO),r,d,r] ⟨[(0,.ptr 0 []),(1,vq m),(2,vi h)],[.box 183 (.agg [.own 2,vi f]),.box 183 (.agg [.nils,vi 0]),Ab 5 u],[[(1,vq b),(2,vi a),(3,.ptr 0 []),(6,.ptr 1 []),(40,vq b),(41,vi a)]]⟩
def x15(b:UInt64)(a:Int)(m:UInt64)(h f:Int)(o:LB):Option R_:=H.e P_ [r,r,r,l,(call 2 284),d] (t15 b a m h f o)
def x28(g:Int)(p:LB):Option R_:=H.e P_ [r,r,r,r] ⟨[(3,.ptr 0 []),(6,.ptr 1 [])],[.box 183 (.agg [.own 2,vi g]),.box 183 (.agg [.nils,vi 0]),Ab 5 p],[]⟩
def x26(TP:K_)(b:UInt64)(a:Int)(n:UInt64)(k g:Int)(y:LB):Option R_:=H.e P_ [r,r,r,l,(call 2 284),d,(lp TP),r,d,r,r,r] ⟨[(0,.ptr 0 []),(1,vq n),(2,vi k),(7,vi (Di k (Ae (8:Int) (Ck g (7:Int)))))],[.box 183 (.agg [.own 2,vi g]),.box 183 (.agg [.nils,vi 0]),Ab 5 y],[[(1,vq b),(2,vi a),(3,.ptr 0 []),(6,.ptr 1 []),(40,vq b),(41,vi a)]]⟩
def x25(TP:K_)(b:UInt64)(a:Int)(n:UInt64)(k g:Int)(v:LB):Option R_:=H.e P_ [r,r,r,l,(call 2 284),d,(lp TP),r,d,r] ⟨[(0,.ptr 0 []),(1,vq n),(2,vi k)],[.box 183 (.agg [.own 2,vi g]),.box 183 (.agg [.nils,vi 0]),Ab 5 v],[[(1,vq b),(2,vi a),(3,.ptr 0 []),(6,.ptr 1 []),(40,vq b),(41,vi a)]]⟩
def x22(b:UInt64)(a:Int)(n:UInt64)(k g:Int)(p:LB):Option R_:=H.e P_ [r,r,r,l,(call 2 284),d] (t22 b a n k g p)
theorem e21:x21=HG:=by kernel_rfl
theorem e19(TO:K_)(b:UInt64)(a:Int):x19 TO b a=JK (λm h f o=>TO (t15 b a m h f o)) b a:=by kernel_rfl
theorem e18(TO:K_)(b:UInt64)(a:Int):x18 TO b a=HT (λm h f o=>TO (t15 b a m h f o)) b a:=Eq.trans (b:=IL (x19 TO b a) b a) (by kernel_rfl) (by simp only[e19]<;>rfl)
theorem i15(b:UInt64)(a:Int):∀(q:Nat) (m:UInt64) (h f:Int) (o:LB),z15 q (t15 b a m h f o)=Tr b a q m h f o:=
 ind (λ_ _ _ _=>by kernel_rfl) λq ih m h f o=>Eq.trans (b:=HW (x18 (z15 q) b a) x21 b a m h f o) (by kernel_rfl) (by simp only[e18,e21,ih]<;>rfl)
theorem e15:x15=JF:=by funext b a m h f o;exact Eq.trans (by kernel_rfl) ((i15 b a Bj m h f o).trans (by rw[Aj];rfl))
theorem e28:x28=JE:=by kernel_rfl
theorem e26(TP:K_)(b:UInt64)(a:Int):x26 TP b a=HS (λn k g p=>TP (t22 b a n k g p)) b a:=by kernel_rfl
theorem e25(TP:K_)(b:UInt64)(a:Int):x25 TP b a=IH (λn k g p=>TP (t22 b a n k g p)) b a:=Eq.trans (b:=HF (x26 TP b a) b a) (by kernel_rfl) (by simp only[e26]<;>rfl)
theorem i22(b:UInt64)(a:Int):∀(q:Nat) (n:UInt64) (k g:Int) (p:LB),z22 q (t22 b a n k g p)=Tx b a q n k g p:=
 ind (λ_ _ _ _=>by kernel_rfl) λq ih n k g p=>Eq.trans (b:=GV (x25 (z22 q) b a) x28 b a n k g p) (by kernel_rfl) (by simp only[e25,e28,ih]<;>rfl)
theorem e22:x22=IB:=by funext b a n k g p;exact Eq.trans (by kernel_rfl) ((i22 b a Bj n k g p).trans (by rw[Aj];rfl))
def F:=u4 AP
theorem rn x:H.u P_ x=F x:=Eq.trans (b:=u4 (LZ x15 x22) x) (by kernel_rfl) (by simp only[e15,e22]<;>rfl)
def c:Con:=⟨H.p,H.r,F⟩
theorem ok:ConOk P_ gl 273 c:=cr H func273 (.cons F204.ok (.cons F332.ok .nil)) (Bp.cons ent284 Bp.nil) rn
end F273
namespace F333
def H:Hd:=⟨[Su,Si],[Sz],.d,⟨[],gl,false⟩,[],f333⟩
def F:=u2 Un
theorem rn x:H.u P_ x=F x:=by kernel_rfl
def c:Con:=⟨H.p,H.r,F⟩
theorem ok:ConOk P_ gl 333 c:=co H func333 .nil rn
end F333
namespace F363
def H:Hd:=⟨[Si],[Si,Si],.d,⟨[],gl,false⟩,[],f363⟩
def F:=IZ
theorem rn x:H.u P_ x=F x:=by kernel_rfl
def c:Con:=⟨H.p,H.r,F⟩
theorem ok:ConOk P_ gl 363 c:=co H func363 .nil rn
end F363
namespace F334
def H:Hd:=⟨[.agg [Sb,Si],Si],[.agg [Ob 5,Si],Si],.d,⟨[(204,F204.c),(273,F273.c),(363,F363.c)],gl,false⟩,[],f334⟩
def F:=u3 MY
theorem rn x:H.u P_ x=F x:=by kernel_rfl
def c:Con:=⟨H.p,H.r,F⟩
theorem ok:ConOk P_ gl 334 c:=co H func334 (.cons F204.ok (.cons F273.ok (.cons F363.ok .nil))) rn
end F334
namespace F274
abbrev R_:=(LB×Int×Int)
def H:Hd:=⟨[.agg [Sb,Si],Su,Si],[.agg [Ob 5,Si],Si],(.seq .d (.seq .d (.seq .d (.seq .d (.cut [3,6,9,10,11] [] .d .d))))),⟨[(204,F204.c),(273,F273.c),(333,F333.c),(334,F334.c)],gl,false⟩,[],f274⟩
def x2(b:LB)(f h:Int)(k:UInt32)(m:Int):Option R_:=H.e P_ [r,r,r,r,r] ⟨[(3,.ptr 0 []),(6,.ptr 1 []),(9,vi h),(10,vu k),(11,vi m)],[.box 183 (.agg [vb b,vi f]),.box 183 (.agg [.nils,vi 0])],[]⟩
theorem e2:x2=EK:=by kernel_rfl
def F:=u4 QX
theorem rn x:H.u P_ x=F x:=Eq.trans (b:=u4 (DD x2) x) (by kernel_rfl) (by simp only[e2]<;>rfl)
def c:Con:=⟨H.p,H.r,F⟩
theorem ok:ConOk P_ gl 274 c:=co H func274 (.cons F204.ok (.cons F273.ok (.cons F333.ok (.cons F334.ok .nil)))) rn
end F274
namespace F184
def Mc(k u n:Int)(a:UInt64)(b:UInt32)(o:UInt64)(m:LB):Option (LB×Int×Int×Int×UInt64×UInt64×Int):=
(λaf:Option (LB×Int×Int×Int×UInt64×UInt64×Int)=>
both (
bo (
af)) [
af]) (
some (m,k,u,n,(Aa a (Ae (Al b:UInt64) (Bn a (GI.toZ (4:UInt64)).toNat))),o,0))
theorem FR: @Mc= @Pr:=by
  unfold Mc Pr
  try simp only[NF,Xd,AY]
  all_goals
    repeat (refine funext λ_=>?_)
    repeat' first
      |with_reducible rfl
      |with_reducible refine Gv ?_ ?_
      |with_reducible refine Gn ?_ ?_ ?_
      |with_reducible refine Gy ?_ ?_ ?_ ?_
      |((with_reducible refine Jz ?_ ?_);focus (intro h;first|(subst h;rfl)|(simp only[h];rfl)|(simp[Dh,Ac,h];done)))
      |with_reducible refine Jr λx=>?_
      |with_reducible refine Nw (λ_=>?_) (λ_=>?_)
      |(refine Eg (λh=>by simp only[h,Jv,Dg,Cx,ite_self]) (λx h=>?_);(try simp only[h,Dg]))
      |(refine Ff (λh=>?_) (λh=>?_)<;>simp only[h,if_true,if_false,Bool.false_eq_true])
abbrev R_:=(LB×Int×Int×Int×UInt64×UInt64×Int)
def H:Hd:=⟨[.agg [Sb,Si],.agg [Si,Si,Sq,Sq],Su],[.agg [Ob 5,Si],.agg [Si,Si,Sq,Sq],Si],(.seq .d (.cut [2,3,4,6,7] [] .d (.seq .d (.seq .d (.cut [2,3,4,6,7,11] [] .d (.seq .d (.cut [3,4,6,7] [] (.keep [2,3,4,6,7,65] true) (.seq (.mode false) .d)))))))),⟨[(204,F204.c),(271,F271.c),(272,F272.c),(273,F273.c),(274,F274.c)],gl,false⟩,[(275,(.seq .d (.seq .d (.seq .d (.blk (.cut [0,1,4] [] (.blk (.seq .d (.keep [0,1,4,6,18,19,20,21,22,23,24,25] true))) (.cut [] [] (.keep [0,1,4,27,28,29,30,31,32,33,34] true) .d))))))),(335,.d)],f184⟩
def x10(k u n:Int)(a:UInt64)(b:UInt32)(o:UInt64)(m:LB):Option R_:=H.e P_ [r,r,r,r,r,r,r] ⟨[(3,.ptr 0 []),(4,.ptr 1 []),(6,.ptr 2 []),(7,.ptr 3 [])],[.box 183 (.agg [.own 4,vi k]),.box 254 (.agg [vi u,vi n,vq (Aa a (Ae (Al b:UInt64) (Bn a (GI.toZ (4:UInt64)).toNat))),vq o]),.box 183 (.agg [.nils,vi 0]),.box 254 (.agg [vi 0,vi 0,vq 0,vq 0]),Ab 5 m],[]⟩
def x9(b:UInt32)(k n:Int)(a o:UInt64)(m:LB)(u:Int):Option R_:=H.e P_ [r,r,r,r,r,r,l,(call 1 275),r,r,r,d,r,r] ⟨[],[.box 183 (.agg [.own 4,vi k]),.box 254 (.agg [vi u,vi n,vq (Aa a (Ae (Al b:UInt64) (Bn a (GI.toZ (4:UInt64)).toNat))),vq o]),.box 183 (.agg [.nils,vi 0]),.box 254 (.agg [vi 0,vi 0,vq 0,vq 0]),Ab 5 m],[[(2,vu b),(3,.ptr 0 []),(4,.ptr 1 []),(6,.ptr 2 []),(7,.ptr 3 []),(65,vu b)]]⟩
def x8(b:UInt32)(f:Int)(a:UInt64)(k:Int)(m:LB)(n:Int)(o:UInt64):Option R_:=H.e P_ [r,r,r,r,r,r,l,(call 1 275),r,r,r,d,r] ⟨[(0,.ptr 0 []),(1,vu b),(4,.fn 335 [])],[.box 254 (.agg [vi f,vi n,vq a,vq o]),.box 183 (.agg [.own 4,vi k]),.box 183 (.agg [.nils,vi 0]),.box 254 (.agg [vi 0,vi 0,vq 0,vq 0]),Ab 5 m],[[(2,vu b),(3,.ptr 1 []),(4,.ptr 0 []),(6,.ptr 2 []),(7,.ptr 3 []),(65,vu b)]]⟩
def x7(b:UInt32)(f h:Int)(a g:UInt64)(y k:Int)(m:LB):Option R_:=H.e P_ [r,r,r,r,r] ⟨[(2,vu b),(3,.ptr 0 []),(4,.ptr 1 []),(6,.ptr 2 []),(7,.ptr 3 []),(11,vi y)],[.box 183 (.agg [.own 4,vi k]),.box 254 (.agg [vi f,vi h,vq a,vq g]),.box 183 (.agg [.nils,vi 0]),.box 254 (.agg [vi 0,vi 0,vq 0,vq 0]),Ab 5 m],[]⟩
def x6(b:UInt32)(v:LB)(w f h:Int)(a g:UInt64):Option R_:=H.e P_ [r,r] ⟨[(2,vu b),(3,.ptr 0 []),(4,.ptr 1 []),(6,.ptr 2 []),(7,.ptr 3 [])],[.box 183 (.agg [vb v,vi w]),.box 254 (.agg [vi f,vi h,vq a,vq g]),.box 183 (.agg [.nils,vi 0]),.box 254 (.agg [vi 0,vi 0,vq 0,vq 0])],[]⟩
theorem e10:x10=BP:=Eq.trans (b:=Mc) (by kernel_rfl) (by rw[FR];rfl)
theorem e9:x9=EP:=Eq.trans (b:=EG x10) (by kernel_rfl) (by simp only[e10]<;>rfl)
theorem e8:x8=DI:=Eq.trans (b:=DF x9) (by kernel_rfl) (by simp only[e9]<;>rfl)
theorem e7:x7=EI:=Eq.trans (b:=DB x8) (by kernel_rfl) (by simp only[e8]<;>rfl)
theorem e6:x6=DG:=Eq.trans (b:=EU x7) (by kernel_rfl) (by simp only[e7]<;>rfl)
def F:=u7 QJ
theorem rn x:H.u P_ x=F x:=Eq.trans (b:=u7 (EZ x6) x) (by kernel_rfl) (by simp only[e6]<;>rfl)
def c:Con:=⟨H.p,H.r,F⟩
theorem ok:ConOk P_ gl 184 c:=cr H func184 (.cons F204.ok (.cons F271.ok (.cons F272.ok (.cons F273.ok (.cons F274.ok .nil))))) (Bp.cons ent275 (Bp.cons ent335 Bp.nil)) rn
end F184
namespace F188
abbrev R_:=(UInt32×Int)
abbrev K_:=S->Option R_
def H:Hd:=⟨[Su,Sb],[Su,Si],(.seq .d (.seq .d (.cut [0,1,6] [] (.keep [0,1,6,12] true) (.cut [0] [] (.seq .d (.blk (.loop [0,6,13,14,15] [] .d))) .d)))),⟨[],gl,false⟩,[(277,(.seq .d (.seq .d (.cut [1] [] (.seq .d (.blk (.loop [1,5] [] (.seq .d (.seq .d (.cut [1,5] [] (.blk (.seq .d (.seq .d (.cut [1,2,3,5] [] (.seq .d (.blk (.loop [1,2,3,5,10] [] .d))) .d)))) .d)))))) .d))))],f188⟩
def t28(a:LB)(b:LU)(h:UInt32)(m:Int):S:=⟨[(0,vu h),(6,.ptr 0 []),(13,vb a),(14,vi (Ac a)),(15,vi m)],[.box 407 (.val (.vec 256 (.int .u32)) b)],[]⟩
def z28:Nat->S->Option R_:=H.i P_ [r,r,r,l,r,d]
def t21(f:UInt32)(a:LB)(g:Int)(b:LU)(k:UInt32)(n:Int):S:=⟨[(1,.ptr 0 []),(2,vi g),(3,vu k),(5,vi g),(10,vi n)],[.box 407 (.val (.vec 256 (.int .u32)) b)],[[(0,vu f),(1,vb a)]]⟩
def z21(Bm:K_):Nat->S->Option R_:=H.i P_ [r,r,l,(call 0 277),r,r,l,r,d,(lp Bm),r,r,l,d,r,r,l,r,d]
def t16(f:UInt32)(a:LB)(g:Int)(b:LU):S:=⟨[(1,.ptr 0 []),(5,vi g)],[.box 407 (.val (.vec 256 (.int .u32)) b)],[[(0,vu f),(1,vb a)]]⟩
def z16:Nat->S->Option R_:=H.i P_ [r,r,l,(call 0 277),r,r,l,r,d]
def x30(h:UInt32):Option R_:=H.e P_ [r,r,r,r] ⟨[(0,vu h)],[],[]⟩
def x28(a:LB)(b:LU)(h:UInt32)(m:Int):Option R_:=H.e P_ [r,r,r,l,r,d] (t28 a b h m)
def x27(f:UInt32)(a:LB)(b:LU):Option R_:=H.e P_ [r,r,r] ⟨[(0,vu f),(1,vb a),(6,.ptr 0 [])],[.box 407 (.val (.vec 256 (.int .u32)) b)],[]⟩
def x26(f:UInt32)(a:LB)(b:LU):Option R_:=H.e P_ [r,r,l,(call 0 277),r,r,r] ⟨[(1,.ptr 0 [])],[.box 407 (.val (.vec 256 (.int .u32)) b)],[[(0,vu f),(1,vb a)]]⟩
def x24(Bm:K_)(f:UInt32)(a:LB)(g:Int)(o:LU):Option R_:=H.e P_ [r,r,l,(call 0 277),r,r,l,r,d,(lp Bm),r,r,r] ⟨[(1,.ptr 0 []),(5,vi g)],[.box 407 (.val (.vec 256 (.int .u32)) o)],[[(0,vu f),(1,vb a)]]⟩
def x23(Bm:K_)(f:UInt32)(a:LB)(g:Int)(k:UInt32)(b:LU):Option R_:=H.e P_ [r,r,l,(call 0 277),r,r,l,r,d,(lp Bm),r,r,l,d,r,r,r] ⟨[(1,.ptr 0 []),(2,vi g),(3,vu k),(5,vi g)],[.box 407 (.val (.vec 256 (.int .u32)) b)],[[(0,vu f),(1,vb a)]]⟩
def x21(Bm:K_)(f:UInt32)(a:LB)(g:Int)(b:LU)(k:UInt32)(n:Int):Option R_:=H.e P_ [r,r,l,(call 0 277),r,r,l,r,d,(lp Bm),r,r,l,d,r,r,l,r,d] (t21 f a g b k n)
def x16(f:UInt32)(a:LB)(g:Int)(b:LU):Option R_:=H.e P_ [r,r,l,(call 0 277),r,r,l,r,d] (t16 f a g b)
theorem e30:x30=Yg:=by kernel_rfl
theorem i28(a:LB)(b:LU):∀(q:Nat) (h:UInt32) (m:Int),z28 q (t28 a b h m)=Nx a b q h m:=
 ind (λ_ _=>by kernel_rfl) λq ih h m=>Eq.trans (b:=AZ x30 (λh m=>(z28 q) (t28 a b h m)) a b h m) (by kernel_rfl) (by simp only[e30,ih]<;>rfl)
theorem e28:x28=Zk:=by funext a b h m;exact Eq.trans (by kernel_rfl) ((i28 a b Bj h m).trans (by rw[Aj];rfl))
theorem e27:x27=Yp:=Eq.trans (b:=Yt x28) (by kernel_rfl) (by simp only[e28]<;>rfl)
theorem e26:x26=Zc:=Eq.trans (b:=Yj x27) (by kernel_rfl) (by simp only[e27]<;>rfl)
theorem e24(Bm:K_)(f:UInt32)(a:LB):x24 Bm f a=BE (λg b=>Bm (t16 f a g b)) f a:=by kernel_rfl
theorem e23(Bm:K_)(f:UInt32)(a:LB):x23 Bm f a=Ys (λg b=>Bm (t16 f a g b)) f a:=Eq.trans (b:=Zi (x24 Bm f a) f a) (by kernel_rfl) (by simp only[e24]<;>rfl)
theorem i21(Bm:K_)(f:UInt32)(a:LB)(g:Int)(b:LU):∀(q:Nat) (k:UInt32) (n:Int),z21 Bm q (t21 f a g b k n)=Nj (λg b=>Bm (t16 f a g b)) f a g b q k n:=
 ind (λ_ _=>by kernel_rfl) λq ih k n=>Eq.trans (b:=Xz (x23 Bm f a) (λk n=>(z21 Bm q) (t21 f a g b k n)) f a g b k n) (by kernel_rfl) (by simp only[e23,ih]<;>rfl)
theorem e21(Bm:K_)(f:UInt32)(a:LB):x21 Bm f a=Xk (λg b=>Bm (t16 f a g b)) f a:=by funext g b k n;exact Eq.trans (by kernel_rfl) ((i21 Bm f a g b Bj k n).trans (by rw[Aj];rfl))
theorem i16(f:UInt32)(a:LB):∀(q:Nat) (g:Int) (b:LU),z16 q (t16 f a g b)=Nf f a q g b:=
 ind (λ_ _=>by kernel_rfl) λq ih g b=>Eq.trans (b:=BA (x21 (z16 q) f a) x26 f a g b) (by kernel_rfl) (by simp only[e21,e26,ih]<;>rfl)
theorem e16:x16=Yd:=by funext f a g b;exact Eq.trans (by kernel_rfl) ((i16 f a Bj g b).trans (by rw[Aj];rfl))
def F:=u2 SM
theorem rn x:H.u P_ x=F x:=Eq.trans (b:=u2 (DU x16) x) (by kernel_rfl) (by simp only[e16]<;>rfl)
def c:Con:=⟨H.p,H.r,F⟩
theorem ok:ConOk P_ gl 188 c:=cr H func188 .nil (Bp.cons ent277 Bp.nil) rn
end F188
namespace F104
def H:Hd:=⟨[Sb],[Su,Si],.d,⟨[(188,F188.c)],gl,false⟩,[],f104⟩
def F:=Kj
theorem rn x:H.u P_ x=F x:=by kernel_rfl
def c:Con:=⟨H.p,H.r,F⟩
theorem ok:ConOk P_ gl 104 c:=co H func104 (.cons F188.ok .nil) rn
end F104
namespace F187
def H:Hd:=⟨[Sq,Si],[Sz],.d,⟨[],gl,false⟩,[],f187⟩
def F:=u2 dG
theorem rn x:H.u P_ x=F x:=by kernel_rfl
def c:Con:=⟨H.p,H.r,F⟩
theorem ok:ConOk P_ gl 187 c:=co H func187 .nil rn
end F187
namespace F103
abbrev R_:=(LB×Int)
def H:Hd:=⟨[Sq,Si],[Ob 5,Si],(.seq .d (.seq .d (.seq .d (.seq .d (.cut [6] [] (.seq .d (.blk (.loop [0,6,21,22] [] .d))) .d))))),⟨[(187,F187.c)],gl,false⟩,[],f103⟩
def t4(f:UInt64)(g:LB)(b:Int)(a:LB):S:=⟨[(0,vq f),(6,.own 0),(21,vi (Ac g)),(22,vi b)],[Ab 5 a],[]⟩
def z4:Nat->S->Option R_:=H.i P_ [r,r,r,r,l,r,d]
def x6(a:LB):Option R_:=H.e P_ [r,r,r,r,r] ⟨[(6,.own 0)],[Ab 5 a],[]⟩
def x4(f:UInt64)(g:LB)(b:Int)(a:LB):Option R_:=H.e P_ [r,r,r,r,l,r,d] (t4 f g b a)
theorem e6:x6=LR:=by kernel_rfl
theorem i4(f:UInt64)(g:LB):∀(q:Nat) (b:Int) (a:LB),z4 q (t4 f g b a)=AE f g q b a:=
 ind (λ_ _=>by kernel_rfl) λq ih b a=>Eq.trans (b:=ME x6 (λb a=>(z4 q) (t4 f g b a)) f g b a) (by kernel_rfl) (by simp only[e6,ih]<;>rfl)
theorem e4:x4=MQ:=by funext f g b a;exact Eq.trans (by kernel_rfl) ((i4 f g Bj b a).trans (by rw[Aj];rfl))
def F:=u2 Ld
theorem rn x:H.u P_ x=F x:=Eq.trans (b:=u2 (MM x4) x) (by kernel_rfl) (by simp only[e4]<;>rfl)
def c:Con:=⟨H.p,H.r,F⟩
theorem ok:ConOk P_ gl 103 c:=co H func103 (.cons F187.ok .nil) rn
end F103
namespace F186
abbrev R_:=LB
def H:Hd:=⟨[.lf (.list (.list (.int .u8))) none],[Ob 5],(.seq .d (.seq .d (.cut [0,3] [] (.seq .d (.blk (.loop [0,3,9,10,11] [] .d))) (.cut [0,6] [⟨6,[],.own 5 (.int .u8)⟩] (.keep [0,3,6,23,24] true) (.cut [6] [] (.seq .d (.blk (.loop [6,25,26,27] [] .d))) .d))))),⟨[],gl,true⟩,[(276,(.seq .d (.cut [0,1] [] .d .d)))],f186⟩
def t14(a:List LB)(g:Int)(f:LB):S:=⟨[(6,.own 0),(25,.val (.list (.list (.int .u8))) a),(26,vi (Ac a)),(27,vi g)],[Ab 5 f],[]⟩
def z14:Nat->S->Option R_:=H.i P_ [r,r,r,r,l,r,d]
def t9(a:List LB)(b h:Int):S:=⟨[(0,.val (.list (.list (.int .u8))) a),(3,vi b),(9,.val (.list (.list (.int .u8))) a),(10,vi (Ac a)),(11,vi h)],[],[]⟩
def z9:Nat->S->Option R_:=H.i P_ [r,r,l,r,d]
def x16(f:LB):Option R_:=H.e P_ [r,r,r,r,r] ⟨[(6,.own 0)],[Ab 5 f],[]⟩
def x14(a:List LB)(g:Int)(f:LB):Option R_:=H.e P_ [r,r,r,r,l,r,d] (t14 a g f)
def x13(a:List LB)(k:LB):Option R_:=H.e P_ [r,r,r,r] ⟨[(0,.val (.list (.list (.int .u8))) a),(6,.own 0)],[Ab 5 k],[]⟩
def x12(b:Int)(a:List LB):Option R_:=H.e P_ [r,r,r,l,(call 1 276),r,r] ⟨[(0,.nils),(1,vi b)],[],[[(0,.val (.list (.list (.int .u8))) a),(3,vi b),(23,vi b)]]⟩
def x11(a:List LB)(b:Int):Option R_:=H.e P_ [r,r,r] ⟨[(0,.val (.list (.list (.int .u8))) a),(3,vi b)],[],[]⟩
def x9(a:List LB)(b h:Int):Option R_:=H.e P_ [r,r,l,r,d] (t9 a b h)
theorem e16:x16=Ga:=by kernel_rfl
theorem i14(a:List LB):∀(q:Nat) (g:Int) (f:LB),z14 q (t14 a g f)=Dz a q g f:=
 ind (λ_ _=>by kernel_rfl) λq ih g f=>Eq.trans (b:=Gc x16 (λg f=>(z14 q) (t14 a g f)) a g f) (by kernel_rfl) (by simp only[e16,ih]<;>rfl)
theorem e14:x14=Fz:=by funext a g f;exact Eq.trans (by kernel_rfl) ((i14 a Bj g f).trans (by rw[Aj];rfl))
theorem e13:x13=Gh:=Eq.trans (b:=Ge x14) (by kernel_rfl) (by simp only[e14]<;>rfl)
theorem e12:x12=Gj:=Eq.trans (b:=Gi x13) (by kernel_rfl) (by simp only[e13]<;>rfl)
theorem e11:x11=Gk:=Eq.trans (b:=Gf x12) (by kernel_rfl) (by simp only[e12]<;>rfl)
theorem i9(a:List LB):∀(q:Nat) (b h:Int),z9 q (t9 a b h)=El a q b h:=
 ind (λ_ _=>by kernel_rfl) λq ih b h=>Eq.trans (b:=Gt x11 (λb h=>(z9 q) (t9 a b h)) a b h) (by kernel_rfl) (by simp only[e11,ih]<;>rfl)
theorem e9:x9=Gp:=by funext a b h;exact Eq.trans (by kernel_rfl) ((i9 a Bj b h).trans (by rw[Aj];rfl))
def F:=Jj
theorem rn x:H.u P_ x=F x:=Eq.trans (b:=Ha x9 x) (by kernel_rfl) (by simp only[e9]<;>rfl)
def c:Con:=⟨H.p,H.r,F⟩
theorem ok:ConOk P_ gl 186 c:=cr H func186 .nil (Bp.cons ent276 Bp.nil) rn
end F186
namespace F100
abbrev R_:=(LB×Int)
abbrev K_:=S->Option R_
def H:Hd:=⟨[.agg [Si,Si],.lf (.vec 16 (.int .i32)) none,Sw],[Ob 5,Si],(.seq .d (.seq .d (.seq .d (.seq .d (.seq .d (.cut [11] [] (.seq .d (.blk (.loop [3,10,11,30,31,32] [⟨11,[0],.own 5 (.int .u8)⟩] (.seq .d (.seq .d (.cut [3,10,11,30,31,32] [] (.blk (.seq .d (.seq .d (.seq .d (.seq .d (.keep [3,10,11,14,30,31,32,59] true)))))) .d)))))) .d)))))),⟨[(103,F103.c),(104,F104.c),(182,F182.c),(183,F183.c),(184,F184.c),(186,F186.c)],gl,false⟩,[(185,(.seq .d (.seq .d (.blk (.loop [0,3,7,8] [] (.seq .d (.seq .d (.seq (.blk (.seq .d (.cut [0,3,4,7,8] [] .d (.seq .d (.cut [0,3,7,8] [] .d .d))))) .d))))))))],f100⟩
def t44(a:LU)(b f h g:Int)(k:List (Int×Int×UInt64×UInt64×Unit))(m:LB)(o n:Int)(v:LB):S:=⟨[(0,.ptr 0 []),(3,.ptr 1 []),(7,vi h),(8,vi o)],[.box 183 (.agg [.own 7,vi n]),.box 183 (.agg [.own 6,vi h]),.box 104 (.agg [vi b,vi f]),.box 255 (.val (.vec 6 (.cons (.int .i64) (.cons (.int .i64) (.cons (.int .u64) (.cons (.int .u64) .nil))))) k),.box 183 (.agg [.own 6,vi h]),Av 43 a,Ab 5 m,Ab 5 v],[[(3,.ptr 2 []),(10,.ptr 3 []),(11,.ptr 0 []),(14,.ptr 4 []),(30,.own 5),(31,vi (Ac a)),(32,vi g),(59,.agg [.own 6,vi h])]]⟩
def z44(Dn:K_):Nat->S->Option R_:=H.i P_ [r,r,r,r,r,l,r,d,(lp Dn),r,r,l,d,r,r,r,r,(call 1 185),r,r,d]
def t27(a:LU)(b f g:Int)(w:List (Int×Int×UInt64×UInt64×Unit))(u:Int)(p:LB):S:=⟨[(3,.ptr 0 []),(10,.ptr 1 []),(11,.ptr 2 []),(30,.own 3),(31,vi (Ac a)),(32,vi g)],[.box 104 (.agg [vi b,vi f]),.box 255 (.val (.vec 6 (.cons (.int .i64) (.cons (.int .i64) (.cons (.int .u64) (.cons (.int .u64) .nil))))) w),.box 183 (.agg [.own 4,vi u]),Av 43 a,Ab 5 p],[]⟩
def z27:Nat->S->Option R_:=H.i P_ [r,r,r,r,r,l,r,d]
def x52(u:Int)(p:LB):Option R_:=H.e P_ [r,r,r,r,r,r] ⟨[(11,.ptr 0 [])],[.box 183 (.agg [.own 1,vi u]),Ab 5 p],[]⟩
def x50(Dn:K_)(a:LU)(b f g:Int)(k:List (Int×Int×UInt64×UInt64×Unit))(n:Int)(v:LB):Option R_:=H.e P_ [r,r,r,r,r,l,r,d,(lp Dn),r,r,r] ⟨[(3,.ptr 0 []),(10,.ptr 1 []),(11,.ptr 2 []),(30,.own 3),(31,vi (Ac a)),(32,vi g)],[.box 104 (.agg [vi b,vi f]),.box 255 (.val (.vec 6 (.cons (.int .i64) (.cons (.int .i64) (.cons (.int .u64) (.cons (.int .u64) .nil))))) k),.box 183 (.agg [.own 4,vi n]),Av 43 a,Ab 5 v],[]⟩
def x48(Dn Rs:K_)(h:Int)(a:LU)(g b f:Int)(k:List (Int×Int×UInt64×UInt64×Unit))(m:LB)(o n:Int)(aa:LB):Option R_:=H.e P_ [r,r,r,r,r,l,r,d,(lp Dn),r,r,l,d,r,r,r,r,(call 1 185),r,r,d,(lp Rs),r,r,l,d,r,r,r,r] ⟨[(0,.ptr 0 []),(3,.ptr 1 []),(7,vi h),(8,vi o)],[.box 183 (.agg [.own 7,vi n]),.box 183 (.agg [.own 6,vi h]),.box 104 (.agg [vi b,vi f]),.box 255 (.val (.vec 6 (.cons (.int .i64) (.cons (.int .i64) (.cons (.int .u64) (.cons (.int .u64) .nil))))) k),.box 183 (.agg [.own 6,vi h]),Av 43 a,Ab 5 m,Ab 5 aa],[[(3,.ptr 2 []),(10,.ptr 3 []),(11,.ptr 0 []),(14,.ptr 4 []),(30,.own 5),(31,vi (Ac a)),(32,vi g),(59,.agg [.own 6,vi h])]]⟩
def x47(Dn Rs:K_)(h:Int)(a:LU)(g b f:Int)(k:List (Int×Int×UInt64×UInt64×Unit))(m:LB)(o n:Int)(y:LB):Option R_:=H.e P_ [r,r,r,r,r,l,r,d,(lp Dn),r,r,l,d,r,r,r,r,(call 1 185),r,r,d,(lp Rs),r,r,l,d,r,r] ⟨[(0,.ptr 0 []),(3,.ptr 1 []),(4,vi o),(7,vi h),(8,vi o)],[.box 183 (.agg [.own 7,vi n]),.box 183 (.agg [.own 6,vi h]),.box 104 (.agg [vi b,vi f]),.box 255 (.val (.vec 6 (.cons (.int .i64) (.cons (.int .i64) (.cons (.int .u64) (.cons (.int .u64) .nil))))) k),.box 183 (.agg [.own 6,vi h]),Av 43 a,Ab 5 m,Ab 5 y],[[(3,.ptr 2 []),(10,.ptr 3 []),(11,.ptr 0 []),(14,.ptr 4 []),(30,.own 5),(31,vi (Ac a)),(32,vi g),(59,.agg [.own 6,vi h])]]⟩
def x44(Dn:K_)(a:LU)(b f h g:Int)(k:List (Int×Int×UInt64×UInt64×Unit))(m:LB)(o n:Int)(v:LB):Option R_:=H.e P_ [r,r,r,r,r,l,r,d,(lp Dn),r,r,l,d,r,r,r,r,(call 1 185),r,r,d] (t44 a b f h g k m o n v)
def x27(a:LU)(b f g:Int)(w:List (Int×Int×UInt64×UInt64×Unit))(u:Int)(p:LB):Option R_:=H.e P_ [r,r,r,r,r,l,r,d] (t27 a b f g w u p)
theorem e52:x52=Oh:=by kernel_rfl
theorem e50(Dn:K_)(a:LU)(b f:Int):x50 Dn a b f=Pm (λg w u p=>Dn (t27 a b f g w u p)) a b f:=by kernel_rfl
theorem e48(Dn Rs:K_)(a:LU)(b f h g:Int)(k:List (Int×Int×UInt64×UInt64×Unit))(m:LB):x48 Dn Rs h a g b f k m=Og (λo n v=>Rs (t44 a b f h g k m o n v)) h a g b f k m:=by kernel_rfl
theorem e47(Dn Rs:K_)(a:LU)(b f h g:Int)(k:List (Int×Int×UInt64×UInt64×Unit))(m:LB):x47 Dn Rs h a g b f k m=Nv (λo n v=>Rs (t44 a b f h g k m o n v)) h a g b f k m:=Eq.trans (b:=Np (x48 Dn Rs h a g b f k m) h a g b f k m) (by kernel_rfl) (by simp only[e48]<;>rfl)
theorem i44(Dn:K_)(a:LU)(b f h g:Int)(k:List (Int×Int×UInt64×UInt64×Unit))(m:LB):∀(q:Nat) (o n:Int) (v:LB),z44 Dn q (t44 a b f h g k m o n v)=Iz (λg w u p=>Dn (t27 a b f g w u p)) a b f h g k m q o n v:=
 ind (λ_ _ _=>by kernel_rfl) λq ih o n v=>Eq.trans (b:=Pj (x47 Dn (z44 Dn q) h a g b f k m) (x50 Dn a b f) a b f h g k m o n v) (by kernel_rfl) (by simp only[e47,e50,ih]<;>rfl)
theorem e44(Dn:K_)(a:LU)(b f:Int):x44 Dn a b f=Oi (λg w u p=>Dn (t27 a b f g w u p)) a b f:=by funext h g k m o n v;exact Eq.trans (by kernel_rfl) ((i44 Dn a b f h g k m Bj o n v).trans (by rw[Aj];rfl))
theorem i27(a:LU)(b f:Int):∀(q:Nat) (g:Int) (w:List (Int×Int×UInt64×UInt64×Unit)) (u:Int) (p:LB),z27 q (t27 a b f g w u p)=Iw a b f q g w u p:=
 ind (λ_ _ _ _=>by kernel_rfl) λq ih g w u p=>Eq.trans (b:=On (x44 (z27 q) a b f) x52 a b f g w u p) (by kernel_rfl) (by simp only[e44,e52,ih]<;>rfl)
theorem e27:x27=Nh:=by funext a b f g w u p;exact Eq.trans (by kernel_rfl) ((i27 a b f Bj g w u p).trans (by rw[Aj];rfl))
def F:=u4 Jy
theorem rn x:H.u P_ x=F x:=Eq.trans (b:=u4 (Qe x27) x) (by kernel_rfl) (by simp only[e27]<;>rfl)
def c:Con:=⟨H.p,H.r,F⟩
theorem ok:ConOk P_ gl 100 c:=cr H func100 (.cons F103.ok (.cons F104.ok (.cons F182.ok (.cons F183.ok (.cons F184.ok (.cons F186.ok .nil)))))) (Bp.cons ent185 Bp.nil) rn
end F100
theorem OK:ConOk Tryz.prog gl 42 Rg:=QM F93.ok F67.ok F114.ok F100.ok F101.ok
namespace F111
abbrev R_:=Bool
def H:Hd:=⟨[.agg [Si,Si,Si,Si,Si]],[Sz],(.seq .d (.cut [1] [] .d .d)),⟨[],gl,false⟩,[],f111⟩
def x2(b f a g h:Int):Option R_:=H.e P_ [r,r] ⟨[(1,.ptr 0 [])],[.box 33 (.agg [vi b,vi f,vi a,vi g,vi h])],[]⟩
theorem e2:x2=Sm:=by kernel_rfl
def F:=u5 Qx
theorem rn x:H.u P_ x=F x:=Eq.trans (b:=u5 (Ry x2) x) (by kernel_rfl) (by simp only[e2]<;>rfl)
def c:Con:=⟨H.p,H.r,F⟩
theorem ok:ConOk P_ gl 111 c:=co H func111 .nil rn
end F111
namespace F112
def H:Hd:=⟨[.agg [Si,Si,Si,Si,Si]],[Sz],.d,⟨[(119,F119.c)],gl,false⟩,[],f112⟩
def F:=u5 BD
theorem rn x:H.u P_ x=F x:=by kernel_rfl
def c:Con:=⟨H.p,H.r,F⟩
theorem ok:ConOk P_ gl 112 c:=co H func112 (.cons F119.ok .nil) rn
end F112
namespace F102
def H:Hd:=⟨[.agg [Si,Si,Si,Si,Si]],[Si],.d,⟨[(111,F111.c),(112,F112.c)],gl,false⟩,[],f102⟩
def F:=u5 Tl
theorem rn x:H.u P_ x=F x:=by kernel_rfl
def c:Con:=⟨H.p,H.r,F⟩
theorem ok:ConOk P_ gl 102 c:=co H func102 (.cons F111.ok (.cons F112.ok .nil)) rn
end F102
namespace F43
abbrev R_:=(LB×Int)
def H:Hd:=⟨[.agg [Si,Si,Si,Si,Si]],[Ob 5,Si],(.seq .d (.seq .d (.seq .d (.cut [5] [] (.seq .d (.blk (.loop [5,31,32] [] .d))) .d)))),⟨[(102,F102.c),(103,F103.c),(104,F104.c)],gl,false⟩,[],f43⟩
def t4(b f g h k m:Int)(a:LB):S:=⟨[(5,.own 0),(31,.val (.vec 5 (.int .i64)) ([b,f,g,h,k]:LI)),(32,vi m)],[Ab 5 a],[]⟩
def z4:Nat->S->Option R_:=H.i P_ [r,r,r,l,r,d]
def x6(a:LB):Option R_:=H.e P_ [r,r,r,r] ⟨[(5,.own 0)],[Ab 5 a],[]⟩
def x4(b f g h k m:Int)(a:LB):Option R_:=H.e P_ [r,r,r,l,r,d] (t4 b f g h k m a)
theorem e6:x6=Ws:=by kernel_rfl
theorem i4(b f g h k:Int):∀(q:Nat) (m:Int) (a:LB),z4 q (t4 b f g h k m a)=Lu b f g h k q m a:=
 ind (λ_ _=>by kernel_rfl) λq ih m a=>Eq.trans (b:=Wq x6 (λm a=>(z4 q) (t4 b f g h k m a)) b f g h k m a) (by kernel_rfl) (by simp only[e6,ih]<;>rfl)
theorem e4:x4=Vy:=by funext b f g h k m a;exact Eq.trans (by kernel_rfl) ((i4 b f g h k Bj m a).trans (by rw[Aj];rfl))
def F:=u5 ID
theorem rn x:H.u P_ x=F x:=Eq.trans (b:=u5 (Wx x4) x) (by kernel_rfl) (by simp only[e4]<;>rfl)
def c:Con:=⟨H.p,H.r,F⟩
theorem ok:ConOk P_ gl 43 c:=co H func43 (.cons F102.ok (.cons F103.ok (.cons F104.ok .nil))) rn
end F43
namespace F105
def H:Hd:=⟨[Ss],[Sq,Si],.d,⟨[(121,F121.c)],gl,false⟩,[],f105⟩
def F:=UG
theorem rn x:H.u P_ x=F x:=by kernel_rfl
def c:Con:=⟨H.p,H.r,F⟩
theorem ok:ConOk P_ gl 105 c:=co H func105 (.cons F121.ok .nil) rn
end F105
namespace F44
def H:Hd:=⟨[Ss],[Ob 5,Si],.d,⟨[(103,F103.c),(105,F105.c)],gl,false⟩,[],f44⟩
def F:=Ud
theorem rn x:H.u P_ x=F x:=by kernel_rfl
def c:Con:=⟨H.p,H.r,F⟩
theorem ok:ConOk P_ gl 44 c:=co H func44 (.cons F103.ok (.cons F105.ok .nil)) rn
end F44
namespace F106
abbrev R_:=Int
def H:Hd:=⟨[Sl],[Si],(.seq .d (.seq .d (.seq .d (.cut [] [] (.seq .d (.blk (.loop [3,14,15,16] [] .d))) .d)))),⟨[],gl,false⟩,[],f106⟩
def t4(a:LI)(f b:Int):S:=⟨[(3,vi f),(14,vl a),(15,vi (Ac a)),(16,vi b)],[],[]⟩
def z4:Nat->S->Option R_:=H.i P_ [r,r,r,l,r,d]
def x6:Option R_:=H.e P_ [r,r,r,r] ⟨[],[],[]⟩
def x4(a:LI)(f b:Int):Option R_:=H.e P_ [r,r,r,l,r,d] (t4 a f b)
theorem e6:x6=CE:=by kernel_rfl
theorem i4(a:LI):∀(q:Nat) (f b:Int),z4 q (t4 a f b)=Nz a q f b:=
 ind (λ_ _=>by kernel_rfl) λq ih f b=>Eq.trans (b:=BY x6 (λf b=>(z4 q) (t4 a f b)) a f b) (by kernel_rfl) (by simp only[e6,ih]<;>rfl)
theorem e4:x4=Zw:=by funext a f b;exact Eq.trans (by kernel_rfl) ((i4 a Bj f b).trans (by rw[Aj];rfl))
def F:=Qt
theorem rn x:H.u P_ x=F x:=Eq.trans (b:=AR x4 x) (by kernel_rfl) (by simp only[e4]<;>rfl)
def c:Con:=⟨H.p,H.r,F⟩
theorem ok:ConOk P_ gl 106 c:=co H func106 .nil rn
end F106
namespace F45
abbrev R_:=(LB×Int)
abbrev K_:=S->Option R_
def H:Hd:=⟨[Sl],[Ob 5,Si],(.seq .d (.seq .d (.seq .d (.seq .d (.cut [5,6] [] (.seq .d (.blk (.loop [5,6,17,18,19] [⟨5,[],.own 5 (.int .u8)⟩,⟨6,[0],.own 5 (.int .u8)⟩] (.seq .d (.seq .d (.cut [5,6,17,18,19] [] (.blk (.seq .d (.keep [5,6,8,17,18,19,23,24,25] true))) .d)))))) (.seq .d (.cut [5] [] (.keep [5,6,9,33,34,35] true) .d))))))),⟨[(103,F103.c),(104,F104.c),(106,F106.c)],gl,false⟩,[(107,.d)],f45⟩
def t8(a:LI)(f:Int)(b:LB):S:=⟨[(5,.ptr 0 []),(6,.fn 107 [.ptr 0 []]),(17,vl a),(18,vi (Ac a)),(19,vi f)],[.box 22 (.own 1),Ab 5 b],[]⟩
def z8:Nat->S->Option R_:=H.i P_ [r,r,r,r,l,r,d]
def x14(g:LB):Option R_:=H.e P_ [r,r,r,r,r,r,r] ⟨[(5,.ptr 0 [])],[.box 22 (.own 1),Ab 5 g],[]⟩
def x13(b:LB):Option R_:=H.e P_ [r,r,r,r,r] ⟨[(5,.ptr 0 []),(6,.fn 107 [.ptr 0 []])],[.box 22 (.own 1),Ab 5 b],[]⟩
def x11(bT:K_)(a:LI)(f:Int)(h:LB):Option R_:=H.e P_ [r,r,r,r,l,r,d,(lp bT),r,r,r] ⟨[(5,.ptr 0 []),(6,.fn 107 [.ptr 0 []]),(17,vl a),(18,vi (Ac a)),(19,vi f)],[.box 22 (.own 1),Ab 5 h],[]⟩
def x8(a:LI)(f:Int)(b:LB):Option R_:=H.e P_ [r,r,r,r,l,r,d] (t8 a f b)
theorem e14:x14=Wc:=by kernel_rfl
theorem e13:x13=Vj:=Eq.trans (b:=Vp x14) (by kernel_rfl) (by simp only[e14]<;>rfl)
theorem e11(bT:K_)(a:LI):x11 bT a=Vw (λf b=>bT (t8 a f b)) a:=by kernel_rfl
theorem i8(a:LI):∀(q:Nat) (f:Int) (b:LB),z8 q (t8 a f b)=Nb a q f b:=
 ind (λ_ _=>by kernel_rfl) λq ih f b=>Eq.trans (b:=BU (x11 (z8 q) a) x13 a f b) (by kernel_rfl) (by simp only[e11,e13,ih]<;>rfl)
theorem e8:x8=BL:=by funext a f b;exact Eq.trans (by kernel_rfl) ((i8 a Bj f b).trans (by rw[Aj];rfl))
def F:=NB
theorem rn x:H.u P_ x=F x:=Eq.trans (b:=Yi x8 x) (by kernel_rfl) (by simp only[e8]<;>rfl)
def c:Con:=⟨H.p,H.r,F⟩
theorem ok:ConOk P_ gl 45 c:=cr H func45 (.cons F103.ok (.cons F104.ok (.cons F106.ok .nil))) (Bp.cons ent107 Bp.nil) rn
end F45
namespace F47
def H:Hd:=⟨[Sb],[Si],.d,⟨[],gl,false⟩,[],f47⟩
def F:=DN
theorem rn x:H.u P_ x=F x:=by kernel_rfl
def c:Con:=⟨H.p,H.r,F⟩
theorem ok:ConOk P_ gl 47 c:=co H func47 .nil rn
end F47
namespace F48
abbrev R_:=LB
def H:Hd:=⟨[.lf (.list (.list (.int .u8))) none],[Ob 5],(.seq .d (.seq .d (.cut [3] [] (.seq .d (.blk (.loop [3,6,7,8] [⟨3,[],.own 5 (.int .u8)⟩] .d))) .d))),⟨[],gl,false⟩,[],f48⟩
def t4(b:List LB)(f:Int)(a:LB):S:=⟨[(3,.own 0),(6,.val (.list (.list (.int .u8))) b),(7,vi (Ac b)),(8,vi f)],[Ab 5 a],[]⟩
def z4:Nat->S->Option R_:=H.i P_ [r,r,l,r,d]
def x6(a:LB):Option R_:=H.e P_ [r,r,r] ⟨[(3,.own 0)],[Ab 5 a],[]⟩
def x4(b:List LB)(f:Int)(a:LB):Option R_:=H.e P_ [r,r,l,r,d] (t4 b f a)
theorem e6:x6=BH:=by kernel_rfl
theorem i4(b:List LB):∀(q:Nat) (f:Int) (a:LB),z4 q (t4 b f a)=Pg b q f a:=
 ind (λ_ _=>by kernel_rfl) λq ih f a=>Eq.trans (b:=AG x6 (λf a=>(z4 q) (t4 b f a)) b f a) (by kernel_rfl) (by simp only[e6,ih]<;>rfl)
theorem e4:x4=AF:=by funext b f a;exact Eq.trans (by kernel_rfl) ((i4 b Bj f a).trans (by rw[Aj];rfl))
def F:=ND
theorem rn x:H.u P_ x=F x:=Eq.trans (b:=Yk x4 x) (by kernel_rfl) (by simp only[e4]<;>rfl)
def c:Con:=⟨H.p,H.r,F⟩
theorem ok:ConOk P_ gl 48 c:=co H func48 .nil rn
end F48
namespace F9
abbrev R_:=(LB×Int)
abbrev K_:=S->Option R_
def H:Hd:=⟨[.agg [Si,Si,Si,Sw],Ss],[Ob 5,Si],(.seq .d (.seq .d (.seq .d (.seq .d (.seq .d (.seq .d (.seq .d (.seq .d (.cut [8,9,10] [⟨10,[],.own 5 (.int .u8)⟩] .d (.cut [7,8,9,10,11] [] (.keep [7,8,9,10,11,46,48,49,50,51] true) .d)))))))))),⟨[(41,F41.c),(42,Rg),(43,F43.c),(44,F44.c),(45,F45.c),(47,F47.c),(48,F48.c)],gl,false⟩,[(46,(.seq .d (.seq .d (.cut [5] [] (.seq .d (.blk (.loop [1,5,11,12,13] [] (.seq .d (.seq .d (.cut [1,5,11,12,13] [] .d .d)))))) .d))))],f9⟩
def t9(a:List LB)(b f:LB)(g:Int)(h:LI):S:=⟨[(1,.fn 47 []),(5,.own 0),(11,.own 1),(12,vi (Ac a)),(13,vi g)],[Ai 3 h,.arr 22 (.list (.int .u8)) a,Ab 5 b,Ab 5 f],[[(8,.own 1),(9,.own 2),(10,.own 3)]]⟩
def z9:Nat->S->Option R_:=H.i P_ [r,r,r,r,r,r,r,r,r,l,(call 1 46),r,r,l,r,d]
def x14(k:Int)(a:List LB)(b f n:LB):Option R_:=H.e P_ [r,r,r,r,r,r,r,r,r,r] ⟨[(7,vi k),(8,.own 0),(9,.own 1),(10,.own 2),(11,.own 3)],[.arr 22 (.list (.int .u8)) a,Ab 5 b,Ab 5 f,Ab 5 n],[]⟩
def x13(h:LI)(a:List LB)(b f:LB):Option R_:=H.e P_ [r,r,r,r,r,r,r,r,r,l,(call 1 46),r,r,r] ⟨[(5,.own 0)],[Ai 3 h,.arr 22 (.list (.int .u8)) a,Ab 5 b,Ab 5 f],[[(8,.own 1),(9,.own 2),(10,.own 3)]]⟩
def x11(rB:K_)(a:List LB)(b f:LB)(g:Int)(m:LI):Option R_:=H.e P_ [r,r,r,r,r,r,r,r,r,l,(call 1 46),r,r,l,r,d,(lp rB),r,r,r] ⟨[(1,.fn 47 []),(5,.own 0),(11,.own 1),(12,vi (Ac a)),(13,vi g)],[Ai 3 m,.arr 22 (.list (.int .u8)) a,Ab 5 b,Ab 5 f],[[(8,.own 1),(9,.own 2),(10,.own 3)]]⟩
def x9(a:List LB)(b f:LB)(g:Int)(h:LI):Option R_:=H.e P_ [r,r,r,r,r,r,r,r,r,l,(call 1 46),r,r,l,r,d] (t9 a b f g h)
def x8(a:List LB)(b f:LB):Option R_:=H.e P_ [r,r,r,r,r,r,r,r,r] ⟨[(8,.own 0),(9,.own 1),(10,.own 2)],[.arr 22 (.list (.int .u8)) a,Ab 5 b,Ab 5 f],[]⟩
theorem e14:x14=Wo:=by kernel_rfl
theorem e13:x13=Wt:=Eq.trans (b:=Va x14) (by kernel_rfl) (by simp only[e14]<;>rfl)
theorem e11(rB:K_)(a:List LB)(b f:LB):x11 rB a b f=Vv (λg h=>rB (t9 a b f g h)) a b f:=by kernel_rfl
theorem i9(a:List LB)(b f:LB):∀(q:Nat) (g:Int) (h:LI),z9 q (t9 a b f g h)=Ou a b f q g h:=
 ind (λ_ _=>by kernel_rfl) λq ih g h=>Eq.trans (b:=Zu (x11 (z9 q) a b f) x13 a b f g h) (by kernel_rfl) (by simp only[e11,e13,ih]<;>rfl)
theorem e9:x9=AT:=by funext a b f g h;exact Eq.trans (by kernel_rfl) ((i9 a b f Bj g h).trans (by rw[Aj];rfl))
theorem e8:x8=Yx:=Eq.trans (b:=Xm x9) (by kernel_rfl) (by simp only[e9]<;>rfl)
def F:=u5 BF
theorem rn x:H.u P_ x=F x:=Eq.trans (b:=u5 (Xy x8) x) (by kernel_rfl) (by simp only[e8]<;>rfl)
def c:Con:=⟨H.p,H.r,F⟩
theorem ok:ConOk P_ gl 9 c:=cr H func9 (.cons F41.ok (.cons OK (.cons F43.ok (.cons F44.ok (.cons F45.ok (.cons F47.ok (.cons F48.ok .nil))))))) (Bp.cons ent46 Bp.nil) rn
end F9
namespace F16
def H:Hd:=⟨[],[Ob 5,Sz],.d,⟨[(9,F9.c)],gl,false⟩,[],f16⟩
noncomputable def F(x:Unit):=Iu
theorem rn x:H.u P_ x=F x:=by kernel_rfl
def c:Con:=⟨H.p,H.r,F⟩
theorem ok:ConOk P_ gl 16 c:=co H func16 (.cons F9.ok .nil) rn
end F16
namespace F58
def Lw(a:LB):Option (LB):=
TC a (
some ([]:LB)) (
(Dh ([]:LB) a).bind λb=>
some b)
theorem GG: @Lw= @Lm:=by
  unfold Lw Lm
  repeat (refine funext λ_=>?_)
  repeat' first
    |with_reducible rfl
    |with_reducible refine Gv ?_ ?_
    |with_reducible refine Gn ?_ ?_ ?_
    |with_reducible refine Gy ?_ ?_ ?_ ?_
    |((with_reducible refine Jz ?_ ?_);focus (intro h;first|(subst h;rfl)|(simp only[h];rfl)|(simp[Dh,Ac,h];done)))
    |with_reducible refine Jr λx=>?_
    |with_reducible refine Nw (λ_=>?_) (λ_=>?_)
    |(refine Eg (λh=>by simp only[h,Jv,Dg,Cx,ite_self]) (λx h=>?_);(try simp only[h,Dg]))
    |(refine Ff (λh=>?_) (λh=>?_)<;>simp only[h,if_true,if_false,Bool.false_eq_true])
def H:Hd:=⟨[Sb],[Ob 5],.d,⟨[],gl,false⟩,[],f58⟩
def F:=Lm
theorem rn x:H.u P_ x=F x:=Eq.trans (b:=Lw x) (by kernel_rfl) (by rw[GG];rfl)
def c:Con:=⟨H.p,H.r,F⟩
theorem ok:ConOk P_ gl 58 c:=co H func58 .nil rn
end F58
namespace F17
def H:Hd:=⟨[Sb,Si,Sc],[Ob 5,Si],.d,⟨[(58,F58.c)],gl,false⟩,[],f17⟩
def F:=u3 Lh
theorem rn x:H.u P_ x=F x:=by kernel_rfl
def c:Con:=⟨H.p,H.r,F⟩
theorem ok:ConOk P_ gl 17 c:=co H func17 (.cons F58.ok .nil) rn
end F17
namespace F18
abbrev R_:=(LB×Int)
abbrev K_:=S->Option R_
def H:Hd:=⟨[Sb,Si,Su],[Ob 5,Si],(.seq .d (.seq .d (.seq .d (.seq .d (.seq .d (.cut [8,9] [] (.seq .d (.blk (.loop [1,2,8,9,10,24] [] (.seq .d (.seq .d (.cut [1,2,8,9,10,24] [] (.blk (.seq .d (.seq .d (.cond (.keep [1,2,8,9,10,11,24,32,33,34,35] true) .d)))) .d)))))) .d)))))),⟨[(58,F58.c)],gl,false⟩,[(59,.d)],f18⟩
def t6(a:Int)(g:UInt32)(b:Int)(h:Bool)(f:LB):S:=⟨[(1,vi a),(2,vu g),(8,.ptr 0 []),(9,.ptr 1 []),(10,.fn 59 [.ptr 0 [],.ptr 1 []]),(24,vi b)],[.box 22 (.own 2),.box 4 (vt h),Ab 5 f],[]⟩
def z6:Nat->S->Option R_:=H.i P_ [r,r,r,r,r,l,r,d]
def x10(h:Bool)(f:LB):Option R_:=H.e P_ [r,r,r,r,r,r] ⟨[(8,.ptr 0 []),(9,.ptr 1 [])],[.box 22 (.own 2),.box 4 (vt h),Ab 5 f],[]⟩
def x8(mJ:K_)(a:Int)(g:UInt32)(b:Int)(k:Bool)(m:LB):Option R_:=H.e P_ [r,r,r,r,r,l,r,d,(lp mJ),r,r,r] ⟨[(1,vi a),(2,vu g),(8,.ptr 0 []),(9,.ptr 1 []),(10,.fn 59 [.ptr 0 [],.ptr 1 []]),(24,vi b)],[.box 22 (.own 2),.box 4 (vt k),Ab 5 m],[]⟩
def x6(a:Int)(g:UInt32)(b:Int)(h:Bool)(f:LB):Option R_:=H.e P_ [r,r,r,r,r,l,r,d] (t6 a g b h f)
theorem e10:x10=Tf:=by kernel_rfl
theorem e8(mJ:K_)(a:Int)(g:UInt32):x8 mJ a g=Ux (λb h f=>mJ (t6 a g b h f)) a g:=by kernel_rfl
theorem i6(a:Int)(g:UInt32):∀(q:Nat) (b:Int) (h:Bool) (f:LB),z6 q (t6 a g b h f)=Lr a g q b h f:=
 ind (λ_ _ _=>by kernel_rfl) λq ih b h f=>Eq.trans (b:=Wg (x8 (z6 q) a g) x10 a g b h f) (by kernel_rfl) (by simp only[e8,e10,ih]<;>rfl)
theorem e6:x6=Wk:=by funext a g b h f;exact Eq.trans (by kernel_rfl) ((i6 a g Bj b h f).trans (by rw[Aj];rfl))
def F:=u3 He
theorem rn x:H.u P_ x=F x:=Eq.trans (b:=u3 (Uu x6) x) (by kernel_rfl) (by simp only[e6]<;>rfl)
def c:Con:=⟨H.p,H.r,F⟩
theorem ok:ConOk P_ gl 18 c:=cr H func18 (.cons F58.ok .nil) (Bp.cons ent59 Bp.nil) rn
end F18
namespace F113
def H:Hd:=⟨[Sb,Sb],[Sz],.d,⟨[],gl,false⟩,[],f113⟩
def F:=u2 Gz
theorem rn x:H.u P_ x=F x:=by kernel_rfl
def c:Con:=⟨H.p,H.r,F⟩
theorem ok:ConOk P_ gl 113 c:=co H func113 .nil rn
end F113
namespace F196
def H:Hd:=⟨[Sb,Sb],[Sz],.d,⟨[(113,F113.c)],gl,false⟩,[],f196⟩
def F:=u2 Ft
theorem rn x:H.u P_ x=F x:=by kernel_rfl
def c:Con:=⟨H.p,H.r,F⟩
theorem ok:ConOk P_ gl 196 c:=co H func196 (.cons F113.ok .nil) rn
end F196
namespace F336
abbrev R_:=(Int×Int)
def H:Hd:=⟨[Sb],[Si,Si],(.seq .d (.seq .d (.seq .d (.cut [4] [] (.seq .d (.blk (.loop [4,10,11,12] [] .d))) .d)))),⟨[],gl,false⟩,[],f336⟩
def t4(a:LB)(b f:Int):S:=⟨[(4,vi b),(10,vb a),(11,vi (Ac a)),(12,vi f)],[],[]⟩
def z4:Nat->S->Option R_:=H.i P_ [r,r,r,l,r,d]
def x6(b:Int):Option R_:=H.e P_ [r,r,r,r] ⟨[(4,vi b)],[],[]⟩
def x4(a:LB)(b f:Int):Option R_:=H.e P_ [r,r,r,l,r,d] (t4 a b f)
theorem e6:x6=Ta:=by kernel_rfl
theorem i4(a:LB):∀(q:Nat) (b f:Int),z4 q (t4 a b f)=Ki a q b f:=
 ind (λ_ _=>by kernel_rfl) λq ih b f=>Eq.trans (b:=Sd x6 (λb f=>(z4 q) (t4 a b f)) a b f) (by kernel_rfl) (by simp only[e6,ih]<;>rfl)
theorem e4:x4=Rw:=by funext a b f;exact Eq.trans (by kernel_rfl) ((i4 a Bj b f).trans (by rw[Aj];rfl))
def F:=DW
theorem rn x:H.u P_ x=F x:=Eq.trans (b:=Sy x4 x) (by kernel_rfl) (by simp only[e4]<;>rfl)
def c:Con:=⟨H.p,H.r,F⟩
theorem ok:ConOk P_ gl 336 c:=co H func336 .nil rn
end F336
namespace F278
def Ko(j5:LB->UInt8->UInt8->Option (Int×Int))(a:LB):Option (Int×Int):=
(Ft a ([(73:UInt8),(68:UInt8),(51:UInt8)]:LB)).bind λn=>
if(!n)then
some (0,6)
else
if(Cd (Ac a) 10)then
some (0,24)
else
(Af a 3).bind λf=>
(Af a 5).bind λb=>
(λo:Option (Int×Int)=>
(λp:Option (Int×Int)=>
both (
both (
bo (
j5 a f b)) [
o,
o]) [
sN (
bo (
j5 a f b)),
p,
p]) (
both (
o) [
bo (
j5 a f b),
both (
bo (
j5 a f b)) [
j5 a f b]])) (
both (
j5 a f b) [
bo (
j5 a f b)])
theorem CV: @Ko= @Ly:=by
  unfold Ko Ly
  try simp only[NF,Xd,AY]
  all_goals
    repeat (refine funext λ_=>?_)
    repeat' first
      |with_reducible rfl
      |with_reducible refine Gv ?_ ?_
      |with_reducible refine Gn ?_ ?_ ?_
      |with_reducible refine Gy ?_ ?_ ?_ ?_
      |((with_reducible refine Jz ?_ ?_);focus (intro h;first|(subst h;rfl)|(simp only[h];rfl)|(simp[Dh,Ac,h];done)))
      |with_reducible refine Jr λx=>?_
      |with_reducible refine Nw (λ_=>?_) (λ_=>?_)
      |(refine Eg (λh=>by simp only[h,Jv,Dg,Cx,ite_self]) (λx h=>?_);(try simp only[h,Dg]))
      |(refine Ff (λh=>?_) (λh=>?_)<;>simp only[h,if_true,if_false,Bool.false_eq_true])
abbrev R_:=(Int×Int)
def H:Hd:=⟨[Sb],[Si,Si],(.seq .d (.seq .d (.seq .d (.cut [0,4,5] [] (.mode false) (.seq .d (.seq .d (.cut [0,5,6] [] (.cut [0,5,6,43] [] (.keep [0,5,6,7,8,31,32,33,34,35,36,37,38,39,40,41,42,43] true) .d) (.seq .d (.cut [0,5,6] [] .d .d))))))))),⟨[(113,F113.c),(196,F196.c),(336,F336.c)],gl,false⟩,[(337,.d)],f278⟩
def x8(a:LB)(b:UInt8)(h:Int):Option R_:=H.e P_ [r,r,r,r,r,r,r,r,r] ⟨[(0,vb a),(5,.ptr 0 []),(6,vi h)],[.box 5 (vc b)],[]⟩
def x7(a:LB)(g:Int)(b:UInt8):Option R_:=H.e P_ [r,r,r,r,r,r,r] ⟨[(0,vb a),(5,.ptr 0 []),(6,vi g)],[.box 5 (vc b)],[]⟩
def x6(a:LB)(g:Int)(b:UInt8)(m:Bool):Option R_:=H.e P_ [r,r,r,r,r,r,l,r] ⟨[(0,vb a),(5,.ptr 0 []),(6,vi g),(43,vt m)],[.box 5 (vc b)],[]⟩
def x5(a:LB)(f b:UInt8):Option R_:=H.e P_ [r,r,r,r] ⟨[(0,vb a),(4,.ptr 0 []),(5,.ptr 1 [])],[.box 5 (vc f),.box 5 (vc b)],[]⟩
theorem e8:x8=Vn:=by kernel_rfl
theorem e7:x7=Wv:=Eq.trans (b:=We x8) (by kernel_rfl) (by simp only[e8]<;>rfl)
theorem e6:x6=Uw:=Eq.trans (b:=Uv x7) (by kernel_rfl) (by simp only[e7]<;>rfl)
theorem e5:x5=Vs:=Eq.trans (b:=Wu x6) (by kernel_rfl) (by simp only[e6]<;>rfl)
def F:=GY
theorem rn x:H.u P_ x=F x:=Eq.trans (b:=Ko x5 x) (by kernel_rfl) (by unfold F;rw[CV];simp only[e5]<;>rfl)
def c:Con:=⟨H.p,H.r,F⟩
theorem ok:ConOk P_ gl 278 c:=cr H func278 (.cons F113.ok (.cons F196.ok (.cons F336.ok .nil))) (Bp.cons ent337 Bp.nil) rn
end F278
namespace F192
abbrev R_:=(UInt64×Int)
def H:Hd:=⟨[Sb],[Sq,Si],(.seq .d (.seq .d (.seq .d (.cut [4] [] (.seq .d (.blk (.loop [4,15,16,17] [] .d))) .d)))),⟨[],gl,false⟩,[],f192⟩
def t4(a:LB)(b:UInt64)(f:Int):S:=⟨[(4,vq b),(15,vb a),(16,vi (Ac a)),(17,vi f)],[],[]⟩
def z4:Nat->S->Option R_:=H.i P_ [r,r,r,l,r,d]
def x6(b:UInt64):Option R_:=H.e P_ [r,r,r,r] ⟨[(4,vq b)],[],[]⟩
def x4(a:LB)(b:UInt64)(f:Int):Option R_:=H.e P_ [r,r,r,l,r,d] (t4 a b f)
theorem e6:x6=MC:=by kernel_rfl
theorem i4(a:LB):∀(q:Nat) (b:UInt64) (f:Int),z4 q (t4 a b f)=Xj a q b f:=
 ind (λ_ _=>by kernel_rfl) λq ih b f=>Eq.trans (b:=MK x6 (λb f=>(z4 q) (t4 a b f)) a b f) (by kernel_rfl) (by simp only[e6,ih]<;>rfl)
theorem e4:x4=MT:=by funext a b f;exact Eq.trans (by kernel_rfl) ((i4 a Bj b f).trans (by rw[Aj];rfl))
def F:=PQ
theorem rn x:H.u P_ x=F x:=Eq.trans (b:=NJ x4 x) (by kernel_rfl) (by simp only[e4]<;>rfl)
def c:Con:=⟨H.p,H.r,F⟩
theorem ok:ConOk P_ gl 192 c:=co H func192 .nil rn
end F192
namespace F110
def H:Hd:=⟨[Sb,Si,Si],[Sq,Si],.d,⟨[(192,F192.c)],gl,false⟩,[],f110⟩
def F:=u3 RY
theorem rn x:H.u P_ x=F x:=by kernel_rfl
def c:Con:=⟨H.p,H.r,F⟩
theorem ok:ConOk P_ gl 110 c:=co H func110 (.cons F192.ok .nil) rn
end F110
namespace F198
abbrev R_:=LB
def H:Hd:=⟨[Si,Si,Sq],[Ob 5],(.seq .d (.seq .d (.cut [7] [] (.seq .d (.blk (.loop [7,20,21,22] [] .d))) .d))),⟨[(103,F103.c)],gl,false⟩,[],f198⟩
def t4(a b:Int)(f:UInt64)(h:Int)(g:LB):S:=⟨[(7,.own 0),(20,.own 1),(21,vi (Ac ([(2000:UInt64),(Al (Aa a (32:Int)):UInt64),(Al b:UInt64),f,(0:UInt64),(0:UInt64)]:LQ))),(22,vi h)],[Ab 5 g,.arr 158 (.int .u64) ([(2000:UInt64),(Al (Aa a (32:Int)):UInt64),(Al b:UInt64),f,(0:UInt64),(0:UInt64)]:LQ)],[]⟩
def z4:Nat->S->Option R_:=H.i P_ [r,r,l,r,d]
def x6(g:LB):Option R_:=H.e P_ [r,r,r] ⟨[(7,.own 0)],[Ab 5 g],[]⟩
def x4(a b:Int)(f:UInt64)(h:Int)(g:LB):Option R_:=H.e P_ [r,r,l,r,d] (t4 a b f h g)
theorem e6:x6=QO:=by kernel_rfl
theorem i4(a b:Int)(f:UInt64):∀(q:Nat) (h:Int) (g:LB),z4 q (t4 a b f h g)=GO a b f q h g:=
 ind (λ_ _=>by kernel_rfl) λq ih h g=>Eq.trans (b:=QT x6 (λh g=>(z4 q) (t4 a b f h g)) a b f h g) (by kernel_rfl) (by simp only[e6,ih]<;>rfl)
theorem e4:x4=PN:=by funext a b f h g;exact Eq.trans (by kernel_rfl) ((i4 a b f Bj h g).trans (by rw[Aj];rfl))
def F:=u3 OC
theorem rn x:H.u P_ x=F x:=Eq.trans (b:=u3 (SF x4) x) (by kernel_rfl) (by simp only[e4]<;>rfl)
def c:Con:=⟨H.p,H.r,F⟩
theorem ok:ConOk P_ gl 198 c:=co H func198 (.cons F103.ok .nil) rn
end F198
namespace F197
def H:Hd:=⟨[Sb,Sq],[.agg [Si,Si],Sz],.d,⟨[(110,F110.c),(113,F113.c),(198,F198.c)],gl,false⟩,[],f197⟩
def F:=u2 CK
theorem rn x:H.u P_ x=F x:=by kernel_rfl
def c:Con:=⟨H.p,H.r,F⟩
theorem ok:ConOk P_ gl 197 c:=co H func197 (.cons F110.ok (.cons F113.ok (.cons F198.ok .nil))) rn
end F197
namespace F279
def H:Hd:=⟨[Sb],[Si,Si],.d,⟨[(113,F113.c),(196,F196.c),(197,F197.c),(198,F198.c)],gl,false⟩,[],f279⟩
def F:=UF
theorem rn x:H.u P_ x=F x:=by kernel_rfl
def c:Con:=⟨H.p,H.r,F⟩
theorem ok:ConOk P_ gl 279 c:=co H func279 (.cons F113.ok (.cons F196.ok (.cons F197.ok (.cons F198.ok .nil)))) rn
end F279
namespace F190
def H:Hd:=⟨[Sb],[Si,Si],.d,⟨[(278,F278.c),(279,F279.c)],gl,false⟩,[],f190⟩
def F:=Kn
theorem rn x:H.u P_ x=F x:=by kernel_rfl
def c:Con:=⟨H.p,H.r,F⟩
theorem ok:ConOk P_ gl 190 c:=co H func190 (.cons F278.ok (.cons F279.ok .nil)) rn
end F190
theorem Pc:ConOk Tryz.prog gl 49 Io:=RM ent49 F190.ok
namespace F191
def H:Hd:=⟨[Ss,Ss],[Sz],.d,⟨[],gl,false⟩,[],f191⟩
def F:=u2 Fc
theorem rn x:H.u P_ x=F x:=by kernel_rfl
def c:Con:=⟨H.p,H.r,F⟩
theorem ok:ConOk P_ gl 191 c:=co H func191 .nil rn
end F191
namespace F109
def H:Hd:=⟨[Ss,Ss],[Sz],.d,⟨[(191,F191.c)],gl,false⟩,[],f109⟩
def F:=u2 Qc
theorem rn x:H.u P_ x=F x:=by kernel_rfl
def c:Con:=⟨H.p,H.r,F⟩
theorem ok:ConOk P_ gl 109 c:=co H func109 (.cons F191.ok .nil) rn
end F109
namespace F50
abbrev R_:=(Int×Int×Int×Int×Int×Int)
def H:Hd:=⟨[Sb],[.agg [Si,Si,Si,Si,Si],Si],(.seq .d (.seq .d (.seq .d (.seq .d (.seq .d (.seq .d (.seq .d (.cut [2,8] [] (.seq .d (.blk (.loop [0,2,8,9,44,45] [] .d))) .d)))))))),⟨[(104,F104.c),(109,F109.c),(110,F110.c),(111,F111.c),(112,F112.c)],gl,false⟩,[],f50⟩
def t4(b:LB)(g f:Int)(a:LI):S:=⟨[(0,vb b),(2,.ptr 0 []),(8,.ptr 1 []),(9,vi g),(44,.val (.vec 5 (.int .i64)) ([(2:Int),(2:Int),(2:Int),(4:Int),(4:Int)]:LI)),(45,vi f)],[.box 33 (.agg [vi 0,vi 0,vi 0,vi 0,vi 0]),.box 156 (.val (.vec 5 (.int .i64)) a)],[]⟩
def z4:Nat->S->Option R_:=H.i P_ [r,r,r,r,r,r,r,l,r,d]
def x6(a:LI):Option R_:=H.e P_ [r,r,r,r,r,r,r,r] ⟨[(2,.ptr 0 []),(8,.ptr 1 [])],[.box 33 (.agg [vi 0,vi 0,vi 0,vi 0,vi 0]),.box 156 (.val (.vec 5 (.int .i64)) a)],[]⟩
def x4(b:LB)(g f:Int)(a:LI):Option R_:=H.e P_ [r,r,r,r,r,r,r,l,r,d] (t4 b g f a)
theorem e6:x6=Xs:=by kernel_rfl
theorem i4(b:LB):∀(q:Nat) (g f:Int) (a:LI),z4 q (t4 b g f a)=Nd b q g f a:=
 ind (λ_ _ _=>by kernel_rfl) λq ih g f a=>Eq.trans (b:=Xu x6 (λg f a=>(z4 q) (t4 b g f a)) b g f a) (by kernel_rfl) (by simp only[e6,ih]<;>rfl)
theorem e4:x4=Yr:=by funext b g f a;exact Eq.trans (by kernel_rfl) ((i4 b Bj g f a).trans (by rw[Aj];rfl))
def F:=Qk
theorem rn x:H.u P_ x=F x:=Eq.trans (b:=AU x4 x) (by kernel_rfl) (by simp only[e4]<;>rfl)
def c:Con:=⟨H.p,H.r,F⟩
theorem ok:ConOk P_ gl 50 c:=co H func50 (.cons F104.ok (.cons F109.ok (.cons F110.ok (.cons F111.ok (.cons F112.ok .nil))))) rn
end F50
namespace F52
def H:Hd:=⟨[.agg [Si,Si,Si,Si,Si]],[Ol 3,Si],.d,⟨[(102,F102.c),(114,F114.c)],gl,false⟩,[],f52⟩
def F:=u5 Hx
theorem rn x:H.u P_ x=F x:=by kernel_rfl
def c:Con:=⟨H.p,H.r,F⟩
theorem ok:ConOk P_ gl 52 c:=co H func52 (.cons F102.ok (.cons F114.ok .nil)) rn
end F52
namespace F64
def H:Hd:=⟨[Sb],[.agg [.agg [Si,Si,Si,Si,Si],.agg [Si,Si,Si,Si,Si],Ol 3],Si],.d,⟨[(49,Io),(50,F50.c),(52,F52.c)],gl,false⟩,[],f64⟩
def F:=Qb
theorem rn x:H.u P_ x=F x:=by kernel_rfl
def c:Con:=⟨H.p,H.r,F⟩
theorem ok:ConOk P_ gl 64 c:=co H func64 (.cons Pc (.cons F50.ok (.cons F52.ok .nil))) rn
end F64
namespace F51
def H:Hd:=⟨[Sb,Ss],[Sz,Si],.d,⟨[(44,F44.c),(113,F113.c)],gl,false⟩,[],f51⟩
def F:=u2 Uk
theorem rn x:H.u P_ x=F x:=by kernel_rfl
def c:Con:=⟨H.p,H.r,F⟩
theorem ok:ConOk P_ gl 51 c:=co H func51 (.cons F44.ok (.cons F113.ok .nil)) rn
end F51
namespace F53
abbrev R_:=(LI×Int)
def H:Hd:=⟨[Sb,Si],[Ol 3,Si],(.seq .d (.seq .d (.seq .d (.seq .d (.seq .d (.seq .d (.cut [10] [] (.seq .d (.blk (.loop [0,10,48,49] [] .d))) .d))))))),⟨[(104,F104.c),(106,F106.c),(110,F110.c)],gl,false⟩,[],f53⟩
def t4(b:LB)(f:LI)(g:Int)(a:LI):S:=⟨[(0,vb b),(10,.own 0),(48,vi (Ac f)),(49,vi g)],[Ai 3 a],[]⟩
def z4:Nat->S->Option R_:=H.i P_ [r,r,r,r,r,r,l,r,d]
def x6(a:LI):Option R_:=H.e P_ [r,r,r,r,r,r,r] ⟨[(10,.own 0)],[Ai 3 a],[]⟩
def x4(b:LB)(f:LI)(g:Int)(a:LI):Option R_:=H.e P_ [r,r,r,r,r,r,l,r,d] (t4 b f g a)
theorem e6:x6=DE:=by kernel_rfl
theorem i4(b:LB)(f:LI):∀(q:Nat) (g:Int) (a:LI),z4 q (t4 b f g a)=Rh b f q g a:=
 ind (λ_ _=>by kernel_rfl) λq ih g a=>Eq.trans (b:=DV x6 (λg a=>(z4 q) (t4 b f g a)) b f g a) (by kernel_rfl) (by simp only[e6,ih]<;>rfl)
theorem e4:x4=EA:=by funext b f g a;exact Eq.trans (by kernel_rfl) ((i4 b f Bj g a).trans (by rw[Aj];rfl))
def F:=u2 Ty
theorem rn x:H.u P_ x=F x:=Eq.trans (b:=u2 (EX x4) x) (by kernel_rfl) (by simp only[e4]<;>rfl)
def c:Con:=⟨H.p,H.r,F⟩
theorem ok:ConOk P_ gl 53 c:=co H func53 (.cons F104.ok (.cons F106.ok (.cons F110.ok .nil))) rn
end F53
namespace F124
def H:Hd:=⟨[Sb],[Sb,Si],.d,⟨[(104,F104.c),(192,F192.c)],gl,false⟩,[],f124⟩
def F:=Zm
theorem rn x:H.u P_ x=F x:=by kernel_rfl
def c:Con:=⟨H.p,H.r,F⟩
theorem ok:ConOk P_ gl 124 c:=co H func124 (.cons F104.ok (.cons F192.ok .nil)) rn
end F124
namespace F125
def H:Hd:=⟨[Sb],[.agg [Ob 5,Si],Si],.d,⟨[(200,F200.c)],gl,false⟩,[],f125⟩
def F:=dI
theorem rn x:H.u P_ x=F x:=by kernel_rfl
def c:Con:=⟨H.p,H.r,F⟩
theorem ok:ConOk P_ gl 125 c:=co H func125 (.cons F200.ok .nil) rn
end F125
namespace F205
abbrev R_:=UInt64
def H:Hd:=⟨[.agg [Sb,Si],Si,Si],[Sq],(.seq .d (.seq .d (.cut [7] [] (.blk (.loop [1,2,3,7,8] [] .d)) .d))),⟨[],gl,false⟩,[],f205⟩
def t4(b f:Int)(h:LB)(k:Int)(g:UInt64)(a:Int):S:=⟨[(1,vi b),(2,vi f),(3,.ptr 0 []),(7,vq g),(8,vi a)],[.box 183 (.agg [vb h,vi k])],[]⟩
def z4:Nat->S->Option R_:=H.i P_ [r,r,l,d]
def x6(g:UInt64):Option R_:=H.e P_ [r,r,r] ⟨[(7,vq g)],[],[]⟩
def x4(b f:Int)(h:LB)(k:Int)(g:UInt64)(a:Int):Option R_:=H.e P_ [r,r,l,d] (t4 b f h k g a)
theorem e6:x6=MS:=by kernel_rfl
theorem i4(b f:Int)(h:LB)(k:Int):∀(q:Nat) (g:UInt64) (a:Int),z4 q (t4 b f h k g a)=Zs b f h k q g a:=
 ind (λ_ _=>by kernel_rfl) λq ih g a=>Eq.trans (b:=MO x6 (λg a=>(z4 q) (t4 b f h k g a)) b f h k g a) (by kernel_rfl) (by simp only[e6,ih]<;>rfl)
theorem e4:x4=MJ:=by funext b f h k g a;exact Eq.trans (by kernel_rfl) ((i4 b f h k Bj g a).trans (by rw[Aj];rfl))
def F:=u4 SB
theorem rn x:H.u P_ x=F x:=Eq.trans (b:=u4 (LM x4) x) (by kernel_rfl) (by simp only[e4]<;>rfl)
def c:Con:=⟨H.p,H.r,F⟩
theorem ok:ConOk P_ gl 205 c:=co H func205 .nil rn
end F205
namespace F202
abbrev R_:=(LB×Int×Int)
abbrev K_:=S->Option R_
def H:Hd:=⟨[.agg [Sb,Si],Si,Si],[.agg [Ob 5,Si],Si],(.seq .d (.seq .d (.seq .d (.seq .d (.cut [6,8] [] (.seq .d (.blk (.loop [2,3,6,8,9] [⟨8,[0],.own 5 (.int .u8)⟩] (.seq .d (.cut [2,3,6,8,9] [] (.blk (.seq .d (.keep [2,3,6,8,9,10,39,40,41,42,43] true))) .d))))) .d))))),⟨[(204,F204.c),(205,F205.c)],gl,false⟩,[(284,(.blk (.loop [0,1,2] [] (.seq .d (.blk (.cut [0,1,2] [] .d (.seq .d (.cut [0,1,2,7] [] .d .d))))))))],f202⟩
def t44(a:Int)(g:LB)(f b:Int)(k n:UInt64)(m h:Int)(u:LB):S:=⟨[(0,.ptr 0 []),(1,vq n),(2,vi m)],[.box 183 (.agg [.own 3,vi h]),.box 183 (.agg [vb g,vi f]),.box 183 (.agg [.nils,vi 0]),Ab 5 u],[[(2,vi a),(3,.ptr 1 []),(6,.ptr 2 []),(8,.ptr 0 []),(9,vi b),(10,vi (Di (64:Int) (Ae a b))),(39,.agg [vb g,vi f]),(40,vi b),(41,vi (Di (64:Int) (Ae a b))),(42,vq k),(43,vi (Di (64:Int) (Ae a b)))]]⟩
def z44(Dn:K_):Nat->S->Option R_:=H.i P_ [r,r,r,r,l,r,d,(lp Dn),r,l,d,r,(call 5 284),d]
def t27(a:Int)(g:LB)(f b o:Int)(p:LB):S:=⟨[(2,vi a),(3,.ptr 0 []),(6,.ptr 1 []),(8,.ptr 2 []),(9,vi b)],[.box 183 (.agg [vb g,vi f]),.box 183 (.agg [.nils,vi 0]),.box 183 (.agg [.own 3,vi o]),Ab 5 p],[]⟩
def z27:Nat->S->Option R_:=H.i P_ [r,r,r,r,l,r,d]
def x52(o:Int)(p:LB):Option R_:=H.e P_ [r,r,r,r,r] ⟨[(6,.ptr 0 []),(8,.ptr 1 [])],[.box 183 (.agg [.nils,vi 0]),.box 183 (.agg [.own 2,vi o]),Ab 5 p],[]⟩
def x50(Dn:K_)(a:Int)(g:LB)(f b h:Int)(u:LB):Option R_:=H.e P_ [r,r,r,r,l,r,d,(lp Dn),r,r] ⟨[(2,vi a),(3,.ptr 0 []),(6,.ptr 1 []),(8,.ptr 2 []),(9,vi b)],[.box 183 (.agg [vb g,vi f]),.box 183 (.agg [.nils,vi 0]),.box 183 (.agg [.own 3,vi h]),Ab 5 u],[]⟩
def x48(Dn Rs:K_)(a b:Int)(g:LB)(f:Int)(k n:UInt64)(m h:Int)(w:LB):Option R_:=H.e P_ [r,r,r,r,l,r,d,(lp Dn),r,l,d,r,(call 5 284),d,(lp Rs),r,d,r,r,r] ⟨[(0,.ptr 0 []),(1,vq n),(2,vi m),(7,vi (Di m (Ae (8:Int) (Ck h (7:Int)))))],[.box 183 (.agg [.own 3,vi h]),.box 183 (.agg [vb g,vi f]),.box 183 (.agg [.nils,vi 0]),Ab 5 w],[[(2,vi a),(3,.ptr 1 []),(6,.ptr 2 []),(8,.ptr 0 []),(9,vi b),(10,vi (Di (64:Int) (Ae a b))),(39,.agg [vb g,vi f]),(40,vi b),(41,vi (Di (64:Int) (Ae a b))),(42,vq k),(43,vi (Di (64:Int) (Ae a b)))]]⟩
def x47(Dn Rs:K_)(a b:Int)(g:LB)(f:Int)(k n:UInt64)(m h:Int)(v:LB):Option R_:=H.e P_ [r,r,r,r,l,r,d,(lp Dn),r,l,d,r,(call 5 284),d,(lp Rs),r,d,r] ⟨[(0,.ptr 0 []),(1,vq n),(2,vi m)],[.box 183 (.agg [.own 3,vi h]),.box 183 (.agg [vb g,vi f]),.box 183 (.agg [.nils,vi 0]),Ab 5 v],[[(2,vi a),(3,.ptr 1 []),(6,.ptr 2 []),(8,.ptr 0 []),(9,vi b),(10,vi (Di (64:Int) (Ae a b))),(39,.agg [vb g,vi f]),(40,vi b),(41,vi (Di (64:Int) (Ae a b))),(42,vq k),(43,vi (Di (64:Int) (Ae a b)))]]⟩
def x44(Dn:K_)(a:Int)(g:LB)(f b:Int)(k n:UInt64)(m h:Int)(u:LB):Option R_:=H.e P_ [r,r,r,r,l,r,d,(lp Dn),r,l,d,r,(call 5 284),d] (t44 a g f b k n m h u)
def x27(a:Int)(g:LB)(f b o:Int)(p:LB):Option R_:=H.e P_ [r,r,r,r,l,r,d] (t27 a g f b o p)
theorem e52:x52=HI:=by kernel_rfl
theorem e50(Dn:K_)(a:Int)(g:LB)(f:Int):x50 Dn a g f=GU (λb o p=>Dn (t27 a g f b o p)) a g f:=by kernel_rfl
theorem e48(Dn Rs:K_)(a:Int)(g:LB)(f b:Int)(k:UInt64):x48 Dn Rs a b g f k=IP (λn m h u=>Rs (t44 a g f b k n m h u)) a b g f k:=by kernel_rfl
theorem e47(Dn Rs:K_)(a:Int)(g:LB)(f b:Int)(k:UInt64):x47 Dn Rs a b g f k=HZ (λn m h u=>Rs (t44 a g f b k n m h u)) a b g f k:=Eq.trans (b:=JO (x48 Dn Rs a b g f k) a b g f k) (by kernel_rfl) (by simp only[e48]<;>rfl)
theorem i44(Dn:K_)(a:Int)(g:LB)(f b:Int)(k:UInt64):∀(q:Nat) (n:UInt64) (m h:Int) (u:LB),z44 Dn q (t44 a g f b k n m h u)=Ts (λb o p=>Dn (t27 a g f b o p)) a g f b k q n m h u:=
 ind (λ_ _ _ _=>by kernel_rfl) λq ih n m h u=>Eq.trans (b:=HP (x47 Dn (z44 Dn q) a b g f k) (x50 Dn a g f) a g f b k n m h u) (by kernel_rfl) (by simp only[e47,e50,ih]<;>rfl)
theorem e44(Dn:K_)(a:Int)(g:LB)(f:Int):x44 Dn a g f=IX (λb o p=>Dn (t27 a g f b o p)) a g f:=by funext b k n m h u;exact Eq.trans (by kernel_rfl) ((i44 Dn a g f b k Bj n m h u).trans (by rw[Aj];rfl))
theorem i27(a:Int)(g:LB)(f:Int):∀(q:Nat) (b o:Int) (p:LB),z27 q (t27 a g f b o p)=Tp a g f q b o p:=
 ind (λ_ _ _=>by kernel_rfl) λq ih b o p=>Eq.trans (b:=IU (x44 (z27 q) a g f) x52 a g f b o p) (by kernel_rfl) (by simp only[e44,e52,ih]<;>rfl)
theorem e27:x27=GQ:=by funext a g f b o p;exact Eq.trans (by kernel_rfl) ((i27 a g f Bj b o p).trans (by rw[Aj];rfl))
def F:=u4 QZ
theorem rn x:H.u P_ x=F x:=Eq.trans (b:=u4 (MR x27) x) (by kernel_rfl) (by simp only[e27]<;>rfl)
def c:Con:=⟨H.p,H.r,F⟩
theorem ok:ConOk P_ gl 202 c:=cr H func202 (.cons F204.ok (.cons F205.ok .nil)) (Bp.cons ent284 Bp.nil) rn
end F202
namespace F127
def H:Hd:=⟨[.agg [Sb,Si],Si,Si],[Sq,Si],.d,⟨[(204,F204.c),(205,F205.c)],gl,false⟩,[],f127⟩
def F:=u4 Oo
theorem rn x:H.u P_ x=F x:=by kernel_rfl
def c:Con:=⟨H.p,H.r,F⟩
theorem ok:ConOk P_ gl 127 c:=co H func127 (.cons F204.ok (.cons F205.ok .nil)) rn
end F127
namespace F365
def H:Hd:=⟨[Sq],[Si],.d,⟨[],gl,false⟩,[],f365⟩
def F:=Hf
theorem rn x:H.u P_ x=F x:=by kernel_rfl
def c:Con:=⟨H.p,H.r,F⟩
theorem ok:ConOk P_ gl 365 c:=co H func365 .nil rn
end F365
namespace F341
def Pu(j6:Int->UInt64->Int->LB->Int->Option (Int×Int×Int))(g:LB)(b a:Int):Option (Int×Int×Int):=
(Em g b).bind λm=>
if(Bi m 0)then
some (0,0,m)
else
if(Cd a 0)then
some (0,0,2)
else
if(Hm a b)then
some (0,0,24)
else
(λn:Option (Int×Int×Int)=>
(λo:Option (Int×Int×Int)=>
sN (
o)) (
bo (
n))) (
(Oo g b a (Di 48 (Ae b a))).bind λ(k,h)=>
j6 h k a g b)
theorem GZ: @Pu= @Rm:=by
  unfold Pu Rm;simp only[NF,Xd,AY]
abbrev R_:=(Int×Int×Int)
def H:Hd:=⟨[.agg [Sb,Si],Si],[Si,Si,Si],(.seq .d (.seq .d (.seq .d (.seq .d (.seq .d (.cut [3,5,6,8,9] [] (.keep [2,3,5,6,8,9,22,23,24,25,26,27,28,29] false) (.seq .d (.seq .d (.cut [] [] (.blk (.seq (.blk (.seq (.blk (.cut [] [] (.cut [3,4,5] [] (.cut [3,4,5,36] [] (.keep [3,4,5,8,36,37,38,39,40] true) .d) .d) .d)) .d)) .d)) .d))))))))),⟨[(127,F127.c),(204,F204.c),(365,F365.c)],gl,false⟩,[(364,.d)],f341⟩
def x10:Option R_:=H.e P_ [r,r,r,r,r,r,r,r,r] ⟨[],[],[]⟩
def x9:Option R_:=H.e P_ [r,r,r,r,r,r,r,r,l,d,l,d,l,d,r] ⟨[],[],[]⟩
def x8(f a:Int):Option R_:=H.e P_ [r,r,r,r,r,r,r,r,l,d,l,d,l,d,l,r] ⟨[(3,.ptr 0 []),(4,vi f),(5,vi 0)],[.box 3 (vi a)],[]⟩
def x7(f b a:Int):Option R_:=H.e P_ [r,r,r,r,r,r,r,r,l,d,l,d,l,d,l,l,r] ⟨[(3,.ptr 0 []),(4,vi f),(5,vi 0),(36,vt (Cd f (Di (48:Int) (Ae b a))))],[.box 3 (vi a)],[]⟩
def x6(h:Int)(k:UInt64)(a:Int)(g:LB)(b:Int):Option R_:=H.e P_ [r,r,r,r,r,r] ⟨[(3,.ptr 0 []),(5,vi 0),(6,vi h),(8,.fn 364 [.ptr 1 [],.ptr 0 []]),(9,vq k)],[.box 3 (vi a),.box 183 (.agg [vb g,vi b])],[]⟩
theorem e10:x10=Yz:=by kernel_rfl
theorem e9:x9=DL:=Eq.trans (b:=ER x10) (by kernel_rfl) (by simp only[e10]<;>rfl)
theorem e8:x8=EE:=Eq.trans (b:=DQ x9) (by kernel_rfl) (by simp only[e9]<;>rfl)
theorem e7:x7=EN:=Eq.trans (b:=DZ x8) (by kernel_rfl) (by simp only[e8]<;>rfl)
theorem e6:x6=DO:=Eq.trans (b:=EH x7) (by kernel_rfl) (by simp only[e7]<;>rfl)
def F:=u3 RD
theorem rn x:H.u P_ x=F x:=Eq.trans (b:=u3 (Pu x6) x) (by kernel_rfl) (by unfold F;rw[GZ];simp only[e6]<;>rfl)
def c:Con:=⟨H.p,H.r,F⟩
theorem ok:ConOk P_ gl 341 c:=cr H func341 (.cons F127.ok (.cons F204.ok (.cons F365.ok .nil))) (Bp.cons ent364 Bp.nil) rn
end F341
namespace F285
abbrev R_:=(UInt32×Int×Int)
def H:Hd:=⟨[.agg [Sb,Si],Si,Si],[Su,Si,Si],(.seq .d (.seq .d (.seq .d (.seq .d (.seq .d (.seq .d (.cut [2,3,7,10,11] [] .d .d))))))),⟨[(127,F127.c),(204,F204.c),(333,F333.c),(341,F341.c)],gl,false⟩,[],f285⟩
def x2(a b f:Int)(g:LB)(h k:Int):Option R_:=H.e P_ [r,r,r,r,r,r,r] ⟨[(2,vi a),(3,.ptr 0 []),(7,vi b),(10,vi f),(11,vi k)],[.box 183 (.agg [vb g,vi h])],[]⟩
theorem e2:x2=JC:=by kernel_rfl
def F:=u4 UK
theorem rn x:H.u P_ x=F x:=Eq.trans (b:=u4 (IJ x2) x) (by kernel_rfl) (by simp only[e2]<;>rfl)
def c:Con:=⟨H.p,H.r,F⟩
theorem ok:ConOk P_ gl 285 c:=co H func285 (.cons F127.ok (.cons F204.ok (.cons F333.ok (.cons F341.ok .nil)))) rn
end F285
namespace F203
abbrev R_:=(UInt32×Int×Int×Int×UInt64×UInt64×Int)
def H:Hd:=⟨[.agg [Sb,Si],Si,.agg [Si,Si,Sq,Sq]],[Su,Si,.agg [Si,Si,Sq,Sq],Si],(.seq .d (.cut [1,3,5,8] [] .d (.seq .d (.seq .d (.cut [5,6,7,8] [] .d (.cut [5,6,7,8] [] (.keep [5,6,7,8,81] true) .d)))))),⟨[(127,F127.c),(204,F204.c),(271,F271.c),(272,F272.c),(285,F285.c)],gl,false⟩,[(275,(.seq .d (.seq .d (.seq .d (.blk (.cut [0,1,4] [] (.blk (.seq .d (.keep [0,1,4,6,18,19,20,21,22,23,24,25] true))) (.cut [] [] (.keep [0,1,4,27,28,29,30,31,32,33,34] true) .d))))))),(335,.d)],f203⟩
def x10(f:UInt32)(k w m:Int)(a n:UInt64):Option R_:=H.e P_ [r,r,r,r,r,r] ⟨[(5,.ptr 0 []),(6,vu f),(7,vi k),(8,.ptr 1 [])],[.box 254 (.agg [vi w,vi m,vq (Aa a (Ae (Al f:UInt64) (Bn a (GI.toZ (4:UInt64)).toNat))),vq n]),.box 254 (.agg [vi 0,vi 0,vq 0,vq 0])],[]⟩
def x9(f:UInt32)(k m:Int)(a n:UInt64)(w:Int):Option R_:=H.e P_ [r,r,r,r,r,l,(call 1 275),r,r,r,d,r,r] ⟨[],[.box 254 (.agg [vi w,vi m,vq (Aa a (Ae (Al f:UInt64) (Bn a (GI.toZ (4:UInt64)).toNat))),vq n]),.box 254 (.agg [vi 0,vi 0,vq 0,vq 0])],[[(5,.ptr 0 []),(6,vu f),(7,vi k),(8,.ptr 1 []),(81,vu f)]]⟩
def x8(f:UInt32)(k b:Int)(a:UInt64)(m:Int)(n:UInt64):Option R_:=H.e P_ [r,r,r,r,r,l,(call 1 275),r,r,r,d,r] ⟨[(0,.ptr 0 []),(1,vu f),(4,.fn 335 [])],[.box 254 (.agg [vi b,vi m,vq a,vq n]),.box 254 (.agg [vi 0,vi 0,vq 0,vq 0])],[[(5,.ptr 0 []),(6,vu f),(7,vi k),(8,.ptr 1 []),(81,vu f)]]⟩
def x7(b h:Int)(a g:UInt64)(f:UInt32)(k:Int):Option R_:=H.e P_ [r,r,r,r,r] ⟨[(5,.ptr 0 []),(6,vu f),(7,vi k),(8,.ptr 1 [])],[.box 254 (.agg [vi b,vi h,vq a,vq g]),.box 254 (.agg [vi 0,vi 0,vq 0,vq 0])],[]⟩
def x6(p:Int)(u:LB)(v b h:Int)(a g:UInt64):Option R_:=H.e P_ [r,r] ⟨[(1,vi p),(3,.ptr 0 []),(5,.ptr 1 []),(8,.ptr 2 [])],[.box 183 (.agg [vb u,vi v]),.box 254 (.agg [vi b,vi h,vq a,vq g]),.box 254 (.agg [vi 0,vi 0,vq 0,vq 0])],[]⟩
theorem e10:x10=DT:=by kernel_rfl
theorem e9:x9=GW:=Eq.trans (b:=IY x10) (by kernel_rfl) (by simp only[e10]<;>rfl)
theorem e8:x8=JA:=Eq.trans (b:=JI x9) (by kernel_rfl) (by simp only[e9]<;>rfl)
theorem e7:x7=HN:=Eq.trans (b:=HJ x8) (by kernel_rfl) (by simp only[e8]<;>rfl)
theorem e6:x6=JL:=Eq.trans (b:=HV x7) (by kernel_rfl) (by simp only[e7]<;>rfl)
def F:=u7 Sg
theorem rn x:H.u P_ x=F x:=Eq.trans (b:=u7 (JP x6) x) (by kernel_rfl) (by simp only[e6]<;>rfl)
def c:Con:=⟨H.p,H.r,F⟩
theorem ok:ConOk P_ gl 203 c:=cr H func203 (.cons F127.ok (.cons F204.ok (.cons F271.ok (.cons F272.ok (.cons F285.ok .nil))))) (Bp.cons ent275 (Bp.cons ent335 Bp.nil)) rn
end F203
namespace F126
def Hu(j21:Int->Int->Int->UInt32->Int-> (List (Int×Int×UInt64×UInt64×Unit))->LU->Int->Int->UInt64->UInt64->Option (LU×Int×Int))(j24:Int->LU->Option (LU×Int×Int))(a f:Int)(g:LB)(b k h:Int)(n:List (Int×Int×UInt64×UInt64×Unit))(m:LU):Option (LU×Int×Int):=
if(Cd h (Cq f a))then
(QZ g b k (Di (Aa k 81) b)).bind λ(ah,ae,af)=>
if(Bi af 0)then
some (([]:LU),0,af)
else
(Ee (Bi a 0)).bind λ_=>
(Af n (Fs h a)).bind λ_=>
(λai:Option (LU×Int×Int)=>
both (
both (
(Af n (Fs h a)).bind λp=>
(λao:Option (LU×Int×Int)=>
bo (
ao)) (
(Sg ah ae 0 p.1 p.2.1 p.2.2.1 p.2.2.2.1).bind λ(w,v,aa,ab,ac,ad,y)=>
j21 k h y w v n m aa ab ac ad)) [
ai]) [
(Af n (Fs h a)).bind λp=>
(λaj:Option (LU×Int×Int)=>
both (
bo (
aj)) [
aj]) (
(Sg ah ae 0 p.1 p.2.1 p.2.2.1 p.2.2.2.1).bind λ(w,v,aa,ab,ac,ad,y)=>
j21 k h y w v n m aa ab ac ad),
bo (
ai)]) (
(Af n (Fs h a)).bind λp=>
(Sg ah ae 0 p.1 p.2.1 p.2.2.1 p.2.2.2.1).bind λ(w,v,aa,ab,ac,ad,y)=>
j21 k h y w v n m aa ab ac ad)
else
j24 k m
theorem Up: @Hu= @Ja:=by
  unfold Hu Ja
  try simp only[NF,Xd,AY]
  all_goals
    repeat (refine funext λ_=>?_)
    repeat' first
      |with_reducible rfl
      |with_reducible refine Gv ?_ ?_
      |with_reducible refine Gn ?_ ?_ ?_
      |with_reducible refine Gy ?_ ?_ ?_ ?_
      |((with_reducible refine Jz ?_ ?_);focus (intro h;first|(subst h;rfl)|(simp only[h];rfl)|(simp[Dh,Ac,h];done)))
      |with_reducible refine Jr λx=>?_
      |with_reducible refine Nw (λ_=>?_) (λ_=>?_)
      |(refine Eg (λh=>by simp only[h,Jv,Dg,Cx,ite_self]) (λx h=>?_);(try simp only[h,Dg]))
      |(refine Ff (λh=>?_) (λh=>?_)<;>simp only[h,if_true,if_false,Bool.false_eq_true])
abbrev R_:=(LU×Int×Int)
abbrev K_:=S->Option R_
def H:Hd:=⟨[Si,Si,.agg [Sb,Si]],[Ov 43,Si,Si],(.seq .d (.seq .d (.cut [0,1,5,9] [] (.seq .d (.blk (.loop [0,1,5,9,19] [] .d))) (.seq .d (.seq .d (.cut [11,12] [] (.seq .d (.blk (.loop [0,5,9,11,12,28,29] [⟨11,[],.own 43 (.int .u32)⟩] (.seq .d (.seq .d (.seq (.blk (.seq .d (.seq .d (.seq .d (.cut [0,5,9,11,12,13,15,16,17,18,28,29] [] (.mode false) (.seq .d (.cut [0,5,9,11,12,16,28,29] [] .d .d))))))) .d)))))) .d)))))),⟨[(201,F201.c),(202,F202.c),(203,F203.c)],gl,false⟩,[],f126⟩
def t16(a f:Int)(g:LB)(b k h:Int)(n:List (Int×Int×UInt64×UInt64×Unit))(m:LU):S:=⟨[(0,vi a),(5,.ptr 0 []),(9,.ptr 1 []),(11,.own 2),(12,vi k),(28,vi (Cq f a)),(29,vi h)],[.box 183 (.agg [vb g,vi b]),.box 255 (.val (.vec 6 (.cons (.int .i64) (.cons (.int .i64) (.cons (.int .u64) (.cons (.int .u64) .nil))))) n),Av 43 m],[]⟩
def z16:Nat->S->Option R_:=H.i P_ [r,r,r,r,r,l,r,d]
def t13(a f:Int)(g:LB)(b u:Int)(o:List (Int×Int×UInt64×UInt64×Unit)):S:=⟨[(0,vi a),(1,vi f),(5,.ptr 0 []),(9,.ptr 1 []),(19,vi u)],[.box 183 (.agg [vb g,vi b]),.box 255 (.val (.vec 6 (.cons (.int .i64) (.cons (.int .i64) (.cons (.int .u64) (.cons (.int .u64) .nil))))) o)],[]⟩
def z13:Nat->S->Option R_:=H.i P_ [r,r,l,r,d]
def x24(k:Int)(m:LU):Option R_:=H.e P_ [r,r,r,r,r,r] ⟨[(11,.own 0),(12,vi k)],[Av 43 m],[]⟩
def x22(Bm:K_)(a f:Int)(g:LB)(b k v:Int)(w:UInt32)(h:Int)(ag:List (Int×Int×UInt64×UInt64×Unit))(m:LU):Option R_:=H.e P_ [r,r,r,r,r,l,r,d,(lp Bm),r,r,l,d,r,r,r,r,r,r] ⟨[(0,vi a),(5,.ptr 0 []),(9,.ptr 1 []),(11,.own 2),(12,vi (Aa k v)),(16,vu w),(28,vi (Cq f a)),(29,vi h)],[.box 183 (.agg [vb g,vi b]),.box 255 (.val (.vec 6 (.cons (.int .i64) (.cons (.int .i64) (.cons (.int .u64) (.cons (.int .u64) .nil))))) ag),Av 43 m],[]⟩
def x21(Bm:K_)(a f:Int)(g:LB)(b k h y:Int)(w:UInt32)(v:Int)(n:List (Int×Int×UInt64×UInt64×Unit))(m:LU)(aa ab:Int)(ac ad:UInt64):Option R_:=H.e P_ [r,r,r,r,r,l,r,d,(lp Bm),r,r,l,d,r,r,r,r] ⟨[(0,vi a),(5,.ptr 0 []),(9,.ptr 1 []),(11,.own 2),(12,vi k),(13,vi h),(15,vi y),(16,vu w),(17,vi v),(18,.ptr 3 []),(28,vi (Cq f a)),(29,vi h)],[.box 183 (.agg [vb g,vi b]),.box 255 (.val (.vec 6 (.cons (.int .i64) (.cons (.int .i64) (.cons (.int .u64) (.cons (.int .u64) .nil))))) n),Av 43 m,.box 254 (.agg [vi aa,vi ab,vq ac,vq ad])],[]⟩
def x16(a f:Int)(g:LB)(b k h:Int)(n:List (Int×Int×UInt64×UInt64×Unit))(m:LU):Option R_:=H.e P_ [r,r,r,r,r,l,r,d] (t16 a f g b k h n m)
def x15(a f:Int)(g:LB)(b:Int)(o:List (Int×Int×UInt64×UInt64×Unit)):Option R_:=H.e P_ [r,r,r] ⟨[(0,vi a),(1,vi f),(5,.ptr 0 []),(9,.ptr 1 [])],[.box 183 (.agg [vb g,vi b]),.box 255 (.val (.vec 6 (.cons (.int .i64) (.cons (.int .i64) (.cons (.int .u64) (.cons (.int .u64) .nil))))) o)],[]⟩
def x13(a f:Int)(g:LB)(b u:Int)(o:List (Int×Int×UInt64×UInt64×Unit)):Option R_:=H.e P_ [r,r,l,r,d] (t13 a f g b u o)
theorem e24:x24=Ox:=by kernel_rfl
theorem e22(Bm:K_)(a f:Int)(g:LB)(b:Int):x22 Bm a f g b=Nk (λk h n m=>Bm (t16 a f g b k h n m)) a f g b:=by kernel_rfl
theorem e21(Bm:K_)(a f:Int)(g:LB)(b:Int):x21 Bm a f g b=Of (λk h n m=>Bm (t16 a f g b k h n m)) a f g b:=Eq.trans (b:=Od (x22 Bm a f g b) a f g b) (by kernel_rfl) (by simp only[e22]<;>rfl)
theorem i16(a f:Int)(g:LB)(b:Int):∀(q:Nat) (k h:Int) (n:List (Int×Int×UInt64×UInt64×Unit)) (m:LU),z16 q (t16 a f g b k h n m)=Ir a f g b q k h n m:=
 ind (λ_ _ _ _=>by kernel_rfl) λq ih k h n m=>Eq.trans (b:=Hu (x21 (z16 q) a f g b) x24 a f g b k h n m) (by kernel_rfl) (by rw[Up];simp only[e21,e24,ih]<;>rfl)
theorem e16:x16=Pk:=by funext a f g b k h n m;exact Eq.trans (by kernel_rfl) ((i16 a f g b Bj k h n m).trans (by rw[Aj];rfl))
theorem e15:x15=Mz:=Eq.trans (b:=Nc x16) (by kernel_rfl) (by simp only[e16]<;>rfl)
theorem i13(a f:Int)(g:LB)(b:Int):∀(q:Nat) (u:Int) (o:List (Int×Int×UInt64×UInt64×Unit)),z13 q (t13 a f g b u o)=Is a f g b q u o:=
 ind (λ_ _=>by kernel_rfl) λq ih u o=>Eq.trans (b:=Nm x15 (λu o=>(z13 q) (t13 a f g b u o)) a f g b u o) (by kernel_rfl) (by simp only[e15,ih]<;>rfl)
theorem e13:x13=Po:=by funext a f g b u o;exact Eq.trans (by kernel_rfl) ((i13 a f g b Bj u o).trans (by rw[Aj];rfl))
def F:=u4 Zh
theorem rn x:H.u P_ x=F x:=Eq.trans (b:=u4 (Qm x13) x) (by kernel_rfl) (by simp only[e13]<;>rfl)
def c:Con:=⟨H.p,H.r,F⟩
theorem ok:ConOk P_ gl 126 c:=co H func126 (.cons F201.ok (.cons F202.ok (.cons F203.ok .nil))) rn
end F126
namespace F208
def H:Hd:=⟨[Su],[Sx],.d,⟨[],gl,false⟩,[],f208⟩
def F:=Ks
theorem rn x:H.u P_ x=F x:=by kernel_rfl
def c:Con:=⟨H.p,H.r,F⟩
theorem ok:ConOk P_ gl 208 c:=co H func208 .nil rn
end F208
namespace F289
def H:Hd:=⟨[.agg [Si,.lf (.vec 16 (.int .i32)) none,.lf (.vec 16 (.int .i32)) none],Sx],[Sx,.agg [Si,.lf (.vec 16 (.int .i32)) none,.lf (.vec 16 (.int .i32)) none],Si],.d,⟨[(344,F344.c),(345,F345.c)],gl,false⟩,[],f289⟩
def F:=u4 SL
theorem rn x:H.u P_ x=F x:=by kernel_rfl
def c:Con:=⟨H.p,H.r,F⟩
theorem ok:ConOk P_ gl 289 c:=co H func289 (.cons F344.ok (.cons F345.ok .nil)) rn
end F289
namespace F207
def Oe(a:Int)(b:Int32)(f:Int)(g h:LX)(o:Int32):Option (Int32×Int×Int32×Int×LX×LX×Int):=
(Li a b f g h).bind λk=>
if(Bi k 0)then
some (0,0,0,0,(List.replicate 16 (0:Int32)),(List.replicate 16 (0:Int32)),k)
else
(Lk a b).bind λ(m,y)=>
(SL f g h o).bind λ(n,p,u,v,w)=>
(λaa:Option (Int32×Int×Int32×Int×LX×LX×Int)=>
bo (
aa)) (
some ((Aa n m),a,(Aa n m),p,u,v,w))
theorem HR: @Oe= @Ex:=by
  unfold Oe Ex;simp only[NF,Xd,AY]
def H:Hd:=⟨[.agg [Si,Sx,.agg [Si,.lf (.vec 16 (.int .i32)) none,.lf (.vec 16 (.int .i32)) none]],Sx],[Sx,.agg [Si,Sx,.agg [Si,.lf (.vec 16 (.int .i32)) none,.lf (.vec 16 (.int .i32)) none]],Si],(.seq .d (.seq .d (.seq .d (.seq .d (.seq (.mode false) .d))))),⟨[(287,F287.c),(288,F288.c),(289,F289.c)],gl,false⟩,[],f207⟩
def F:=u6 Ex
theorem rn x:H.u P_ x=F x:=Eq.trans (b:=u6 Oe x) (by kernel_rfl) (by rw[HR];rfl)
def c:Con:=⟨H.p,H.r,F⟩
theorem ok:ConOk P_ gl 207 c:=co H func207 (.cons F287.ok (.cons F288.ok (.cons F289.ok .nil))) rn
end F207
namespace F209
abbrev R_:=(LX×Int)
abbrev K_:=S->Option R_
def H:Hd:=⟨[Si,Sw],[Ow 21,Si],(.seq .d (.seq .d (.seq .d (.cut [7] [] (.seq .d (.blk (.loop [0,7,8] [] (.seq .d (.cut [0,7,8] [] (.blk (.keep [0,7,8,24,25,26,27,28,29] true)) .d))))) .d)))),⟨[(290,F290.c),(291,F291.c)],gl,true⟩,[(292,(.seq .d (.cut [0,2] [] .d (.seq .d (.blk (.loop [0,3] [] .d))))))],f209⟩
def t18(b a g:Int)(h:LX):S:=⟨[(0,.view true 0 [] (.int .i32) a ((Aa a b)-a)),(3,vi g)],[Aw 21 h],[[(0,vi b),(7,.own 0),(8,vi a),(24,.own 0),(25,vi a),(26,vi a),(27,vi b),(28,vi (Aa a b)),(29,.view true 0 [] (.int .i32) a ((Aa a b)-a))]]⟩
def z18(En:K_):Nat->S->Option R_:=H.i P_ [r,r,r,l,r,d,(lp En),r,l,d,(call 6 292),r,r,r,d]
def t12(b a:Int)(f:LX):S:=⟨[(0,vi b),(7,.own 0),(8,vi a)],[Aw 21 f],[]⟩
def z12:Nat->S->Option R_:=H.i P_ [r,r,r,l,r,d]
def x22(f:LX):Option R_:=H.e P_ [r,r,r,r] ⟨[(7,.own 0)],[Aw 21 f],[]⟩
def x20(En:K_)(b a:Int)(h:LX):Option R_:=H.e P_ [r,r,r,l,r,d,(lp En),r,r] ⟨[(0,vi b),(7,.own 0),(8,vi a)],[Aw 21 h],[]⟩
def x18(En:K_)(b a g:Int)(h:LX):Option R_:=H.e P_ [r,r,r,l,r,d,(lp En),r,l,d,(call 6 292),r,r,r,d] (t18 b a g h)
def x17(En:K_)(b a:Int)(k:LX):Option R_:=H.e P_ [r,r,r,l,r,d,(lp En),r,l,d,(call 6 292),r,r] ⟨[(0,.view true 0 [] (.int .i32) a ((Aa a b)-a)),(2,vi (Ae ((Aa a b)-a) (1:Int)))],[Aw 21 k],[[(0,vi b),(7,.own 0),(8,vi a),(24,.own 0),(25,vi a),(26,vi a),(27,vi b),(28,vi (Aa a b)),(29,.view true 0 [] (.int .i32) a ((Aa a b)-a))]]⟩
def x12(b a:Int)(f:LX):Option R_:=H.e P_ [r,r,r,l,r,d] (t12 b a f)
theorem e22:x22=HK:=by kernel_rfl
theorem e20(En:K_)(b:Int):x20 En b=IG (λa f=>En (t12 b a f)) b:=by kernel_rfl
theorem i18(En:K_)(b a:Int):∀(q:Nat) (g:Int) (h:LX),z18 En q (t18 b a g h)=Ug (λa f=>En (t12 b a f)) b a q g h:=
 ind (λ_ _=>by kernel_rfl) λq ih g h=>Eq.trans (b:=HD (x20 En b) (λg h=>(z18 En q) (t18 b a g h)) b a g h) (by kernel_rfl) (by simp only[e20,ih]<;>rfl)
theorem e18(En:K_)(b:Int):x18 En b=HH (λa f=>En (t12 b a f)) b:=by funext a g h;exact Eq.trans (by kernel_rfl) ((i18 En b a Bj g h).trans (by rw[Aj];rfl))
theorem e17(En:K_)(b:Int):x17 En b=IV (λa f=>En (t12 b a f)) b:=Eq.trans (b:=GR (x18 En b) b) (by kernel_rfl) (by simp only[e18]<;>rfl)
theorem i12(b:Int):∀(q:Nat) (a:Int) (f:LX),z12 q (t12 b a f)=Uc b q a f:=
 ind (λ_ _=>by kernel_rfl) λq ih a f=>Eq.trans (b:=HE (x17 (z12 q) b) x22 b a f) (by kernel_rfl) (by simp only[e17,e22,ih]<;>rfl)
theorem e12:x12=IM:=by funext b a f;exact Eq.trans (by kernel_rfl) ((i12 b Bj a f).trans (by rw[Aj];rfl))
def F:=u2 YB
theorem rn x:H.u P_ x=F x:=Eq.trans (b:=u2 (NG x12) x) (by kernel_rfl) (by simp only[e12]<;>rfl)
def c:Con:=⟨H.p,H.r,F⟩
theorem ok:ConOk P_ gl 209 c:=cr H func209 (.cons F290.ok (.cons F291.ok .nil)) (Bp.cons ent292 Bp.nil) rn
end F209
namespace F128
def Gu(j16:Int->Int32->Int-> (List (Int×Int32×(Int×LX×LX×Unit)×Unit))->LX->Int->Int32->Int->LX->LX->Option (LX×Int))(j18:Int->Int->LX->Option (LX×Int))(f:LU)(a b g:Int)(h:List (Int×Int32×(Int×LX×LX×Unit)×Unit))(k:LX):Option (LX×Int):=
if(Cd g (Ac f))then
(Af f g).bind λag=>
(Ee (Bi a 0)).bind λ_=>
(Af h (Fs g a)).bind λ_=>
both (
(Af h (Fs g a)).bind λm=>
both (
(Ks ag).bind λae=>
(λao:Option (LX×Int)=>
bo (
ao)) (
(Ex m.1 m.2.1 m.2.2.1.1 m.2.2.1.2.1 m.2.2.1.2.2.1 ae).bind λ(w,y,v,aa,ab,ac,u)=>
j16 g w u h k y v aa ab ac)) [
(Ks ag).bind λae=>
(Ex m.1 m.2.1 m.2.2.1.1 m.2.2.1.2.1 m.2.2.1.2.2.1 ae).bind λ(w,y,v,aa,ab,ac,u)=>
j16 g w u h k y v aa ab ac]) [
(Ks ag).bind λaf=>
both (
(Af h (Fs g a)).bind λad=>
(λap:Option (LX×Int)=>
bo (
ap)) (
(Ex ad.1 ad.2.1 ad.2.2.1.1 ad.2.2.1.2.1 ad.2.2.1.2.2.1 af).bind λ(w,y,v,aa,ab,ac,u)=>
j16 g w u h k y v aa ab ac)) [
(Af h (Fs g a)).bind λad=>
(Ex ad.1 ad.2.1 ad.2.2.1.1 ad.2.2.1.2.1 ad.2.2.1.2.2.1 af).bind λ(w,y,v,aa,ab,ac,u)=>
j16 g w u h k y v aa ab ac],
both (
(Af h (Fs g a)).bind λm=>
(Ks ag).bind λae=>
(Ex m.1 m.2.1 m.2.2.1.1 m.2.2.1.2.1 m.2.2.1.2.2.1 ae).bind λ(w,y,v,aa,ab,ac,u)=>
j16 g w u h k y v aa ab ac) [
(Ks ag).bind λaf=>
(Af h (Fs g a)).bind λad=>
(Ex ad.1 ad.2.1 ad.2.2.1.1 ad.2.2.1.2.1 ad.2.2.1.2.2.1 af).bind λ(w,y,v,aa,ab,ac,u)=>
j16 g w u h k y v aa ab ac]]
else
j18 a b k
theorem Ru: @Gu= @Hr:=by
  unfold Gu Hr
  try simp only[NF,Xd,AY]
  all_goals
    repeat (refine funext λ_=>?_)
    repeat' first
      |with_reducible rfl
      |with_reducible refine Gv ?_ ?_
      |with_reducible refine Gn ?_ ?_ ?_
      |with_reducible refine Gy ?_ ?_ ?_ ?_
      |((with_reducible refine Jz ?_ ?_);focus (intro h;first|(subst h;rfl)|(simp only[h];rfl)|(simp[Dh,Ac,h];done)))
      |with_reducible refine Jr λx=>?_
      |with_reducible refine Nw (λ_=>?_) (λ_=>?_)
      |(refine Eg (λh=>by simp only[h,Jv,Dg,Cx,ite_self]) (λx h=>?_);(try simp only[h,Dg]))
      |(refine Ff (λh=>?_) (λh=>?_)<;>simp only[h,if_true,if_false,Bool.false_eq_true])
abbrev R_:=(LX×Int)
abbrev K_:=S->Option R_
def H:Hd:=⟨[.agg [Si,Si],.lf (.vec 16 (.int .i32)) none,Sv],[Ow 21,Si],(.seq .d (.seq .d (.cut [2,3,8] [] (.seq .d (.blk (.loop [2,3,4,8,20] [] .d))) (.seq .d (.cut [3,10] [] (.seq .d (.blk (.loop [3,8,10,33,34,35] [⟨10,[],.own 21 (.int .i32)⟩] (.seq .d (.seq .d (.seq (.blk (.seq .d (.seq .d (.cut [3,8,10,13,14,15,16,33,34,35] [] (.mode false) .d)))) .d)))))) .d))))),⟨[(169,F169.c),(206,F206.c),(207,F207.c),(208,F208.c),(209,F209.c)],gl,false⟩,[],f128⟩
def t13(f:LU)(a b g:Int)(h:List (Int×Int32×(Int×LX×LX×Unit)×Unit))(k:LX):S:=⟨[(3,.ptr 0 []),(8,.ptr 1 []),(10,.own 2),(33,vv f),(34,vi (Ac f)),(35,vi g)],[.box 104 (.agg [vi a,vi b]),.box 282 (.val (.vec 6 (.cons (.int .i64) (.cons (.int .i32) (.cons (.cons (.int .i64) (.cons (.vec 16 (.int .i32)) (.cons (.vec 16 (.int .i32)) .nil))) .nil)))) h),Aw 21 k],[]⟩
def z13:Nat->S->Option R_:=H.i P_ [r,r,r,r,l,r,d]
def t10(f:LU)(a b:Int)(o:LX)(p:Int)(n:List (Int×Int32×(Int×LX×LX×Unit)×Unit)):S:=⟨[(2,vv f),(3,.ptr 0 []),(4,.ptr 1 []),(8,.ptr 2 []),(20,vi p)],[.box 104 (.agg [vi a,vi b]),.box 105 (.val (.vec 16 (.int .i32)) o),.box 282 (.val (.vec 6 (.cons (.int .i64) (.cons (.int .i32) (.cons (.cons (.int .i64) (.cons (.vec 16 (.int .i32)) (.cons (.vec 16 (.int .i32)) .nil))) .nil)))) n)],[]⟩
def z10:Nat->S->Option R_:=H.i P_ [r,r,l,r,d]
def x18(a b:Int)(k:LX):Option R_:=H.e P_ [r,r,r,r,r] ⟨[(3,.ptr 0 []),(10,.own 1)],[.box 104 (.agg [vi a,vi b]),Aw 21 k],[]⟩
def x16(mK:K_)(a:Int)(f:LU)(b g:Int)(w:Int32)(u:Int)(h:List (Int×Int32×(Int×LX×LX×Unit)×Unit))(k:LX)(y:Int)(v:Int32)(aa:Int)(ab ac:LX):Option R_:=H.e P_ [r,r,r,r,l,r,d,(lp mK),r,r,l,d,r,r,r] ⟨[(3,.ptr 0 []),(8,.ptr 1 []),(10,.own 2),(13,.ptr 1 [.idx (Fs g a) 35]),(14,vx w),(15,.ptr 3 []),(16,vi u),(33,vv f),(34,vi (Ac f)),(35,vi g)],[.box 104 (.agg [vi a,vi b]),.box 282 (.val (.vec 6 (.cons (.int .i64) (.cons (.int .i32) (.cons (.cons (.int .i64) (.cons (.vec 16 (.int .i32)) (.cons (.vec 16 (.int .i32)) .nil))) .nil)))) h),Aw 21 k,.box 281 (.agg [vi y,vx v,.agg [vi aa,.val (.vec 16 (.int .i32)) ab,.val (.vec 16 (.int .i32)) ac]])],[]⟩
def x13(f:LU)(a b g:Int)(h:List (Int×Int32×(Int×LX×LX×Unit)×Unit))(k:LX):Option R_:=H.e P_ [r,r,r,r,l,r,d] (t13 f a b g h k)
def x12(f:LU)(a b:Int)(n:List (Int×Int32×(Int×LX×LX×Unit)×Unit)):Option R_:=H.e P_ [r,r,r] ⟨[(2,vv f),(3,.ptr 0 []),(8,.ptr 1 [])],[.box 104 (.agg [vi a,vi b]),.box 282 (.val (.vec 6 (.cons (.int .i64) (.cons (.int .i32) (.cons (.cons (.int .i64) (.cons (.vec 16 (.int .i32)) (.cons (.vec 16 (.int .i32)) .nil))) .nil)))) n)],[]⟩
def x10(f:LU)(a b:Int)(o:LX)(p:Int)(n:List (Int×Int32×(Int×LX×LX×Unit)×Unit)):Option R_:=H.e P_ [r,r,l,r,d] (t10 f a b o p n)
theorem e18:x18=Mg:=by kernel_rfl
theorem e16(mK:K_)(f:LU)(a b:Int):x16 mK a f b=Mh (λg h k=>mK (t13 f a b g h k)) a f b:=by kernel_rfl
theorem i13(f:LU)(a b:Int):∀(q:Nat) (g:Int) (h:List (Int×Int32×(Int×LX×LX×Unit)×Unit)) (k:LX),z13 q (t13 f a b g h k)=Ht f a b q g h k:=
 ind (λ_ _ _=>by kernel_rfl) λq ih g h k=>Eq.trans (b:=Gu (x16 (z13 q) a f b) x18 f a b g h k) (by kernel_rfl) (by rw[Ru];simp only[e16,e18,ih]<;>rfl)
theorem e13:x13=Mm:=by funext f a b g h k;exact Eq.trans (by kernel_rfl) ((i13 f a b Bj g h k).trans (by rw[Aj];rfl))
theorem e12:x12=Ml:=Eq.trans (b:=Mj x13) (by kernel_rfl) (by simp only[e13]<;>rfl)
theorem i10(f:LU)(a b:Int)(o:LX):∀(q:Nat) (p:Int) (n:List (Int×Int32×(Int×LX×LX×Unit)×Unit)),z10 q (t10 f a b o p n)=Hv f a b o q p n:=
 ind (λ_ _=>by kernel_rfl) λq ih p n=>Eq.trans (b:=Mk x12 (λp n=>(z10 q) (t10 f a b o p n)) f a b o p n) (by kernel_rfl) (by simp only[e12,ih]<;>rfl)
theorem e10:x10=Mi:=by funext f a b o p n;exact Eq.trans (by kernel_rfl) ((i10 f a b o Bj p n).trans (by rw[Aj];rfl))
def F:=u4 Vt
theorem rn x:H.u P_ x=F x:=Eq.trans (b:=u4 (Ph x10) x) (by kernel_rfl) (by simp only[e10]<;>rfl)
def c:Con:=⟨H.p,H.r,F⟩
theorem ok:ConOk P_ gl 128 c:=co H func128 (.cons F169.ok (.cons F206.ok (.cons F207.ok (.cons F208.ok (.cons F209.ok .nil))))) rn
end F128
namespace F68
def H:Hd:=⟨[.agg [Si,Si],.lf (.vec 16 (.int .i32)) none,Si,Sb],[Ow 21,Si],.d,⟨[(123,F123.c),(124,F124.c),(125,F125.c),(126,F126.c),(127,F127.c),(128,F128.c)],gl,false⟩,[],f68⟩
def F:=u5 Mx
theorem rn x:H.u P_ x=F x:=by kernel_rfl
def c:Con:=⟨H.p,H.r,F⟩
theorem ok:ConOk P_ gl 68 c:=co H func68 (.cons F123.ok (.cons F124.ok (.cons F125.ok (.cons F126.ok (.cons F127.ok (.cons F128.ok .nil)))))) rn
end F68
namespace F118
abbrev R_:=(Int×Int)
def H:Hd:=⟨[Sb],[Si,Si],(.seq .d (.seq .d (.cut [0,4] [] .d .d))),⟨[(113,F113.c),(196,F196.c),(197,F197.c),(198,F198.c)],gl,false⟩,[],f118⟩
def x2(a:LB):Option R_:=H.e P_ [r,r,r] ⟨[(0,vb a),(4,vi (Ae (Ac a) (32:Int)))],[],[]⟩
theorem e2:x2=KZ:=by kernel_rfl
def F:=XV
theorem rn x:H.u P_ x=F x:=Eq.trans (b:=MN x2 x) (by kernel_rfl) (by simp only[e2]<;>rfl)
def c:Con:=⟨H.p,H.r,F⟩
theorem ok:ConOk P_ gl 118 c:=co H func118 (.cons F113.ok (.cons F196.ok (.cons F197.ok (.cons F198.ok .nil)))) rn
end F118
namespace F55
abbrev R_:=(Int×Int)
abbrev K_:=S->Option R_
def H:Hd:=⟨[Sb],[Si,Si],(.seq .d (.seq .d (.seq .d (.seq .d (.cut [5] [] (.blk (.loop [1,4,5] [] (.seq .d (.cut [1,4,5] [] (.blk (.cut [1,4,5,6] [] (.keep [1,4,5,6,16,17] true) .d)) .d)))) .d))))),⟨[(118,F118.c)],gl,false⟩,[(117,.d)],f55⟩
def t8(a:Int)(b:LB):S:=⟨[(1,.ptr 0 []),(4,.fn 117 [.ptr 0 []]),(5,vi a)],[.box 22 (vb b)],[]⟩
def z8:Nat->S->Option R_:=H.i P_ [r,r,r,r,l,d]
def x14(a:Int):Option R_:=H.e P_ [r,r,r,r,r] ⟨[(5,vi a)],[],[]⟩
def x12(bT:K_)(a:Int)(g:LB):Option R_:=H.e P_ [r,r,r,r,l,d,(lp bT),r,r] ⟨[(1,.ptr 0 []),(4,.fn 117 [.ptr 0 []]),(5,vi a)],[.box 22 (vb g)],[]⟩
def x11(bT:K_)(a f:Int)(b:LB):Option R_:=H.e P_ [r,r,r,r,l,d,(lp bT),r,l,d,r] ⟨[(1,.ptr 0 []),(4,.fn 117 [.ptr 0 []]),(5,vi a),(6,vi f)],[.box 22 (vb b)],[]⟩
def x8(a:Int)(b:LB):Option R_:=H.e P_ [r,r,r,r,l,d] (t8 a b)
theorem e14:x14=Te:=by kernel_rfl
theorem e12(bT:K_):x12 bT=Tj (λa b=>bT (t8 a b)):=by kernel_rfl
theorem e11(bT:K_):x11 bT=Sj (λa b=>bT (t8 a b)):=Eq.trans (b:=Td (x12 bT)) (by kernel_rfl) (by simp only[e12]<;>rfl)
theorem i8:∀(q:Nat) (a:Int) (b:LB),z8 q (t8 a b)=Ls q a b:=
 ind (λ_ _=>by kernel_rfl) λq ih a b=>Eq.trans (b:=Wr (x11 (z8 q)) x14 a b) (by kernel_rfl) (by simp only[e11,e14,ih]<;>rfl)
theorem e8:x8=Wa:=by funext a b;exact Eq.trans (by kernel_rfl) ((i8 Bj a b).trans (by rw[Aj];rfl))
def F:=HL
theorem rn x:H.u P_ x=F x:=Eq.trans (b:=Wi x8 x) (by kernel_rfl) (by simp only[e8]<;>rfl)
def c:Con:=⟨H.p,H.r,F⟩
theorem ok:ConOk P_ gl 55 c:=cr H func55 (.cons F118.ok .nil) (Bp.cons ent117 Bp.nil) rn
end F55
namespace F24
abbrev R_:=(Int×Int×Int×LX×Int)
abbrev K_:=S->Option R_
def H:Hd:=⟨[Sb,Ss],[.agg [Si,Si,Si,Ow 21],Si],(.seq .d (.seq .d (.seq .d (.seq .d (.cut [0,1,4,6] [] (.cut [0,1,4,6,8] [] (.keep [0,1,4,6,8,34,35,36] true) .d) (.cut [0,1,4,6,7,9] [⟨9,[],.own 3 (.int .i64)⟩] (.keep [0,1,4,6,7,9,41,42,43,44,45] true) (.seq .d (.seq .d (.seq .d (.seq .d (.seq .d (.cut [0,4,10,14] [] (.seq .d (.blk (.loop [0,4,6,10,11,12,14,75,76,77] [⟨10,[3],.own 21 (.int .i32)⟩] (.seq .d (.seq .d (.seq (.blk (.seq .d (.seq .d (.cut [0,4,6,10,11,12,14,16,17,18,75,76,77] [] .d .d)))) .d)))))) .d)))))))))))),⟨[(51,F51.c),(53,F53.c),(55,F55.c),(64,F64.c),(67,F67.c),(68,F68.c)],gl,false⟩,[(65,.d),(66,(.seq .d (.seq .d (.cut [0,6,7] [] .d (.seq .d (.seq .d (.seq .d (.cut [6] [] (.seq .d (.blk (.loop [0,6,60,61,62] [] .d))) .d))))))))],f24⟩
def t21(a:LB)(w:LI)(m b f h o p n g y ab:Int)(ac:LX)(k:LI)(aa ae:Int)(ad:LX):S:=⟨[(0,vb a),(4,.ptr 0 []),(6,.ptr 1 []),(10,.ptr 2 []),(11,.ptr 3 []),(12,.ptr 4 []),(14,vi aa),(75,.own 5),(76,vi (Ac w)),(77,vi ae)],[.box 30 (.agg [vi 0,vi 0,vi 0,.nils]),.box 99 (.agg [.agg [vi m,vi b,vi f,vi h,vi o],.agg [vi p,vi n,vi g,vi y,vi ab],.own 6]),.box 30 (.agg [vi b,vi f,vi h,.own 7]),.box 104 (.agg [vi b,vi f]),.box 105 (.val (.vec 16 (.int .i32)) ac),Ai 3 w,Ai 3 k,Aw 21 ad],[]⟩
def z21:Nat->S->Option R_:=H.i P_ [r,r,r,r,r,r,r,r,r,r,r,l,r,d]
def t17(v:LI)(a u:LB)(m b f h o p n g:Int)(k:LI)(ag af:Int):S:=⟨[(0,.ptr 0 []),(6,.own 1),(60,.own 1),(61,vi (Ac v)),(62,vi ag)],[.box 99 (.agg [.agg [vi m,vi b,vi f,vi h,vi o],.agg [vi p,vi n,vi g,vi (Aa (Aa g (Cq (4:Int) (Ac v))) (4:Int)),vi af],.own 3]),Ai 3 v,.box 30 (.agg [vi 0,vi 0,vi 0,.nils]),Ai 3 k],[[(0,vb a),(1,vs u),(4,.ptr 2 []),(6,.ptr 0 []),(42,vb a)]]⟩
def z17:Nat->S->Option R_:=H.i P_ [r,r,r,r,r,l,(call 1 66),r,r,r,r,r,r,l,r,d]
def x26(a:LB)(aa b f h:Int)(ad:LX):Option R_:=H.e P_ [r,r,r,r,r,r,r,r,r,r,r,r] ⟨[(0,vb a),(4,.ptr 0 []),(10,.ptr 1 []),(14,vi aa)],[.box 30 (.agg [vi 0,vi 0,vi 0,.nils]),.box 30 (.agg [vi b,vi f,vi h,.own 2]),Aw 21 ad],[]⟩
def x24(mL:K_)(a:LB)(w:LI)(m b f h o p n g y ab:Int)(ac:LX)(k:LI)(aa aj ak ae:Int)(am ad:LX):Option R_:=H.e P_ [r,r,r,r,r,r,r,r,r,r,r,l,r,d,(lp mL),r,r,l,d,r,r,r] ⟨[(0,vb a),(4,.ptr 0 []),(6,.ptr 1 []),(10,.ptr 2 []),(11,.ptr 3 []),(12,.ptr 4 []),(14,vi aa),(16,vi aj),(17,.own 5),(18,vi ak),(75,.own 6),(76,vi (Ac w)),(77,vi ae)],[.box 30 (.agg [vi 0,vi 0,vi 0,.nils]),.box 99 (.agg [.agg [vi m,vi b,vi f,vi h,vi o],.agg [vi p,vi n,vi g,vi y,vi ab],.own 7]),.box 30 (.agg [vi b,vi f,vi h,.own 8]),.box 104 (.agg [vi b,vi f]),.box 105 (.val (.vec 16 (.int .i32)) ac),Aw 21 am,Ai 3 w,Ai 3 k,Aw 21 ad],[]⟩
def x21(a:LB)(w:LI)(m b f h o p n g y ab:Int)(ac:LX)(k:LI)(aa ae:Int)(ad:LX):Option R_:=H.e P_ [r,r,r,r,r,r,r,r,r,r,r,l,r,d] (t21 a w m b f h o p n g y ab ac k aa ae ad)
def x20(a u:LB)(m b f h o p n g:Int)(k:LI)(an y ab:Int)(w:LI):Option R_:=H.e P_ [r,r,r,r,r,r] ⟨[(0,vb a),(1,vs u),(4,.ptr 0 []),(6,.ptr 1 []),(7,vi an),(9,.own 2)],[.box 30 (.agg [vi 0,vi 0,vi 0,.nils]),.box 99 (.agg [.agg [vi m,vi b,vi f,vi h,vi o],.agg [vi p,vi n,vi g,vi y,vi ab],.own 3]),Ai 3 w,Ai 3 k],[]⟩
def x19(a u:LB)(v:LI)(m b f h o p n g af:Int)(k:LI):Option R_:=H.e P_ [r,r,r,r,r,l,(call 1 66),r,r,r,r,r,r,r] ⟨[(6,.own 0)],[Ai 3 v,.box 30 (.agg [vi 0,vi 0,vi 0,.nils]),.box 99 (.agg [.agg [vi m,vi b,vi f,vi h,vi o],.agg [vi p,vi n,vi g,vi (Aa (Aa g (Cq (4:Int) (Ac v))) (4:Int)),vi af],.own 3]),Ai 3 k],[[(0,vb a),(1,vs u),(4,.ptr 1 []),(6,.ptr 2 []),(42,vb a)]]⟩
def x17(v:LI)(a u:LB)(m b f h o p n g:Int)(k:LI)(ag af:Int):Option R_:=H.e P_ [r,r,r,r,r,l,(call 1 66),r,r,r,r,r,r,l,r,d] (t17 v a u m b f h o p n g k ag af)
def x16(al:Int)(a u:LB)(m b f h o p n g ah ai:Int)(v k:LI):Option R_:=H.e P_ [r,r,r,r,r,l,(call 1 66),r,r,r] ⟨[(0,.ptr 0 []),(6,.own 1),(7,vi al)],[.box 99 (.agg [.agg [vi m,vi b,vi f,vi h,vi o],.agg [vi p,vi n,vi g,vi ah,vi ai],.own 3]),Ai 3 v,.box 30 (.agg [vi 0,vi 0,vi 0,.nils]),Ai 3 k],[[(0,vb a),(1,vs u),(4,.ptr 2 []),(6,.ptr 0 []),(42,vb a)]]⟩
def x15(a u:LB)(m b f h o p n g ah ai:Int)(k:LI):Option R_:=H.e P_ [r,r,r,r,r] ⟨[(0,vb a),(1,vs u),(4,.ptr 0 []),(6,.ptr 1 [])],[.box 30 (.agg [vi 0,vi 0,vi 0,.nils]),.box 99 (.agg [.agg [vi m,vi b,vi f,vi h,vi o],.agg [vi p,vi n,vi g,vi ah,vi ai],.own 2]),Ai 3 k],[]⟩
def x14(a u:LB)(m b f h o p n g ah ai:Int)(k:LI)(ao:Int):Option R_:=H.e P_ [r,r,r,r,l,r] ⟨[(0,vb a),(1,vs u),(4,.ptr 0 []),(6,.ptr 1 []),(8,vi ao)],[.box 30 (.agg [vi 0,vi 0,vi 0,.nils]),.box 99 (.agg [.agg [vi m,vi b,vi f,vi h,vi o],.agg [vi p,vi n,vi g,vi ah,vi ai],.own 2]),Ai 3 k],[]⟩
theorem e26:x26=Zb:=by kernel_rfl
theorem e24(mL:K_)(a:LB)(w:LI)(m b f h o p n g y ab:Int)(ac:LX)(k:LI):x24 mL a w m b f h o p n g y ab ac k=Yu (λaa ae ad=>mL (t21 a w m b f h o p n g y ab ac k aa ae ad)) a w m b f h o p n g y ab ac k:=by kernel_rfl
theorem i21(a:LB)(w:LI)(m b f h o p n g y ab:Int)(ac:LX)(k:LI):∀(q:Nat) (aa ae:Int) (ad:LX),z21 q (t21 a w m b f h o p n g y ab ac k aa ae ad)=Nt a w m b f h o p n g y ab ac k q aa ae ad:=
 ind (λ_ _ _=>by kernel_rfl) λq ih aa ae ad=>Eq.trans (b:=AK (x24 (z21 q) a w m b f h o p n g y ab ac k) x26 a w m b f h o p n g y ab ac k aa ae ad) (by kernel_rfl) (by simp only[e24,e26,ih]<;>rfl)
theorem e21:x21=Yy:=by funext a w m b f h o p n g y ab ac k aa ae ad;exact Eq.trans (by kernel_rfl) ((i21 a w m b f h o p n g y ab ac k Bj aa ae ad).trans (by rw[Aj];rfl))
theorem e20:x20=Js:=Eq.trans (b:=Zq x21) (by kernel_rfl) (by simp only[e21]<;>rfl)
theorem e19:x19=Yq:=Eq.trans (b:=Xv x20) (by kernel_rfl) (by simp only[e20]<;>rfl)
theorem i17(v:LI)(a u:LB)(m b f h o p n g:Int)(k:LI):∀(q:Nat) (ag af:Int),z17 q (t17 v a u m b f h o p n g k ag af)=Ng v a u m b f h o p n g k q ag af:=
 ind (λ_ _=>by kernel_rfl) λq ih ag af=>Eq.trans (b:=Za x19 (λag af=>(z17 q) (t17 v a u m b f h o p n g k ag af)) v a u m b f h o p n g k ag af) (by kernel_rfl) (by simp only[e19,ih]<;>rfl)
theorem e17:x17=Xf:=by funext v a u m b f h o p n g k ag af;exact Eq.trans (by kernel_rfl) ((i17 v a u m b f h o p n g k Bj ag af).trans (by rw[Aj];rfl))
theorem e16:x16=Xc:=Eq.trans (b:=Xt x20 x17) (by kernel_rfl) (by simp only[e20,e17]<;>rfl)
theorem e15:x15=Zz:=Eq.trans (b:=Zv x20 x16) (by kernel_rfl) (by simp only[e20,e16]<;>rfl)
theorem e14:x14=Ya:=Eq.trans (b:=Zx x15) (by kernel_rfl) (by simp only[e15]<;>rfl)
def F:=u2 Ui
theorem rn x:H.u P_ x=F x:=Eq.trans (b:=u2 (Rb x14) x) (by kernel_rfl) (by simp only[e14]<;>rfl)
def c:Con:=⟨H.p,H.r,F⟩
theorem ok:ConOk P_ gl 24 c:=cr H func24 (.cons F51.ok (.cons F53.ok (.cons F55.ok (.cons F64.ok (.cons F67.ok (.cons F68.ok .nil)))))) (Bp.cons ent65 (Bp.cons ent66 Bp.nil)) rn
end F24
namespace F29
def H:Hd:=⟨[Sb,Ss],[Si],.d,⟨[(24,F24.c)],gl,false⟩,[],f29⟩
def F:=u2 Qu
theorem rn x:H.u P_ x=F x:=by kernel_rfl
def c:Con:=⟨H.p,H.r,F⟩
theorem ok:ConOk P_ gl 29 c:=co H func29 (.cons F24.ok .nil) rn
end F29
namespace F11
abbrev R_:=(Int×Int×Int×Int×Int×Int×LI×Int)
def H:Hd:=⟨[Sb,Ss],[.agg [.agg [Si,Si,Si,Si,Si],Si,Ol 3],Si],(.seq .d (.seq .d (.seq .d (.seq .d (.seq .d (.seq .d (.seq .d (.seq .d (.seq .d (.cut [0,4,6,8] [] .d .d)))))))))),⟨[(49,Io),(50,F50.c),(51,F51.c),(52,F52.c),(53,F53.c)],gl,false⟩,[],f11⟩
def x2(a:LB)(b f g h k n:Int):Option R_:=H.e P_ [r,r,r,r,r,r,r,r,r,r] ⟨[(0,vb a),(4,.ptr 0 []),(6,vi n),(8,.ptr 1 [])],[.box 36 (.agg [.agg [vi 0,vi 0,vi 0,vi 0,vi 0],vi 0,.nils]),.box 33 (.agg [vi b,vi f,vi g,vi h,vi k])],[]⟩
theorem e2:x2=Zf:=by kernel_rfl
def F:=u2 Ji
theorem rn x:H.u P_ x=F x:=Eq.trans (b:=u2 (Nr x2) x) (by kernel_rfl) (by simp only[e2]<;>rfl)
def c:Con:=⟨H.p,H.r,F⟩
theorem ok:ConOk P_ gl 11 c:=co H func11 (.cons Pc (.cons F50.ok (.cons F51.ok (.cons F52.ok (.cons F53.ok .nil))))) rn
end F11
namespace F60
def H:Hd:=⟨[Sb,Ss,Si],[Sc],.d,⟨[(49,Io),(50,F50.c)],gl,false⟩,[],f60⟩
def F:=u3 Mt
theorem rn x:H.u P_ x=F x:=by kernel_rfl
def c:Con:=⟨H.p,H.r,F⟩
theorem ok:ConOk P_ gl 60 c:=co H func60 (.cons Pc (.cons F50.ok .nil)) rn
end F60
namespace F115
abbrev R_:=(LI×Int)
abbrev K_:=S->Option R_
def H:Hd:=⟨[Sl],[Ol 3,Si],(.seq .d (.seq .d (.seq .d (.seq .d (.seq .d (.cut [7] [] (.seq .d (.blk (.loop [6,7,17,18,19] [] (.seq .d (.seq .d (.cut [6,7,17,18,19] [] (.blk (.seq .d (.keep [6,7,9,17,18,19,23,24,25,26,27,28] true))) .d)))))) .d)))))),⟨[(106,F106.c)],gl,false⟩,[(195,.d)],f115⟩
def t6(a:LI)(b g:Int)(f:LI):S:=⟨[(6,.fn 195 [.ptr 0 []]),(7,.own 1),(17,vl a),(18,vi (Ac a)),(19,vi b)],[.box 3 (vi g),Ai 3 f],[]⟩
def z6:Nat->S->Option R_:=H.i P_ [r,r,r,r,r,l,r,d]
def x10(f:LI):Option R_:=H.e P_ [r,r,r,r,r,r] ⟨[(7,.own 0)],[Ai 3 f],[]⟩
def x8(mJ:K_)(a:LI)(b g h:Int)(k:LI):Option R_:=H.e P_ [r,r,r,r,r,l,r,d,(lp mJ),r,r,r] ⟨[(6,.fn 195 [.ptr 0 []]),(7,.own 1),(17,vl a),(18,vi (Ac a)),(19,vi b)],[.box 3 (vi (Aa g h)),Ai 3 k],[]⟩
def x6(a:LI)(b g:Int)(f:LI):Option R_:=H.e P_ [r,r,r,r,r,l,r,d] (t6 a b g f)
theorem e10:x10=Qf:=by kernel_rfl
theorem e8(mJ:K_)(a:LI):x8 mJ a=Sn (λb g f=>mJ (t6 a b g f)) a:=by kernel_rfl
theorem i6(a:LI):∀(q:Nat) (b g:Int) (f:LI),z6 q (t6 a b g f)=Kv a q b g f:=
 ind (λ_ _ _=>by kernel_rfl) λq ih b g f=>Eq.trans (b:=Sf (x8 (z6 q) a) x10 a b g f) (by kernel_rfl) (by simp only[e8,e10,ih]<;>rfl)
theorem e6:x6=Tg:=by funext a b g f;exact Eq.trans (by kernel_rfl) ((i6 a Bj b g f).trans (by rw[Aj];rfl))
def F:=EY
theorem rn x:H.u P_ x=F x:=Eq.trans (b:=So x6 x) (by kernel_rfl) (by simp only[e6]<;>rfl)
def c:Con:=⟨H.p,H.r,F⟩
theorem ok:ConOk P_ gl 115 c:=cr H func115 (.cons F106.ok .nil) (Bp.cons ent195 Bp.nil) rn
end F115
namespace F95
abbrev R_:=(LB×Int)
abbrev K_:=S->Option R_
def H:Hd:=⟨[Si,Sw],[Ob 5,Si],(.seq .d (.seq .d (.seq .d (.cut [7] [] (.seq .d (.blk (.loop [0,7,17,18,19] [⟨7,[],.own 5 (.int .u8)⟩] (.seq .d (.seq .d (.cut [0,7,17,18,19] [] (.blk (.seq .d (.cut [0,7,9,17,18,19] [] .d (.seq .d (.blk (.loop [0,7,9,17,18,19,28,29] [] .d)))))) .d)))))) .d)))),⟨[(169,F169.c)],gl,false⟩,[],f95⟩
def t26(b:Int)(a:LX)(k:Int32)(f m:Int)(h:LB):S:=⟨[(0,vi b),(7,.own 0),(9,vx k),(17,vw a),(18,vi (Ac a)),(19,vi f),(28,vi (Jm b (8:Int))),(29,vi m)],[Ab 5 h],[]⟩
def z26(Bm:K_):Nat->S->Option R_:=H.i P_ [r,r,r,l,r,d,(lp Bm),r,r,l,d,r,r,r,d]
def t16(b:Int)(a:LX)(f:Int)(g:LB):S:=⟨[(0,vi b),(7,.own 0),(17,vw a),(18,vi (Ac a)),(19,vi f)],[Ab 5 g],[]⟩
def z16:Nat->S->Option R_:=H.i P_ [r,r,r,l,r,d]
def x30(g:LB):Option R_:=H.e P_ [r,r,r,r] ⟨[(7,.own 0)],[Ab 5 g],[]⟩
def x28(Bm:K_)(b:Int)(a:LX)(f:Int)(h:LB):Option R_:=H.e P_ [r,r,r,l,r,d,(lp Bm),r,r,r] ⟨[(0,vi b),(7,.own 0),(17,vw a),(18,vi (Ac a)),(19,vi f)],[Ab 5 h],[]⟩
def x26(Bm:K_)(b:Int)(a:LX)(k:Int32)(f m:Int)(h:LB):Option R_:=H.e P_ [r,r,r,l,r,d,(lp Bm),r,r,l,d,r,r,r,d] (t26 b a k f m h)
def x25(Bm:K_)(b:Int)(a:LX)(f:Int)(g:LB)(k:Int32):Option R_:=H.e P_ [r,r,r,l,r,d,(lp Bm),r,r,l,d,r,r] ⟨[(0,vi b),(7,.own 0),(9,vx k),(17,vw a),(18,vi (Ac a)),(19,vi f)],[Ab 5 g],[]⟩
def x16(b:Int)(a:LX)(f:Int)(g:LB):Option R_:=H.e P_ [r,r,r,l,r,d] (t16 b a f g)
theorem e30:x30=Ww:=by kernel_rfl
theorem e28(Bm:K_)(b:Int)(a:LX):x28 Bm b a=Vz (λf g=>Bm (t16 b a f g)) b a:=by kernel_rfl
theorem i26(Bm:K_)(b:Int)(a:LX)(k:Int32)(f:Int):∀(q:Nat) (m:Int) (h:LB),z26 Bm q (t26 b a k f m h)=Md (λf g=>Bm (t16 b a f g)) b a k f q m h:=
 ind (λ_ _=>by kernel_rfl) λq ih m h=>Eq.trans (b:=Vm (x28 Bm b a) (λm h=>(z26 Bm q) (t26 b a k f m h)) b a k f m h) (by kernel_rfl) (by simp only[e28,ih]<;>rfl)
theorem e26(Bm:K_)(b:Int)(a:LX):x26 Bm b a=Wy (λf g=>Bm (t16 b a f g)) b a:=by funext k f m h;exact Eq.trans (by kernel_rfl) ((i26 Bm b a k f Bj m h).trans (by rw[Aj];rfl))
theorem e25(Bm:K_)(b:Int)(a:LX):x25 Bm b a=Wz (λf g=>Bm (t16 b a f g)) b a:=Eq.trans (b:=Ut (x26 Bm b a) b a) (by kernel_rfl) (by simp only[e26]<;>rfl)
theorem i16(b:Int)(a:LX):∀(q:Nat) (f:Int) (g:LB),z16 q (t16 b a f g)=Me b a q f g:=
 ind (λ_ _=>by kernel_rfl) λq ih f g=>Eq.trans (b:=Wj (x25 (z16 q) b a) x30 b a f g) (by kernel_rfl) (by simp only[e25,e30,ih]<;>rfl)
theorem e16:x16=Wb:=by funext b a f g;exact Eq.trans (by kernel_rfl) ((i16 b a Bj f g).trans (by rw[Aj];rfl))
def F:=u2 NA
theorem rn x:H.u P_ x=F x:=Eq.trans (b:=u2 (AL x16) x) (by kernel_rfl) (by simp only[e16]<;>rfl)
def c:Con:=⟨H.p,H.r,F⟩
theorem ok:ConOk P_ gl 95 c:=co H func95 (.cons F169.ok .nil) rn
end F95
namespace F12
abbrev R_:=(LB×Int)
def H:Hd:=⟨[Sb,Ss,Si],[Ob 5,Si],(.seq .d (.cut [2,8,9,11] [] (.keep [0,1,2,8,9,11,12,13,14,15,16,17,18,19] true) (.seq .d (.seq .d (.cut [6,7] [⟨6,[],.own 5 (.int .u8)⟩] (.keep [2,6,7,8,30,31,32,33,34] true) .d))))),⟨[(11,F11.c),(52,F52.c),(67,F67.c),(68,F68.c),(95,F95.c),(115,F115.c)],gl,false⟩,[(54,.d),(116,(.seq .d (.cut [0,3,4,5,6,10,11] [] .d (.seq .d (.cut [4,12,13] [] .d .d)))))],f12⟩
def x6(a ac:Int):Option R_:=H.e P_ [r,r] ⟨[(2,vi a),(8,.cst .nilFunc),(9,vi 0),(11,vi ac)],[],[]⟩
def x10(ad:Int)(ae:LB):Option R_:=H.e P_ [r,r,r,r,r] ⟨[(6,.own 0),(7,vi ad)],[Ab 5 ae],[]⟩
def x9(w a h b:Int)(aa:LX)(n o p k:Int)(m:LB)(u:LX)(v f g:LI):Option R_:=H.e P_ [r,r,r,r,l,(call 2 116),r,r,r,r] ⟨[(4,.ptr 0 []),(12,.own 1),(13,vi w)],[.box 104 (.agg [vi h,vi b]),Aw 21 aa,.box 36 (.agg [.agg [vi n,vi h,vi b,vi o,vi p],vi k,.own 7]),.box 34 (.own 8),.box 22 (vb m),.box 105 (.val (.vec 16 (.int .i32)) u),.box 34 (.own 9),Ai 3 v,Ai 3 f,Ai 3 g],[[(2,vi a),(8,.fn 116 [.ptr 2 [],.ptr 3 [],.ptr 4 [],.ptr 0 [],.ptr 5 [],.ptr 6 []]),(30,.fn 116 [.ptr 2 [],.ptr 3 [],.ptr 4 [],.ptr 0 [],.ptr 5 [],.ptr 6 []]),(31,vi a)]]⟩
def x8(a k ab y:Int)(m:LB)(h b:Int)(u:LX)(n o p:Int)(g v f:LI):Option R_:=H.e P_ [r,r,r,r,l,(call 2 116),r,r] ⟨[(0,vi a),(3,.ptr 0 []),(4,.ptr 1 []),(5,.ptr 2 []),(6,.ptr 3 []),(10,vi (Aa k ab)),(11,vi (Aa k y))],[.box 22 (vb m),.box 104 (.agg [vi h,vi b]),.box 105 (.val (.vec 16 (.int .i32)) u),.box 34 (.own 6),.box 36 (.agg [.agg [vi n,vi h,vi b,vi o,vi p],vi k,.own 7]),.box 34 (.own 8),Ai 3 g,Ai 3 v,Ai 3 f],[[(2,vi a),(8,.fn 116 [.ptr 4 [],.ptr 5 [],.ptr 0 [],.ptr 1 [],.ptr 2 [],.ptr 3 []]),(30,.fn 116 [.ptr 4 [],.ptr 5 [],.ptr 0 [],.ptr 1 [],.ptr 2 [],.ptr 3 []]),(31,vi a)]]⟩
def x7(a:Int)(g:LI)(n h b o p k:Int)(m:LB)(u:LX)(v f:LI):Option R_:=H.e P_ [r,r] ⟨[(2,vi a),(8,.fn 116 [.ptr 0 [],.ptr 1 [],.ptr 2 [],.ptr 3 [],.ptr 4 [],.ptr 5 []]),(9,vi (Ac g)),(11,vi 0)],[.box 36 (.agg [.agg [vi n,vi h,vi b,vi o,vi p],vi k,.own 6]),.box 34 (.own 7),.box 22 (vb m),.box 104 (.agg [vi h,vi b]),.box 105 (.val (.vec 16 (.int .i32)) u),.box 34 (.own 8),Ai 3 v,Ai 3 f,Ai 3 g],[]⟩
theorem e6:x6=Wf:=by kernel_rfl
theorem e10:x10=Kk:=by kernel_rfl
theorem e9:x9=Vf:=Eq.trans (b:=Wp x10) (by kernel_rfl) (by simp only[e10]<;>rfl)
theorem e8:x8=Wh:=Eq.trans (b:=Wl x10 x9) (by kernel_rfl) (by simp only[e10,e9]<;>rfl)
theorem e7:x7=Uy:=Eq.trans (b:=Vh x8) (by kernel_rfl) (by simp only[e8]<;>rfl)
def F:=u3 IC
theorem rn x:H.u P_ x=F x:=Eq.trans (b:=u3 (Vu x6 x7) x) (by kernel_rfl) (by simp only[e6,e7]<;>rfl)
def c:Con:=⟨H.p,H.r,F⟩
theorem ok:ConOk P_ gl 12 c:=cr H func12 (.cons F11.ok (.cons F52.ok (.cons F67.ok (.cons F68.ok (.cons F95.ok (.cons F115.ok .nil)))))) (Bp.cons ent54 (Bp.cons ent116 Bp.nil)) rn
end F12
namespace F61
abbrev R_:=(Int×Int)
def H:Hd:=⟨[.agg [Si,Si,Si,Si,Si],Si],[Si,Si],(.seq .d (.seq .d (.seq .d (.seq .d (.cut [2,8] [] (.seq .d (.blk (.loop [2,6,8,23,24] [] .d))) .d))))),⟨[(52,F52.c)],gl,false⟩,[],f61⟩
def t4(n f a b g h:Int)(m:LI)(k o:Int):S:=⟨[(2,.ptr 0 []),(6,.own 1),(8,vi k),(23,vi n),(24,vi o)],[.box 33 (.agg [vi f,vi a,vi b,vi g,vi h]),Ai 3 m],[]⟩
def z4:Nat->S->Option R_:=H.i P_ [r,r,r,r,l,r,d]
def x6(k f a b g h:Int):Option R_:=H.e P_ [r,r,r,r,r] ⟨[(2,.ptr 0 []),(8,vi k)],[.box 33 (.agg [vi f,vi a,vi b,vi g,vi h])],[]⟩
def x4(n f a b g h:Int)(m:LI)(k o:Int):Option R_:=H.e P_ [r,r,r,r,l,r,d] (t4 n f a b g h m k o)
theorem e6:x6=AB:=by kernel_rfl
theorem i4(n f a b g h:Int)(m:LI):∀(q:Nat) (k o:Int),z4 q (t4 n f a b g h m k o)=Ok n f a b g h m q k o:=
 ind (λ_ _=>by kernel_rfl) λq ih k o=>Eq.trans (b:=Zy x6 (λk o=>(z4 q) (t4 n f a b g h m k o)) n f a b g h m k o) (by kernel_rfl) (by simp only[e6,ih]<;>rfl)
theorem e4:x4=Xe:=by funext n f a b g h m k o;exact Eq.trans (by kernel_rfl) ((i4 n f a b g h m Bj k o).trans (by rw[Aj];rfl))
def F:=u6 BQ
theorem rn x:H.u P_ x=F x:=Eq.trans (b:=u6 (AA x4) x) (by kernel_rfl) (by simp only[e4]<;>rfl)
def c:Con:=⟨H.p,H.r,F⟩
theorem ok:ConOk P_ gl 61 c:=co H func61 (.cons F52.ok .nil) rn
end F61
namespace F19
abbrev R_:=(Int×UInt8×Int×Int×Int)
def H:Hd:=⟨[Sb,Ss],[.agg [Si,Sc,Si,Si],Si],(.seq .d (.seq .d (.seq .d (.seq .d (.seq .d (.cut [0,1,4,6,7] [] .d (.seq .d (.cut [4,6,7,9] [] (.seq .d (.blk (.loop [0,1,4,6,7,9,42,43] [] .d))) .d)))))))),⟨[(11,F11.c),(12,F12.c),(29,F29.c),(60,F60.c),(61,F61.c)],gl,false⟩,[],f19⟩
def t6(p o:LB)(a:LI)(b:Int)(u:UInt8)(f g h k m n v:Int):S:=⟨[(0,vb p),(1,vs o),(4,.ptr 0 []),(6,.ptr 1 []),(7,.ptr 2 []),(9,vi (Ac a)),(42,vi (Ac a)),(43,vi v)],[.box 45 (.agg [vi 0,vc 0,vi 0,vi 0]),.box 45 (.agg [vi b,vc u,vi 0,vi 0]),.box 36 (.agg [.agg [vi f,vi g,vi h,vi k,vi m],vi n,.own 3]),Ai 3 a],[]⟩
def z6:Nat->S->Option R_:=H.i P_ [r,r,r,r,r,r,r,l,r,d]
def x8(b f g h k m n:Int)(a:LI)(w:Int)(y:UInt8)(aa:Int):Option R_:=H.e P_ [r,r,r,r,r,r,r,r] ⟨[(4,.ptr 0 []),(6,.ptr 1 []),(7,.ptr 2 []),(9,vi w)],[.box 45 (.agg [vi 0,vc 0,vi 0,vi 0]),.box 45 (.agg [vi b,vc y,vi aa,vi 0]),.box 36 (.agg [.agg [vi f,vi g,vi h,vi k,vi m],vi n,.own 3]),Ai 3 a],[]⟩
def x6(p o:LB)(a:LI)(b:Int)(u:UInt8)(f g h k m n v:Int):Option R_:=H.e P_ [r,r,r,r,r,r,r,l,r,d] (t6 p o a b u f g h k m n v)
def x5(p o:LB)(b f g h k m n:Int)(a:LI)(u:UInt8):Option R_:=H.e P_ [r,r,r,r,r,r] ⟨[(0,vb p),(1,vs o),(4,.ptr 0 []),(6,.ptr 1 []),(7,.ptr 2 [])],[.box 45 (.agg [vi 0,vc 0,vi 0,vi 0]),.box 45 (.agg [vi b,vc u,vi 0,vi 0]),.box 36 (.agg [.agg [vi f,vi g,vi h,vi k,vi m],vi n,.own 3]),Ai 3 a],[]⟩
theorem e8:x8=AO:=by kernel_rfl
theorem i6(p o:LB)(a:LI)(b:Int)(u:UInt8)(f g h k m n:Int):∀(q:Nat) (v:Int),z6 q (t6 p o a b u f g h k m n v)=Pp p o a b u f g h k m n q v:=
 ind (λ_=>by kernel_rfl) λq ih v=>Eq.trans (b:=Ym x8 (λv=>(z6 q) (t6 p o a b u f g h k m n v)) p o a b u f g h k m n v) (by kernel_rfl) (by simp only[e8,ih]<;>rfl)
theorem e6:x6=BN:=by funext p o a b u f g h k m n v;exact Eq.trans (by kernel_rfl) ((i6 p o a b u f g h k m n Bj v).trans (by rw[Aj];rfl))
theorem e5:x5=AJ:=Eq.trans (b:=Zn x6) (by kernel_rfl) (by simp only[e6]<;>rfl)
def F:=u2 Le
theorem rn x:H.u P_ x=F x:=Eq.trans (b:=u2 (Pa x5) x) (by kernel_rfl) (by simp only[e5]<;>rfl)
def c:Con:=⟨H.p,H.r,F⟩
theorem ok:ConOk P_ gl 19 c:=co H func19 (.cons F11.ok (.cons F12.ok (.cons F29.ok (.cons F60.ok (.cons F61.ok .nil))))) rn
end F19
namespace F62
abbrev R_:=(Int×Int×Int×Int×Int×Int)
def H:Hd:=⟨[Sb],[.agg [Si,Si,Si,Si,Si],Si],(.seq .d (.seq .d (.seq .d (.cut [0,2,4] [] (.cut [0,2,4,7] [] (.keep [0,2,4,7,17,18,19,20,21] true) .d) .d)))),⟨[(53,F53.c),(64,F64.c)],gl,false⟩,[(66,(.seq .d (.seq .d (.cut [0,6,7] [] .d (.seq .d (.seq .d (.seq .d (.cut [6] [] (.seq .d (.blk (.loop [0,6,60,61,62] [] .d))) .d))))))))],f62⟩
def t8(u:LI)(a:LB)(k m n o p f g b:Int)(h:LI)(w v:Int):S:=⟨[(0,.ptr 0 []),(6,.own 1),(60,.own 1),(61,vi (Ac u)),(62,vi w)],[.box 99 (.agg [.agg [vi k,vi m,vi n,vi o,vi p],.agg [vi f,vi g,vi b,vi (Aa (Aa b (Cq (4:Int) (Ac u))) (4:Int)),vi v],.own 3]),Ai 3 u,.box 94 (.agg [vi 0,vi 0,vi 0,vi 0,vi 0]),Ai 3 h],[[(0,vb a),(2,.ptr 2 []),(4,.ptr 0 []),(18,vb a)]]⟩
def z8:Nat->S->Option R_:=H.i P_ [r,r,r,l,l,(call 1 66),r,r,r,r,r,r,l,r,d]
def x12(a:LB)(k m n o p f g b aa y:Int)(h:LI):Option R_:=H.e P_ [r,r,r,r] ⟨[(0,vb a),(2,.ptr 0 []),(4,.ptr 1 [])],[.box 94 (.agg [vi 0,vi 0,vi 0,vi 0,vi 0]),.box 99 (.agg [.agg [vi k,vi m,vi n,vi o,vi p],.agg [vi f,vi g,vi b,vi aa,vi y],.own 2]),Ai 3 h],[]⟩
def x11(a:LB)(k m n o p f g b:Int)(h:LI)(ae aa y:Int):Option R_:=H.e P_ [r,r,r,l,r] ⟨[(0,vb a),(2,.ptr 0 []),(4,.ptr 1 []),(7,vi ae)],[.box 94 (.agg [vi 0,vi 0,vi 0,vi 0,vi 0]),.box 99 (.agg [.agg [vi k,vi m,vi n,vi o,vi p],.agg [vi f,vi g,vi b,vi aa,vi y],.own 2]),Ai 3 h],[]⟩
def x10(a:LB)(u:LI)(k m n o p f g b v:Int)(h:LI):Option R_:=H.e P_ [r,r,r,l,l,(call 1 66),r,r,r,r,r,r,r] ⟨[(6,.own 0)],[Ai 3 u,.box 94 (.agg [vi 0,vi 0,vi 0,vi 0,vi 0]),.box 99 (.agg [.agg [vi k,vi m,vi n,vi o,vi p],.agg [vi f,vi g,vi b,vi (Aa (Aa b (Cq (4:Int) (Ac u))) (4:Int)),vi v],.own 3]),Ai 3 h],[[(0,vb a),(2,.ptr 1 []),(4,.ptr 2 []),(18,vb a)]]⟩
def x8(u:LI)(a:LB)(k m n o p f g b:Int)(h:LI)(w v:Int):Option R_:=H.e P_ [r,r,r,l,l,(call 1 66),r,r,r,r,r,r,l,r,d] (t8 u a k m n o p f g b h w v)
def x7(ab:Int)(a:LB)(k m n o p f g b ac ad:Int)(u h:LI):Option R_:=H.e P_ [r,r,r,l,l,(call 1 66),r,r,r] ⟨[(0,.ptr 0 []),(6,.own 1),(7,vi ab)],[.box 99 (.agg [.agg [vi k,vi m,vi n,vi o,vi p],.agg [vi f,vi g,vi b,vi ac,vi ad],.own 3]),Ai 3 u,.box 94 (.agg [vi 0,vi 0,vi 0,vi 0,vi 0]),Ai 3 h],[[(0,vb a),(2,.ptr 2 []),(4,.ptr 0 []),(18,vb a)]]⟩
theorem e12:x12=Vq:=by kernel_rfl
theorem e11:x11=Ip:=Eq.trans (b:=Vg x12) (by kernel_rfl) (by simp only[e12]<;>rfl)
theorem e10:x10=Wm:=Eq.trans (b:=Uz x11) (by kernel_rfl) (by simp only[e11]<;>rfl)
theorem i8(u:LI)(a:LB)(k m n o p f g b:Int)(h:LI):∀(q:Nat) (w v:Int),z8 q (t8 u a k m n o p f g b h w v)=Ni u a k m n o p f g b h q w v:=
 ind (λ_ _=>by kernel_rfl) λq ih w v=>Eq.trans (b:=Xl x10 (λw v=>(z8 q) (t8 u a k m n o p f g b h w v)) u a k m n o p f g b h w v) (by kernel_rfl) (by simp only[e10,ih]<;>rfl)
theorem e8:x8=Zt:=by funext u a k m n o p f g b h w v;exact Eq.trans (by kernel_rfl) ((i8 u a k m n o p f g b h Bj w v).trans (by rw[Aj];rfl))
theorem e7:x7=CB:=Eq.trans (b:=BC x11 x8) (by kernel_rfl) (by simp only[e11,e8]<;>rfl)
def F:=NH
theorem rn x:H.u P_ x=F x:=Eq.trans (b:=Yc x11 x7 x) (by kernel_rfl) (by simp only[e11,e7]<;>rfl)
def c:Con:=⟨H.p,H.r,F⟩
theorem ok:ConOk P_ gl 62 c:=cr H func62 (.cons F53.ok (.cons F64.ok .nil)) (Bp.cons ent66 Bp.nil) rn
end F62
namespace F20
abbrev R_:=(Int×UInt8×Int×Int×Int)
def H:Hd:=⟨[Sb,Ss,Si],[.agg [Si,Sc,Si,Si],Si],(.seq .d (.seq .d (.seq .d (.seq .d (.seq .d (.seq .d (.seq .d (.seq .d (.seq .d (.cut [6] [] (.seq .d (.blk (.loop [2,6,11,12,79,80,81] [] .d))) .d)))))))))),⟨[(11,F11.c),(29,F29.c),(61,F61.c),(62,F62.c)],gl,false⟩,[],f20⟩
def t4(a:Int)(b:LI)(g h k m n o p f:Int):S:=⟨[(2,vi a),(6,.ptr 0 []),(11,.ptr 1 []),(12,vi p),(79,.own 2),(80,vi (Ac b)),(81,vi f)],[.box 45 (.agg [vi 0,vc 0,vi 0,vi 0]),.box 36 (.agg [.agg [vi g,vi h,vi k,vi m,vi n],vi o,.own 2]),Ai 3 b],[]⟩
def z4:Nat->S->Option R_:=H.i P_ [r,r,r,r,r,r,r,r,r,l,r,d]
def x6:Option R_:=H.e P_ [r,r,r,r,r,r,r,r,r,r] ⟨[(6,.ptr 0 [])],[.box 45 (.agg [vi 0,vc 0,vi 0,vi 0])],[]⟩
def x4(a:Int)(b:LI)(g h k m n o p f:Int):Option R_:=H.e P_ [r,r,r,r,r,r,r,r,r,l,r,d] (t4 a b g h k m n o p f)
theorem e6:x6=Wn:=by kernel_rfl
theorem i4(a:Int)(b:LI)(g h k m n o:Int):∀(q:Nat) (p f:Int),z4 q (t4 a b g h k m n o p f)=Mf a b g h k m n o q p f:=
 ind (λ_ _=>by kernel_rfl) λq ih p f=>Eq.trans (b:=Vr x6 (λp f=>(z4 q) (t4 a b g h k m n o p f)) a b g h k m n o p f) (by kernel_rfl) (by simp only[e6,ih]<;>rfl)
theorem e4:x4=Vl:=by funext a b g h k m n o p f;exact Eq.trans (by kernel_rfl) ((i4 a b g h k m n o Bj p f).trans (by rw[Aj];rfl))
def F:=u3 Ec
theorem rn x:H.u P_ x=F x:=Eq.trans (b:=u3 (Vo x4) x) (by kernel_rfl) (by simp only[e4]<;>rfl)
def c:Con:=⟨H.p,H.r,F⟩
theorem ok:ConOk P_ gl 20 c:=co H func20 (.cons F11.ok (.cons F29.ok (.cons F61.ok (.cons F62.ok .nil)))) rn
end F20
namespace F21
def H:Hd:=⟨[Sb,Ss,.agg [Si,Sc,Si,Si]],[Sz],.d,⟨[(19,F19.c)],gl,false⟩,[],f21⟩
def F:=u6 Ao
theorem rn x:H.u P_ x=F x:=by kernel_rfl
def c:Con:=⟨H.p,H.r,F⟩
theorem ok:ConOk P_ gl 21 c:=co H func21 (.cons F19.ok .nil) rn
end F21
namespace F63
def H:Hd:=⟨[Sb,Si,.agg [Si,Sc,Si,Si],Si],[Sz],.d,⟨[(17,F17.c),(19,F19.c),(20,F20.c)],gl,false⟩,[],f63⟩
def F:=u7 Bt
theorem rn x:H.u P_ x=F x:=by kernel_rfl
def c:Con:=⟨H.p,H.r,F⟩
theorem ok:ConOk P_ gl 63 c:=co H func63 (.cons F17.ok (.cons F19.ok (.cons F20.ok .nil))) rn
end F63
namespace F22
def H:Hd:=⟨[],[Sz],.d,⟨[(16,F16.c),(63,F63.c)],gl,false⟩,[],f22⟩
noncomputable def F(x:Unit):=Iy
theorem rn x:H.u P_ x=F x:=by kernel_rfl
def c:Con:=⟨H.p,H.r,F⟩
theorem ok:ConOk P_ gl 22 c:=co H func22 (.cons F16.ok (.cons F63.ok .nil)) rn
end F22
namespace F4
abbrev R_:=Bool
def H:Hd:=⟨[],[Sz],(.seq .d (.seq .d (.seq .d (.seq .d (.seq .d (.seq .d (.seq .d (.seq .d (.seq .d (.seq .d (.seq .d (.seq .d (.seq .d (.seq .d (.seq .d (.seq .d (.seq .d (.seq .d (.cut [1,3,7,9,11,13,15,17,19,23,25,27,29,31] [] .d (.seq .d (.seq .d (.seq .d (.cut [3,7,9,11,13,15,17,19,23,25,27,29,31,32,34,35] [⟨3,[],.ro (.int .u8)⟩] .d (.seq .d (.seq .d (.seq .d (.cut [3,7,9,11,13,15,17,19,23,25,27,29,31,34,35] [] (.seq .d (.blk (.loop [3,7,9,11,13,15,17,19,23,25,27,29,31,32,34,35,36,37,38,39] [] .d))) .d))))))))))))))))))))))))))),⟨[(9,F9.c.seal),(16,F16.c.seal),(17,F17.c),(18,F18.c),(19,F19.c),(20,F20.c),(21,F21.c.seal),(22,F22.c)],gl,false⟩,[],f4⟩
def t8(a:LB)(b f g h k m n o p u v w:Int)(ad:Bool)(aa y:LB)(ab:Int):S:=⟨[(3,vb a),(7,vi b),(9,vi f),(11,vi g),(13,vi h),(15,vi k),(17,vi m),(19,vi n),(23,vi o),(25,vi p),(27,vi u),(29,vi v),(31,vi w),(32,.own 0),(34,.own 1),(35,vt ad),(36,.own 2),(37,.own 3),(38,.own 4),(39,vi ab)],[Ab 5 aa,Ab 5 y,Ai 3 ([(0:Int),(10:Int),(11:Int),(32:Int),(33:Int),(44:Int),(45:Int),(50:Int),(51:Int),(56:Int)]:LI),Ai 3 ([(0:Int),(0:Int),(0:Int),(0:Int),(0:Int),(0:Int),(0:Int),(0:Int),(1:Int),(1:Int)]:LI),Ab 5 ([(1:UInt8),(1:UInt8),(2:UInt8),(2:UInt8),(4:UInt8),(4:UInt8),(5:UInt8),(5:UInt8),(5:UInt8),(5:UInt8)]:LB)],[]⟩
def z8:Nat->S->Option R_:=H.i P_ [r,r,r,r,r,r,r,r,r,r,r,r,r,r,r,r,r,r,r,r,r,r,r,r,r,r,l,r,d]
def x10(a:LB)(b f g h k m n o p u v w:Int)(ad:Bool)(y:LB):Option R_:=H.e P_ [r,r,r,r,r,r,r,r,r,r,r,r,r,r,r,r,r,r,r,r,r,r,r,r,r,r,r] ⟨[(3,vb a),(7,vi b),(9,vi f),(11,vi g),(13,vi h),(15,vi k),(17,vi m),(19,vi n),(23,vi o),(25,vi p),(27,vi u),(29,vi v),(31,vi w),(34,.own 0),(35,vt ad)],[Ab 5 y],[]⟩
def x8(a:LB)(b f g h k m n o p u v w:Int)(ad:Bool)(aa y:LB)(ab:Int):Option R_:=H.e P_ [r,r,r,r,r,r,r,r,r,r,r,r,r,r,r,r,r,r,r,r,r,r,r,r,r,r,l,r,d] (t8 a b f g h k m n o p u v w ad aa y ab)
def x7(a:LB)(b f g h k m n o p u v w:Int)(aa y:LB)(ad:Bool):Option R_:=H.e P_ [r,r,r,r,r,r,r,r,r,r,r,r,r,r,r,r,r,r,r,r,r,r,r] ⟨[(3,vb a),(7,vi b),(9,vi f),(11,vi g),(13,vi h),(15,vi k),(17,vi m),(19,vi n),(23,vi o),(25,vi p),(27,vi u),(29,vi v),(31,vi w),(32,.own 0),(34,.own 1),(35,vt ad)],[Ab 5 aa,Ab 5 y],[]⟩
def x6(ac:LB)(b f g h k m n o p u v w:Int)(a:LB):Option R_:=H.e P_ [r,r,r,r,r,r,r,r,r,r,r,r,r,r,r,r,r,r,r] ⟨[(1,vb ac),(3,.own 0),(7,vi b),(9,vi f),(11,vi g),(13,vi h),(15,vi k),(17,vi m),(19,vi n),(23,vi o),(25,vi p),(27,vi u),(29,vi v),(31,vi w)],[Ab 5 a],[]⟩
theorem e10:x10=Fq:=by kernel_rfl
theorem i8(a:LB)(b f g h k m n o p u v w:Int)(ad:Bool)(aa y:LB):∀(q:Nat) (ab:Int),z8 q (t8 a b f g h k m n o p u v w ad aa y ab)=Ea a b f g h k m n o p u v w ad aa y q ab:=
 ind (λ_=>by kernel_rfl) λq ih ab=>Eq.trans (b:=Gb x10 (λab=>(z8 q) (t8 a b f g h k m n o p u v w ad aa y ab)) a b f g h k m n o p u v w ad aa y ab) (by kernel_rfl) (by simp only[e10,ih]<;>rfl)
theorem e8:x8=Fy:=by funext a b f g h k m n o p u v w ad aa y ab;exact Eq.trans (by kernel_rfl) ((i8 a b f g h k m n o p u v w ad aa y Bj ab).trans (by rw[Aj];rfl))
theorem e7:x7=Eb:=Eq.trans (b:=Gg x8) (by kernel_rfl) (by simp only[e8]<;>rfl)
theorem e6:x6=Ed:=Eq.trans (b:=Ct x7) (by kernel_rfl) (by simp only[e7]<;>rfl)
noncomputable def F(x:Unit):=Et
theorem rn x:H.u P_ x=F x:=Eq.trans (b:=Cs x6) (by kernel_rfl) (by simp only[e6]<;>rfl)
def c:Con:=⟨H.p,H.r,F⟩
theorem ok:ConOk P_ gl 4 c:=co H func4 (.cons F9.ok.seal (.cons F16.ok.seal (.cons F17.ok (.cons F18.ok (.cons F19.ok (.cons F20.ok (.cons F21.ok.seal (.cons F22.ok .nil)))))))) rn
end F4
end
end Go.Proofs.YtjjeabieimfcpaaGreatDoor
