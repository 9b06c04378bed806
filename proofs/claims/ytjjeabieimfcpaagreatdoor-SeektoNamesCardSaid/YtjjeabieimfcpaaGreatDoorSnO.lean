/- A part of a proof (see the text that ends in Proof). No conditions. -/
import Derived.Test.YtjjeabieimfcpaaGreatDoorSnHA
set_option linter.unusedVariables false
set_option linter.unusedSimpArgs false
set_option maxRecDepth 10000
namespace Go.Proofs.YtjjeabieimfcpaaGreatDoor
open Go Go.Lv Go.Pl Go.Rx Go.Rx.PS
noncomputable section
def g0:List Value:=[.int .i64 2,.int .i64 2,.int .i64 2,.int .i64 4,.int .i64 4]
def g6:List Value:=[.int .u8 0,.int .u8 1,.int .u8 56,.int .u8 2,.int .u8 57,.int .u8 49,.int .u8 28,.int .u8 3,.int .u8 61,.int .u8 58,.int .u8 42,.int .u8 50,.int .u8 38,.int .u8 29,.int .u8 17,.int .u8 4,.int .u8 62,.int .u8 47,.int .u8 59,.int .u8 36,.int .u8 45,.int .u8 43,.int .u8 51,.int .u8 22,.int .u8 53,.int .u8 39,.int .u8 33,.int .u8 30,.int .u8 24,.int .u8 18,.int .u8 12,.int .u8 5,.int .u8 63,.int .u8 55,.int .u8 48,.int .u8 27,.int .u8 60,.int .u8 41,.int .u8 37,.int .u8 16,.int .u8 46,.int .u8 35,.int .u8 44,.int .u8 21,.int .u8 52,.int .u8 32,.int .u8 23,.int .u8 11,.int .u8 54,.int .u8 26,.int .u8 40,.int .u8 15,.int .u8 34,.int .u8 20,.int .u8 31,.int .u8 10,.int .u8 25,.int .u8 14,.int .u8 19,.int .u8 9,.int .u8 13,.int .u8 8,.int .u8 7,.int .u8 6]
def gl:List (Nat×List Value):=[(0,g0),(6,g6)]
theorem mixed:Tryz.prog.follows .mixedOrders=true:=by kernel_rfl
noncomputable abbrev P_:=Tryz.prog
theorem cr(H:Hd){f:Nat}{F:Je (Fl H.p)->Option (Je (Fl H.r))}(hf:P_.funcs[f]? =some H.f)(hT:Ju P_ H.T)(hA:∀p∈H.s,Ent P_ p.1)(h:∀x,H.u P_ x=F x)(hb:pS H=true:=by kernel_rfl):ConOk P_ H.T.gl f ⟨H.p,H.r,F⟩:=Hd.rY mixed H hf hT hA hb h
theorem co(H:Hd){f:Nat}{F:Je (Fl H.p)->Option (Je (Fl H.r))}(hf:P_.funcs[f]? =some H.f)(hT:Ju P_ H.T)(h:∀x,H.u P_ x=F x)(hb:(H.s.isEmpty&&pS H)=true:=by kernel_rfl):ConOk P_ H.T.gl f ⟨H.p,H.r,F⟩:=Hd.qU mixed H hf hT hb h
theorem ent14:Ent Tryz.prog 14:=Ent.mk Tryz.func14 (by kernel_rfl) rfl
theorem ent46:Ent Tryz.prog 46:=Ent.mk Tryz.func46 (by kernel_rfl) rfl
theorem ent49:Ent Tryz.prog 49:=Ent.mk Tryz.func49 (by kernel_rfl) rfl
theorem ent54:Ent Tryz.prog 54:=Ent.mk Tryz.func54 (by kernel_rfl) rfl
theorem ent107:Ent Tryz.prog 107:=Ent.mk Tryz.func107 (by kernel_rfl) rfl
theorem ent116:Ent Tryz.prog 116:=Ent.mk Tryz.func116 (by kernel_rfl) rfl
theorem ent117:Ent Tryz.prog 117:=Ent.mk Tryz.func117 (by kernel_rfl) rfl
theorem ent185:Ent Tryz.prog 185:=Ent.mk Tryz.func185 (by kernel_rfl) rfl
theorem ent195:Ent Tryz.prog 195:=Ent.mk Tryz.func195 (by kernel_rfl) rfl
theorem ent275:Ent Tryz.prog 275:=Ent.mk Tryz.func275 (by kernel_rfl) rfl
theorem ent276:Ent Tryz.prog 276:=Ent.mk Tryz.func276 (by kernel_rfl) rfl
theorem ent277:Ent Tryz.prog 277:=Ent.mk Tryz.func277 (by kernel_rfl) rfl
theorem ent282:Ent Tryz.prog 282:=Ent.mk Tryz.func282 (by kernel_rfl) rfl
theorem ent283:Ent Tryz.prog 283:=Ent.mk Tryz.func283 (by kernel_rfl) rfl
theorem ent284:Ent Tryz.prog 284:=Ent.mk Tryz.func284 (by kernel_rfl) rfl
theorem ent292:Ent Tryz.prog 292:=Ent.mk Tryz.func292 (by kernel_rfl) rfl
theorem ent330:Ent Tryz.prog 330:=Ent.mk Tryz.func330 (by kernel_rfl) rfl
theorem ent335:Ent Tryz.prog 335:=Ent.mk Tryz.func335 (by kernel_rfl) rfl
theorem ent337:Ent Tryz.prog 337:=Ent.mk Tryz.func337 (by kernel_rfl) rfl
theorem ent340:Ent Tryz.prog 340:=Ent.mk Tryz.func340 (by kernel_rfl) rfl
theorem ent364:Ent Tryz.prog 364:=Ent.mk Tryz.func364 (by kernel_rfl) rfl
abbrev u2{A B R:Type}(f:A->B->R)(x:A×B):=f x.1 x.2
abbrev u3{A B C R:Type}(f:A->B->C->R):=u2 λa=>u2 (f a)
abbrev u4{A B C D R:Type}(f:A->B->C->D->R):=u2 λa=>u3 (f a)
abbrev u5{A B C D E R:Type}(f:A->B->C->D->E->R):=u2 λa=>u4 (f a)
abbrev u6{A B C D E F R:Type}(f:A->B->C->D->E->F->R):=u2 λa=>u5 (f a)
abbrev u7{A B C D E F G R:Type}(f:A->B->C->D->E->F->G->R):=u2 λa=>u6 (f a)
open Go.Proofs.Tryz
namespace F101
def H:Hd:=⟨[.agg [Si,Si,Si,Sw]],[.agg [Si,Si]],.d,⟨[],gl,false⟩,[],f101⟩
def F:=u4 DQ
theorem rn x:H.u P_ x=F x:=by kernel_rfl
def c:Con:=⟨H.p,H.r,F⟩
theorem ok:ConOk P_ gl 101 c:=co H func101 .nil rn
end F101
namespace F151
abbrev R_:=(Int32×Int32×Int)
def H:Hd:=⟨[Si],[Sx,Sx,Si],(.seq .d (.seq (.seq .d (.blk (.cut [0,7] [] .d .d))) .d)),⟨[],gl,false⟩,[],f151⟩
def x2(a:Int)(b:Bool):Option R_:=H.e P_ [r,l,r,d,r] ⟨[(0,vi a),(7,vt b)],[],[]⟩
theorem e2:x2=Zy:=by kernel_rfl
def F:=AG
theorem rn x:H.u P_ x=F x:=Eq.trans (b:=Yp x2 x) (by kernel_rfl) (by simp only[e2]<;>rfl)
def c:Con:=⟨H.p,H.r,F⟩
theorem ok:ConOk P_ gl 151 c:=co H func151 .nil rn
end F151
namespace F123
def H:Hd:=⟨[.agg [Si,Si]],[Si],.d,⟨[(151,F151.c)],gl,false⟩,[],f123⟩
def F:=u2 Ku
theorem rn x:H.u P_ x=F x:=by kernel_rfl
def c:Con:=⟨H.p,H.r,F⟩
theorem ok:ConOk P_ gl 123 c:=co H func123 (.cons F151.ok .nil) rn
end F123
namespace F120
def H:Hd:=⟨[Si],[Si,Si],.d,⟨[],gl,false⟩,[],f120⟩
def F:=Mi
theorem rn x:H.u P_ x=F x:=by kernel_rfl
def c:Con:=⟨H.p,H.r,F⟩
theorem ok:ConOk P_ gl 120 c:=co H func120 .nil rn
end F120
namespace F119
def H:Hd:=⟨[Si,Si],[Si,Si],.d,⟨[(120,F120.c)],gl,false⟩,[],f119⟩
def F:=u2 Hw
theorem rn x:H.u P_ x=F x:=by kernel_rfl
def c:Con:=⟨H.p,H.r,F⟩
theorem ok:ConOk P_ gl 119 c:=co H func119 (.cons F120.ok .nil) rn
end F119
namespace F168
def H:Hd:=⟨[.agg [Si,Si,Si,Sw],Si],[Si],.d,⟨[(101,F101.c),(119,F119.c),(123,F123.c)],gl,false⟩,[],f168⟩
def F:=u5 RU
theorem rn x:H.u P_ x=F x:=by kernel_rfl
def c:Con:=⟨H.p,H.r,F⟩
theorem ok:ConOk P_ gl 168 c:=co H func168 (.cons F101.ok (.cons F119.ok (.cons F123.ok .nil))) rn
end F168
namespace F169
abbrev R_:=Int
def H:Hd:=⟨[Si,Sw],[Si],(.seq .d (.seq .d (.seq .d (.seq .d (.cut [] [] (.seq .d (.blk (.loop [5,6,22,23,24] [] .d))) .d))))),⟨[(151,F151.c)],gl,false⟩,[],f169⟩
def t4(b f:Int32)(a:LX)(g:Int):S:=⟨[(5,vx b),(6,vx f),(22,vw a),(23,vi (Ac a)),(24,vi g)],[],[]⟩
def z4:Nat->S->Option R_:=H.i P_ [r,r,r,r,l,r,d]
def x6:Option R_:=H.e P_ [r,r,r,r,r] ⟨[],[],[]⟩
def x4(b f:Int32)(a:LX)(g:Int):Option R_:=H.e P_ [r,r,r,r,l,r,d] (t4 b f a g)
theorem e6:x6=Zc:=by kernel_rfl
theorem i4(b f:Int32)(a:LX):∀(q:Nat) (g:Int),z4 q (t4 b f a g)=Ng b f a q g:=
 ind (λ_=>by kernel_rfl) λq ih g=>Eq.trans (b:=Wz x6 (λg=>(z4 q) (t4 b f a g)) b f a g) (by kernel_rfl) (by simp only[e6,ih]<;>rfl)
theorem e4:x4=Xa:=by funext b f a g;exact Eq.trans (by kernel_rfl) ((i4 b f a Bn g).trans (by rw[Al];rfl))
def F:=u2 Lc
theorem rn x:H.u P_ x=F x:=Eq.trans (b:=u2 (Yz x4) x) (by kernel_rfl) (by simp only[e4]<;>rfl)
def c:Con:=⟨H.p,H.r,F⟩
theorem ok:ConOk P_ gl 169 c:=co H func169 (.cons F151.ok .nil) rn
end F169
namespace F93
def H:Hd:=⟨[.agg [Si,Si,Si,Sw]],[Si],.d,⟨[(168,F168.c),(169,F169.c)],gl,false⟩,[],f93⟩
def F:=u4 Jy
theorem rn x:H.u P_ x=F x:=by kernel_rfl
def c:Con:=⟨H.p,H.r,F⟩
theorem ok:ConOk P_ gl 93 c:=co H func93 (.cons F168.ok (.cons F169.ok .nil)) rn
end F93
namespace F41
def Lq(j2:LB->Int->Int->Int->LX->Option (Int×Int×Int×Int×Int×Int))(a b f:Int)(g:LX)(h:LB):Option (Int×Int×Int×Int×Int×Int):=
(Jy a b f g).bind λk=>
if(Bl k 0)then
some (0,0,0,0,0,k)
else
if(Fm (Ac h) 64)then
some (0,0,0,0,0,2)
else
(Dy (Bl a 0)).bind λ_=>
bo (
j2 h a b f g)
theorem DT: @Lq= @Mv:=by
  unfold Lq Mv;simp only[LA,Wr,Zm]
abbrev R_:=(Int×Int×Int×Int×Int×Int)
def H:Hd:=⟨[.agg [Si,Si,Si,Sw],Ss],[.agg [Si,Si,Si,Si,Si],Si],(.seq .d (.seq .d (.seq .d (.cut [1,4,7] [] .d .d)))),⟨[(93,F93.c)],gl,false⟩,[],f41⟩
def x2(h:LB)(a b f:Int)(g:LX):Option R_:=H.e P_ [r,r,r,r] ⟨[(1,vs h),(4,.ptr 0 []),(7,.ptr 1 [])],[.box 33 (.agg [vi 0,vi 0,vi 0,vi 0,vi 0]),.box 33 (.agg [vi 1,vi a,vi b,vi f,vi (Jp (Ac g) a)])],[]⟩
theorem e2:x2=Yk:=by kernel_rfl
def F:=u5 KS
theorem rn x:H.u P_ x=F x:=Eq.trans (b:=u5 (Lq x2) x) (by kernel_rfl) (by unfold F;rw[DT];simp only[e2]<;>rfl)
def c:Con:=⟨H.p,H.r,F⟩
theorem ok:ConOk P_ gl 41 c:=co H func41 (.cons F93.ok .nil) rn
end F41
namespace F199
abbrev R_:=(UInt64×Int)
abbrev K_:=S->Option R_
def H:Hd:=⟨[Sq,Sb],[Sq,Si],(.seq .d (.seq .d (.cut [4,5] [] (.keep [0,1,4,5,9,10,11,12] true) .d))),⟨[],gl,false⟩,[(282,(.seq .d (.cut [1] [] (.seq .d (.blk (.loop [0,1,9,10,11] [] .d))) .d))),(283,(.seq .d (.seq .d (.cut [1] [] (.seq .d (.blk (.loop [1,5] [] (.seq .d (.seq .d (.cut [1,5] [] (.blk (.seq .d (.seq .d (.cut [1,2,3,5] [] (.seq .d (.blk (.loop [1,2,3,5,11] [] .d))) .d)))) .d)))))) .d))))],f199⟩
def t27(a:LB)(b:UInt64)(f:LQ)(h:UInt64)(m:Int):S:=⟨[(0,.ptr 0 []),(1,vq h),(9,vb a),(10,vi (Ac a)),(11,vi m)],[.box 413 (.val (.vec 256 (.int .u64)) f)],[[(0,vq b),(1,vb a),(4,vq 0),(5,vi 0),(9,.ptr 0 []),(10,vq b),(11,vb a)]]⟩
def z27:Nat->S->Option R_:=H.i P_ [r,r,l,(call 3 282),r,l,r,d]
def t21(b:UInt64)(a:LB)(g:Int)(f:LQ)(k:UInt64)(n:Int):S:=⟨[(1,.ptr 0 []),(2,vi g),(3,vq k),(5,vi g),(11,vi n)],[.box 413 (.val (.vec 256 (.int .u64)) f)],[[(0,vq b),(1,vb a),(4,vq 0),(5,vi 0)]]⟩
def z21(Bm:K_):Nat->S->Option R_:=H.i P_ [r,r,l,(call 0 283),r,r,l,r,d,(lp Bm),r,r,l,d,r,r,l,r,d]
def t16(b:UInt64)(a:LB)(g:Int)(f:LQ):S:=⟨[(1,.ptr 0 []),(5,vi g)],[.box 413 (.val (.vec 256 (.int .u64)) f)],[[(0,vq b),(1,vb a),(4,vq 0),(5,vi 0)]]⟩
def z16:Nat->S->Option R_:=H.i P_ [r,r,l,(call 0 283),r,r,l,r,d]
def x30(h:UInt64):Option R_:=H.e P_ [r,r,r] ⟨[(4,vq h),(5,vi 0)],[],[]⟩
def x29(h b:UInt64)(a:LB)(f:LQ):Option R_:=H.e P_ [r,r,l,(call 3 282),r,r] ⟨[(1,vq h)],[.box 413 (.val (.vec 256 (.int .u64)) f)],[[(0,vq b),(1,vb a),(4,vq 0),(5,vi 0),(9,.ptr 0 []),(10,vq b),(11,vb a)]]⟩
def x27(a:LB)(b:UInt64)(f:LQ)(h:UInt64)(m:Int):Option R_:=H.e P_ [r,r,l,(call 3 282),r,l,r,d] (t27 a b f h m)
def x26(b:UInt64)(a:LB)(f:LQ):Option R_:=H.e P_ [r,r,l,(call 0 283),r,r,r] ⟨[(1,.ptr 0 [])],[.box 413 (.val (.vec 256 (.int .u64)) f)],[[(0,vq b),(1,vb a),(4,vq 0),(5,vi 0)]]⟩
def x24(Bm:K_)(b:UInt64)(a:LB)(g:Int)(o:LQ):Option R_:=H.e P_ [r,r,l,(call 0 283),r,r,l,r,d,(lp Bm),r,r,r] ⟨[(1,.ptr 0 []),(5,vi g)],[.box 413 (.val (.vec 256 (.int .u64)) o)],[[(0,vq b),(1,vb a),(4,vq 0),(5,vi 0)]]⟩
def x23(Bm:K_)(b:UInt64)(a:LB)(g:Int)(k:UInt64)(f:LQ):Option R_:=H.e P_ [r,r,l,(call 0 283),r,r,l,r,d,(lp Bm),r,r,l,d,r,r,r] ⟨[(1,.ptr 0 []),(2,vi g),(3,vq k),(5,vi g)],[.box 413 (.val (.vec 256 (.int .u64)) f)],[[(0,vq b),(1,vb a),(4,vq 0),(5,vi 0)]]⟩
def x21(Bm:K_)(b:UInt64)(a:LB)(g:Int)(f:LQ)(k:UInt64)(n:Int):Option R_:=H.e P_ [r,r,l,(call 0 283),r,r,l,r,d,(lp Bm),r,r,l,d,r,r,l,r,d] (t21 b a g f k n)
def x16(b:UInt64)(a:LB)(g:Int)(f:LQ):Option R_:=H.e P_ [r,r,l,(call 0 283),r,r,l,r,d] (t16 b a g f)
theorem e30:x30=Yo:=by kernel_rfl
theorem e29:x29=Yy:=Eq.trans (b:=Xc x30) (by kernel_rfl) (by simp only[e30]<;>rfl)
theorem i27(a:LB)(b:UInt64)(f:LQ):∀(q:Nat) (h:UInt64) (m:Int),z27 q (t27 a b f h m)=Nl a b f q h m:=
 ind (λ_ _=>by kernel_rfl) λq ih h m=>Eq.trans (b:=Xz x29 (λh m=>(z27 q) (t27 a b f h m)) a b f h m) (by kernel_rfl) (by simp only[e29,ih]<;>rfl)
theorem e27:x27=Xm:=by funext a b f h m;exact Eq.trans (by kernel_rfl) ((i27 a b f Bn h m).trans (by rw[Al];rfl))
theorem e26:x26=Yq:=Eq.trans (b:=Wy x27) (by kernel_rfl) (by simp only[e27]<;>rfl)
theorem e24(Bm:K_)(b:UInt64)(a:LB):x24 Bm b a=Xs (λg f=>Bm (t16 b a g f)) b a:=by kernel_rfl
theorem e23(Bm:K_)(b:UInt64)(a:LB):x23 Bm b a=Xj (λg f=>Bm (t16 b a g f)) b a:=Eq.trans (b:=Xf (x24 Bm b a) b a) (by kernel_rfl) (by simp only[e24]<;>rfl)
theorem i21(Bm:K_)(b:UInt64)(a:LB)(g:Int)(f:LQ):∀(q:Nat) (k:UInt64) (n:Int),z21 Bm q (t21 b a g f k n)=Oc (λg f=>Bm (t16 b a g f)) b a g f q k n:=
 ind (λ_ _=>by kernel_rfl) λq ih k n=>Eq.trans (b:=Ws (x23 Bm b a) (λk n=>(z21 Bm q) (t21 b a g f k n)) b a g f k n) (by kernel_rfl) (by simp only[e23,ih]<;>rfl)
theorem e21(Bm:K_)(b:UInt64)(a:LB):x21 Bm b a=Zz (λg f=>Bm (t16 b a g f)) b a:=by funext g f k n;exact Eq.trans (by kernel_rfl) ((i21 Bm b a g f Bn k n).trans (by rw[Al];rfl))
theorem i16(b:UInt64)(a:LB):∀(q:Nat) (g:Int) (f:LQ),z16 q (t16 b a g f)=Oo b a q g f:=
 ind (λ_ _=>by kernel_rfl) λq ih g f=>Eq.trans (b:=Yf (x21 (z16 q) b a) x26 b a g f) (by kernel_rfl) (by simp only[e21,e26,ih]<;>rfl)
theorem e16:x16=Ye:=by funext b a g f;exact Eq.trans (by kernel_rfl) ((i16 b a Bn g f).trans (by rw[Al];rfl))
def F:=u2 PY
theorem rn x:H.u P_ x=F x:=Eq.trans (b:=u2 (CZ x16) x) (by kernel_rfl) (by simp only[e16]<;>rfl)
def c:Con:=⟨H.p,H.r,F⟩
theorem ok:ConOk P_ gl 199 c:=cr H func199 .nil (Bt.cons ent282 (Bt.cons ent283 Bt.nil)) rn
end F199
namespace F121
def H:Hd:=⟨[Sb],[Sq,Si],.d,⟨[(199,F199.c)],gl,false⟩,[],f121⟩
def F:=IN
theorem rn x:H.u P_ x=F x:=by kernel_rfl
def c:Con:=⟨H.p,H.r,F⟩
theorem ok:ConOk P_ gl 121 c:=co H func121 (.cons F199.ok .nil) rn
end F121
namespace F122
abbrev R_:=LX
def H:Hd:=⟨[Sq],[.lf (.vec 16 (.int .i32)) none],(.seq .d (.seq .d (.cut [2,3] [] (.seq .d (.blk (.loop [0,2,3,5] [] .d))) .d))),⟨[],gl,false⟩,[],f122⟩
def t4(f:UInt64)(b:Int)(a:LX):S:=⟨[(0,vq f),(2,.ptr 0 []),(3,.ptr 1 []),(5,vi b)],[.box 105 (.val (.vec 16 (.int .i32)) (List.replicate 16 (0:Int32))),.box 105 (.val (.vec 16 (.int .i32)) a)],[]⟩
def z4:Nat->S->Option R_:=H.i P_ [r,r,l,r,d]
def x6(a:LX):Option R_:=H.e P_ [r,r,r] ⟨[(2,.ptr 0 []),(3,.ptr 1 [])],[.box 105 (.val (.vec 16 (.int .i32)) (List.replicate 16 (0:Int32))),.box 105 (.val (.vec 16 (.int .i32)) a)],[]⟩
def x4(f:UInt64)(b:Int)(a:LX):Option R_:=H.e P_ [r,r,l,r,d] (t4 f b a)
theorem e6:x6=NP:=by kernel_rfl
theorem i4(f:UInt64):∀(q:Nat) (b:Int) (a:LX),z4 q (t4 f b a)=DY f q b a:=
 ind (λ_ _=>by kernel_rfl) λq ih b a=>Eq.trans (b:=QY x6 (λb a=>(z4 q) (t4 f b a)) f b a) (by kernel_rfl) (by simp only[e6,ih]<;>rfl)
theorem e4:x4=QX:=by funext f b a;exact Eq.trans (by kernel_rfl) ((i4 f Bn b a).trans (by rw[Al];rfl))
def F:=aE
theorem rn x:H.u P_ x=F x:=Eq.trans (b:=PZ x4 x) (by kernel_rfl) (by simp only[e4]<;>rfl)
def c:Con:=⟨H.p,H.r,F⟩
theorem ok:ConOk P_ gl 122 c:=co H func122 .nil rn
end F122
namespace F67
def H:Hd:=⟨[Ss],[.lf (.vec 16 (.int .i32)) none,Si],.d,⟨[(121,F121.c),(122,F122.c)],gl,false⟩,[],f67⟩
def F:=Mp
theorem rn x:H.u P_ x=F x:=by kernel_rfl
def c:Con:=⟨H.p,H.r,F⟩
theorem ok:ConOk P_ gl 67 c:=co H func67 (.cons F121.ok (.cons F122.ok .nil)) rn
end F67
namespace F339
def H:Hd:=⟨[Sq,Sq],[Sq,Sq],.d,⟨[],gl,false⟩,[],f339⟩
def F:=u2 Ls
theorem rn x:H.u P_ x=F x:=by kernel_rfl
def c:Con:=⟨H.p,H.r,F⟩
theorem ok:ConOk P_ gl 339 c:=co H func339 .nil rn
end F339
namespace F280
def H:Hd:=⟨[Sq,Sq],[Sq,Sq],.d,⟨[(339,F339.c)],gl,false⟩,[],f280⟩
def F:=u2 Kw
theorem rn x:H.u P_ x=F x:=by kernel_rfl
def c:Con:=⟨H.p,H.r,F⟩
theorem ok:ConOk P_ gl 280 c:=co H func280 (.cons F339.ok .nil) rn
end F280
namespace F193
def Em(j10:LI->Option (LI))(bX:Int->LI->Option (LI))(b:Int)(a:LI):Option (LI):=
if(Cq b (Ac a))then
both (
(RD (Ac a) b (Ac a)).bind λ_=>
(RD (Ac a) 0 b).bind λ_=>
bX (Aa b (CP ((Ac a)-b) (Wp a 0 (b-(0:Int))).length)) (Hj a b ((Ac a)-b) (Wp a 0 (b-(0:Int))))) [
(RD (Ac a) 0 b).bind λ_=>
(RD (Ac a) b (Ac a)).bind λ_=>
bX (Aa b (CP ((Ac a)-b) (Wp a 0 (b-(0:Int))).length)) (Hj a b ((Ac a)-b) (Wp a 0 (b-(0:Int))))]
else
j10 a
theorem Ll: @Em= @Ep:=by
  unfold Em Ep
  repeat (refine funext λ_=>?_)
  repeat' first
    |with_reducible rfl
    |with_reducible refine Hx ?_ ?_
    |with_reducible refine Hn ?_ ?_ ?_
    |with_reducible refine Ia ?_ ?_ ?_ ?_
    |((with_reducible refine Kv ?_ ?_);focus (intro h;first|(subst h;rfl)|(simp only[h];rfl)|(simp[Dp,Ac,h];done)))
    |with_reducible refine Kn λx=>?_
    |with_reducible refine Qr (λ_=>?_) (λ_=>?_)
    |(refine Eo (λh=>by simp only[h,Kr,Dt,Dm,ite_self]) (λx h=>?_);(try simp only[h,Dt]))
    |(refine Fs (λh=>?_) (λh=>?_)<;>simp only[h,if_true,if_false,Bool.false_eq_true])
abbrev R_:=LI
def H:Hd:=⟨[Sl,Si],[Ol 3],(.seq .d (.cut [0,1] [] .d (.seq .d (.cut [0,6] [] .d (.seq .d (.seq .d (.cut [7] [] (.blk (.loop [7,8] [] (.seq .d (.blk (.mode false))))) .d))))))),⟨[(280,F280.c)],gl,true⟩,[],f193⟩
def t8(b:Int)(a:LI):S:=⟨[(7,.own 0),(8,vi b)],[Ai 3 a],[]⟩
def z8:Nat->S->Option R_:=H.i P_ [r,r,r,r,r,r,l,d]
def x10(a:LI):Option R_:=H.e P_ [r,r,r,r,r,r,r] ⟨[(7,.own 0)],[Ai 3 a],[]⟩
def x8(b:Int)(a:LI):Option R_:=H.e P_ [r,r,r,r,r,r,l,d] (t8 b a)
def x7(f:LI)(g:UInt64):Option R_:=H.e P_ [r,r,r,r] ⟨[(0,vl f),(6,vq g)],[],[]⟩
def x6(f:LI)(h:Int):Option R_:=H.e P_ [r,r] ⟨[(0,vl f),(1,vi h)],[],[]⟩
theorem e10:x10=Gx:=by kernel_rfl
theorem i8:∀(q:Nat) (b:Int) (a:LI),z8 q (t8 b a)=Et q b a:=
 ind (λ_ _=>by kernel_rfl) λq ih b a=>Eq.trans (b:=Em x10 (λb a=>(z8 q) (t8 b a)) b a) (by kernel_rfl) (by rw[Ll];simp only[e10,ih]<;>rfl)
theorem e8:x8=Ih:=by funext b a;exact Eq.trans (by kernel_rfl) ((i8 Bn b a).trans (by rw[Al];rfl))
theorem e7:x7=Ib:=Eq.trans (b:=Ii x8) (by kernel_rfl) (by simp only[e8]<;>rfl)
theorem e6:x6=Ij:=Eq.trans (b:=Hr x7) (by kernel_rfl) (by simp only[e7]<;>rfl)
def F:=u2 Jw
theorem rn x:H.u P_ x=F x:=Eq.trans (b:=u2 (Ig x6) x) (by kernel_rfl) (by simp only[e6]<;>rfl)
def c:Con:=⟨H.p,H.r,F⟩
theorem ok:ConOk P_ gl 193 c:=co H func193 (.cons F280.ok .nil) rn
end F193
namespace F281
abbrev R_:=LI
def H:Hd:=⟨[.lf (.list (.list (.int .i64))) none],[Ol 3],(.seq .d (.seq .d (.cut [0,3] [] (.seq .d (.blk (.loop [0,3,9,10,11] [] .d))) (.cut [0,6] [⟨6,[],.own 3 (.int .i64)⟩] (.keep [0,3,6,23,24] true) (.cut [6] [] (.seq .d (.blk (.loop [6,25,26,27] [] .d))) .d))))),⟨[],gl,true⟩,[(340,(.seq .d (.cut [0,1] [] .d .d)))],f281⟩
def t14(a:List LI)(g:Int)(f:LI):S:=⟨[(6,.own 0),(25,.val (.list (.list (.int .i64))) a),(26,vi (Ac a)),(27,vi g)],[Ai 3 f],[]⟩
def z14:Nat->S->Option R_:=H.i P_ [r,r,r,r,l,r,d]
def t9(a:List LI)(b h:Int):S:=⟨[(0,.val (.list (.list (.int .i64))) a),(3,vi b),(9,.val (.list (.list (.int .i64))) a),(10,vi (Ac a)),(11,vi h)],[],[]⟩
def z9:Nat->S->Option R_:=H.i P_ [r,r,l,r,d]
def x16(f:LI):Option R_:=H.e P_ [r,r,r,r,r] ⟨[(6,.own 0)],[Ai 3 f],[]⟩
def x14(a:List LI)(g:Int)(f:LI):Option R_:=H.e P_ [r,r,r,r,l,r,d] (t14 a g f)
def x13(a:List LI)(k:LI):Option R_:=H.e P_ [r,r,r,r] ⟨[(0,.val (.list (.list (.int .i64))) a),(6,.own 0)],[Ai 3 k],[]⟩
def x12(b:Int)(a:List LI):Option R_:=H.e P_ [r,r,r,l,(call 1 340),r,r] ⟨[(0,.nils),(1,vi b)],[],[[(0,.val (.list (.list (.int .i64))) a),(3,vi b),(23,vi b)]]⟩
def x11(a:List LI)(b:Int):Option R_:=H.e P_ [r,r,r] ⟨[(0,.val (.list (.list (.int .i64))) a),(3,vi b)],[],[]⟩
def x9(a:List LI)(b h:Int):Option R_:=H.e P_ [r,r,l,r,d] (t9 a b h)
theorem e16:x16=Hg:=by kernel_rfl
theorem i14(a:List LI):∀(q:Nat) (g:Int) (f:LI),z14 q (t14 a g f)=El a q g f:=
 ind (λ_ _=>by kernel_rfl) λq ih g f=>Eq.trans (b:=Gy x16 (λg f=>(z14 q) (t14 a g f)) a g f) (by kernel_rfl) (by simp only[e16,ih]<;>rfl)
theorem e14:x14=He:=by funext a g f;exact Eq.trans (by kernel_rfl) ((i14 a Bn g f).trans (by rw[Al];rfl))
theorem e13:x13=Hf:=Eq.trans (b:=Gz x14) (by kernel_rfl) (by simp only[e14]<;>rfl)
theorem e12:x12=Hb:=Eq.trans (b:=Ha x13) (by kernel_rfl) (by simp only[e13]<;>rfl)
theorem e11:x11=Gw:=Eq.trans (b:=Hh x12) (by kernel_rfl) (by simp only[e12]<;>rfl)
theorem i9(a:List LI):∀(q:Nat) (b h:Int),z9 q (t9 a b h)=Er a q b h:=
 ind (λ_ _=>by kernel_rfl) λq ih b h=>Eq.trans (b:=Hv x11 (λb h=>(z9 q) (t9 a b h)) a b h) (by kernel_rfl) (by simp only[e11,ih]<;>rfl)
theorem e9:x9=Hu:=by funext a b h;exact Eq.trans (by kernel_rfl) ((i9 a Bn b h).trans (by rw[Al];rfl))
def F:=Jr
theorem rn x:H.u P_ x=F x:=Eq.trans (b:=Ic x9 x) (by kernel_rfl) (by simp only[e9]<;>rfl)
def c:Con:=⟨H.p,H.r,F⟩
theorem ok:ConOk P_ gl 281 c:=cr H func281 .nil (Bt.cons ent340 Bt.nil) rn
end F281
namespace F194
def H:Hd:=⟨[Sl,Sl],[Ol 3],.d,⟨[(281,F281.c)],gl,false⟩,[],f194⟩
def F:=u2 Ym
theorem rn x:H.u P_ x=F x:=by kernel_rfl
def c:Con:=⟨H.p,H.r,F⟩
theorem ok:ConOk P_ gl 194 c:=co H func194 (.cons F281.ok .nil) rn
end F194
namespace F114
def H:Hd:=⟨[Si,Si],[Ol 3,Si],.d,⟨[(119,F119.c),(120,F120.c),(193,F193.c),(194,F194.c)],gl,false⟩,[],f114⟩
def F:=u2 La
theorem rn x:H.u P_ x=F x:=by kernel_rfl
def c:Con:=⟨H.p,H.r,F⟩
theorem ok:ConOk P_ gl 114 c:=co H func114 (.cons F119.ok (.cons F120.ok (.cons F193.ok (.cons F194.ok .nil)))) rn
end F114
namespace F267
def H:Hd:=⟨[.agg [Si,Si],Sw],[Si],.d,⟨[(123,F123.c),(169,F169.c)],gl,false⟩,[],f267⟩
def F:=u3 BS
theorem rn x:H.u P_ x=F x:=by kernel_rfl
def c:Con:=⟨H.p,H.r,F⟩
theorem ok:ConOk P_ gl 267 c:=co H func267 (.cons F123.ok (.cons F169.ok .nil)) rn
end F267
namespace F290
def H:Hd:=⟨[Si,Sw],[Si],.d,⟨[],gl,false⟩,[],f290⟩
def F:=u2 JA
theorem rn x:H.u P_ x=F x:=by kernel_rfl
def c:Con:=⟨H.p,H.r,F⟩
theorem ok:ConOk P_ gl 290 c:=co H func290 .nil rn
end F290
namespace F291
def Dv(a:LX):Option (LX):=
TB a (
some ([]:LX)) (
(Dp ([]:LX) a).bind λb=>
some b)
theorem Jo: @Dv= @Cj:=by
  unfold Dv Cj
  repeat (refine funext λ_=>?_)
  repeat' first
    |with_reducible rfl
    |with_reducible refine Hx ?_ ?_
    |with_reducible refine Hn ?_ ?_ ?_
    |with_reducible refine Ia ?_ ?_ ?_ ?_
    |((with_reducible refine Kv ?_ ?_);focus (intro h;first|(subst h;rfl)|(simp only[h];rfl)|(simp[Dp,Ac,h];done)))
    |with_reducible refine Kn λx=>?_
    |with_reducible refine Qr (λ_=>?_) (λ_=>?_)
    |(refine Eo (λh=>by simp only[h,Kr,Dt,Dm,ite_self]) (λx h=>?_);(try simp only[h,Dt]))
    |(refine Fs (λh=>?_) (λh=>?_)<;>simp only[h,if_true,if_false,Bool.false_eq_true])
def H:Hd:=⟨[Sw],[Ow 21],.d,⟨[],gl,false⟩,[],f291⟩
def F:=Cj
theorem rn x:H.u P_ x=F x:=Eq.trans (b:=Dv x) (by kernel_rfl) (by rw[Jo];rfl)
def c:Con:=⟨H.p,H.r,F⟩
theorem ok:ConOk P_ gl 291 c:=co H func291 .nil rn
end F291
namespace F268
abbrev R_:=(LX×Int)
abbrev K_:=S->Option R_
def H:Hd:=⟨[Si,Sw],[Ow 21,Si],(.seq .d (.seq .d (.seq .d (.cut [7] [] (.seq .d (.blk (.loop [0,7,8] [] (.seq .d (.cut [0,7,8] [] (.blk (.keep [0,7,8,24,25,26,27,28,29] true)) .d))))) .d)))),⟨[(290,F290.c),(291,F291.c)],gl,true⟩,[(330,(.seq .d (.cut [0,2] [] (.seq .d (.blk (.loop [0,2,7,8] [] .d))) .d)))],f268⟩
def t17(b a h:Int)(g:LX):S:=⟨[(0,.view true 0 [] (.int .i32) a ((Aa a b)-a)),(2,vi (Af ((Aa a b)-a) (1:Int))),(7,vi (Af ((Aa a b)-a) (1:Int))),(8,vi h)],[Aw 21 g],[[(0,vi b),(7,.own 0),(8,vi a),(24,.own 0),(25,vi a),(26,vi a),(27,vi b),(28,vi (Aa a b)),(29,.view true 0 [] (.int .i32) a ((Aa a b)-a))]]⟩
def z17(Ej:K_):Nat->S->Option R_:=H.i P_ [r,r,r,l,r,d,(lp Ej),r,l,d,(call 6 330),r,l,r,d]
def t12(b a:Int)(f:LX):S:=⟨[(0,vi b),(7,.own 0),(8,vi a)],[Aw 21 f],[]⟩
def z12:Nat->S->Option R_:=H.i P_ [r,r,r,l,r,d]
def x22(f:LX):Option R_:=H.e P_ [r,r,r,r] ⟨[(7,.own 0)],[Aw 21 f],[]⟩
def x20(Ej:K_)(b a:Int)(k:LX):Option R_:=H.e P_ [r,r,r,l,r,d,(lp Ej),r,r] ⟨[(0,vi b),(7,.own 0),(8,vi a)],[Aw 21 k],[]⟩
def x19(Ej:K_)(b a:Int)(g:LX):Option R_:=H.e P_ [r,r,r,l,r,d,(lp Ej),r,l,d,(call 6 330),r,r] ⟨[(0,.view true 0 [] (.int .i32) a ((Aa a b)-a)),(2,vi (Af ((Aa a b)-a) (1:Int)))],[Aw 21 g],[[(0,vi b),(7,.own 0),(8,vi a),(24,.own 0),(25,vi a),(26,vi a),(27,vi b),(28,vi (Aa a b)),(29,.view true 0 [] (.int .i32) a ((Aa a b)-a))]]⟩
def x17(Ej:K_)(b a h:Int)(g:LX):Option R_:=H.e P_ [r,r,r,l,r,d,(lp Ej),r,l,d,(call 6 330),r,l,r,d] (t17 b a h g)
def x12(b a:Int)(f:LX):Option R_:=H.e P_ [r,r,r,l,r,d] (t12 b a f)
theorem e22:x22=JM:=by kernel_rfl
theorem e20(Ej:K_)(b:Int):x20 Ej b=KT (λa f=>Ej (t12 b a f)) b:=by kernel_rfl
theorem e19(Ej:K_)(b:Int):x19 Ej b=JO (λa f=>Ej (t12 b a f)) b:=Eq.trans (b:=LD (x20 Ej b) b) (by kernel_rfl) (by simp only[e20]<;>rfl)
theorem i17(Ej:K_)(b a:Int):∀(q:Nat) (h:Int) (g:LX),z17 Ej q (t17 b a h g)=Zb (λa f=>Ej (t12 b a f)) b a q h g:=
 ind (λ_ _=>by kernel_rfl) λq ih h g=>Eq.trans (b:=JK (x19 Ej b) (λh g=>(z17 Ej q) (t17 b a h g)) b a h g) (by kernel_rfl) (by simp only[e19,ih]<;>rfl)
theorem e17(Ej:K_)(b:Int):x17 Ej b=JX (λa f=>Ej (t12 b a f)) b:=by funext a h g;exact Eq.trans (by kernel_rfl) ((i17 Ej b a Bn h g).trans (by rw[Al];rfl))
theorem i12(b:Int):∀(q:Nat) (a:Int) (f:LX),z12 q (t12 b a f)=AE b q a f:=
 ind (λ_ _=>by kernel_rfl) λq ih a f=>Eq.trans (b:=JU (x17 (z12 q) b) x22 b a f) (by kernel_rfl) (by simp only[e17,e22,ih]<;>rfl)
theorem e12:x12=JR:=by funext b a f;exact Eq.trans (by kernel_rfl) ((i12 b Bn a f).trans (by rw[Al];rfl))
def F:=u2 bP
theorem rn x:H.u P_ x=F x:=Eq.trans (b:=u2 (OO x12) x) (by kernel_rfl) (by simp only[e12]<;>rfl)
def c:Con:=⟨H.p,H.r,F⟩
theorem ok:ConOk P_ gl 268 c:=cr H func268 (.cons F290.ok (.cons F291.ok .nil)) (Bt.cons ent330 Bt.nil) rn
end F268
namespace F286
abbrev R_:=(Int×LX×LX×Int)
def H:Hd:=⟨[Si,.lf (.vec 16 (.int .i32)) none],[.agg [Si,.lf (.vec 16 (.int .i32)) none,.lf (.vec 16 (.int .i32)) none],Si],(.seq .d (.seq .d (.seq (.seq .d (.blk (.cut [4,6,9,11] [] .d .d))) .d))),⟨[],gl,false⟩,[],f286⟩
def x2(a:Int)(b:LX)(f:Bool):Option R_:=H.e P_ [r,r,l,r,d,r] ⟨[(4,.ptr 0 []),(6,.ptr 1 []),(9,vi a),(11,vt f)],[.box 279 (.agg [vi 0,.val (.vec 16 (.int .i32)) (List.replicate 16 (0:Int32)),.val (.vec 16 (.int .i32)) (List.replicate 16 (0:Int32))]),.box 279 (.agg [vi 10,.val (.vec 16 (.int .i32)) b,.val (.vec 16 (.int .i32)) (List.replicate 16 (0:Int32))])],[]⟩
theorem e2:x2=KE:=by kernel_rfl
def F:=u2 PW
theorem rn x:H.u P_ x=F x:=Eq.trans (b:=u2 (KR x2) x) (by kernel_rfl) (by simp only[e2]<;>rfl)
def c:Con:=⟨H.p,H.r,F⟩
theorem ok:ConOk P_ gl 286 c:=co H func286 .nil rn
end F286
namespace F206
def H:Hd:=⟨[Si,.lf (.vec 16 (.int .i32)) none],[.agg [Si,Sx,.agg [Si,.lf (.vec 16 (.int .i32)) none,.lf (.vec 16 (.int .i32)) none]],Si],.d,⟨[(286,F286.c)],gl,false⟩,[],f206⟩
def F:=u2 JG
theorem rn x:H.u P_ x=F x:=by kernel_rfl
def c:Con:=⟨H.p,H.r,F⟩
theorem ok:ConOk P_ gl 206 c:=co H func206 (.cons F286.ok .nil) rn
end F206
namespace F287
def H:Hd:=⟨[.agg [Si,Sx,.agg [Si,.lf (.vec 16 (.int .i32)) none,.lf (.vec 16 (.int .i32)) none]]],[Si],.d,⟨[(286,F286.c)],gl,false⟩,[],f287⟩
def F:=u5 Lb
theorem rn x:H.u P_ x=F x:=by kernel_rfl
def c:Con:=⟨H.p,H.r,F⟩
theorem ok:ConOk P_ gl 287 c:=co H func287 (.cons F286.ok .nil) rn
end F287
namespace F342
def H:Hd:=⟨[Si],[Si,Si],.d,⟨[],gl,false⟩,[],f342⟩
def F:=KI
theorem rn x:H.u P_ x=F x:=by kernel_rfl
def c:Con:=⟨H.p,H.r,F⟩
theorem ok:ConOk P_ gl 342 c:=co H func342 .nil rn
end F342
namespace F343
def H:Hd:=⟨[Si,Sx],[Sx],.d,⟨[],gl,false⟩,[],f343⟩
def F:=u2 JL
theorem rn x:H.u P_ x=F x:=by kernel_rfl
def c:Con:=⟨H.p,H.r,F⟩
theorem ok:ConOk P_ gl 343 c:=co H func343 .nil rn
end F343
namespace F288
def H:Hd:=⟨[Si,Sx],[Sx,Si],.d,⟨[(342,F342.c),(343,F343.c)],gl,false⟩,[],f288⟩
def F:=u2 Ld
theorem rn x:H.u P_ x=F x:=by kernel_rfl
def c:Con:=⟨H.p,H.r,F⟩
theorem ok:ConOk P_ gl 288 c:=co H func288 (.cons F342.ok (.cons F343.ok .nil)) rn
end F288
namespace F366
def H:Hd:=⟨[.agg [Si,.lf (.vec 16 (.int .i32)) none,.lf (.vec 16 (.int .i32)) none]],[Si],.d,⟨[],gl,false⟩,[],f366⟩
def F:=u3 Oa
theorem rn x:H.u P_ x=F x:=by kernel_rfl
def c:Con:=⟨H.p,H.r,F⟩
theorem ok:ConOk P_ gl 366 c:=co H func366 .nil rn
end F366
namespace F344
abbrev R_:=(Int32×Int)
def H:Hd:=⟨[.agg [Si,.lf (.vec 16 (.int .i32)) none,.lf (.vec 16 (.int .i32)) none]],[Sx,Si],(.seq .d (.seq .d (.seq .d (.cut [1,5] [] (.seq .d (.blk (.loop [1,5,18,19] [] .d))) .d)))),⟨[(366,F366.c)],gl,false⟩,[],f344⟩
def t4(b:LX)(a:Int)(f:LX)(g:Int32)(h:Int):S:=⟨[(1,.ptr 0 []),(5,vx g),(18,.val (.vec 16 (.int .i32)) b),(19,vi h)],[.box 279 (.agg [vi a,.val (.vec 16 (.int .i32)) b,.val (.vec 16 (.int .i32)) f])],[]⟩
def z4:Nat->S->Option R_:=H.i P_ [r,r,r,l,r,d]
def x6(g:Int32)(a:Int)(b f:LX):Option R_:=H.e P_ [r,r,r,r] ⟨[(1,.ptr 0 []),(5,vx g)],[.box 279 (.agg [vi a,.val (.vec 16 (.int .i32)) b,.val (.vec 16 (.int .i32)) f])],[]⟩
def x4(b:LX)(a:Int)(f:LX)(g:Int32)(h:Int):Option R_:=H.e P_ [r,r,r,l,r,d] (t4 b a f g h)
theorem e6:x6=BZ:=by kernel_rfl
theorem i4(b:LX)(a:Int)(f:LX):∀(q:Nat) (g:Int32) (h:Int),z4 q (t4 b a f g h)=Qz b a f q g h:=
 ind (λ_ _=>by kernel_rfl) λq ih g h=>Eq.trans (b:=CH x6 (λg h=>(z4 q) (t4 b a f g h)) b a f g h) (by kernel_rfl) (by simp only[e6,ih]<;>rfl)
theorem e4:x4=CL:=by funext b a f g h;exact Eq.trans (by kernel_rfl) ((i4 b a f Bn g h).trans (by rw[Al];rfl))
def F:=u3 DV
theorem rn x:H.u P_ x=F x:=Eq.trans (b:=u3 (BP x4) x) (by kernel_rfl) (by simp only[e4]<;>rfl)
def c:Con:=⟨H.p,H.r,F⟩
theorem ok:ConOk P_ gl 344 c:=co H func344 (.cons F366.ok .nil) rn
end F344
namespace F377
def H:Hd:=⟨[Si],[Sx],.d,⟨[],gl,false⟩,[],f377⟩
def F:=ID
theorem rn x:H.u P_ x=F x:=by kernel_rfl
def c:Con:=⟨H.p,H.r,F⟩
theorem ok:ConOk P_ gl 377 c:=co H func377 .nil rn
end F377
namespace F367
abbrev R_:=(Int×LX×LX×Int)
def H:Hd:=⟨[.agg [Si,.lf (.vec 16 (.int .i32)) none,.lf (.vec 16 (.int .i32)) none],Sx],[.agg [Si,.lf (.vec 16 (.int .i32)) none,.lf (.vec 16 (.int .i32)) none],Si],(.seq .d (.seq .d (.seq .d (.cut [2,4] [] (.seq .d (.blk (.loop [1,2,4,19,20] [] .d))) .d)))),⟨[(366,F366.c),(377,F377.c)],gl,false⟩,[],f367⟩
def t4(h:Int32)(f:LX)(g a:Int)(b:LX):S:=⟨[(1,vx h),(2,.ptr 0 []),(4,.ptr 1 []),(19,.val (.vec 16 (.int .i32)) f),(20,vi a)],[.box 279 (.agg [vi g,.val (.vec 16 (.int .i32)) b,.val (.vec 16 (.int .i32)) f]),.box 279 (.agg [vi 0,.val (.vec 16 (.int .i32)) (List.replicate 16 (0:Int32)),.val (.vec 16 (.int .i32)) (List.replicate 16 (0:Int32))])],[]⟩
def z4:Nat->S->Option R_:=H.i P_ [r,r,r,l,r,d]
def x6(g:Int)(b f:LX):Option R_:=H.e P_ [r,r,r,r] ⟨[(2,.ptr 0 []),(4,.ptr 1 [])],[.box 279 (.agg [vi g,.val (.vec 16 (.int .i32)) b,.val (.vec 16 (.int .i32)) f]),.box 279 (.agg [vi 0,.val (.vec 16 (.int .i32)) (List.replicate 16 (0:Int32)),.val (.vec 16 (.int .i32)) (List.replicate 16 (0:Int32))])],[]⟩
def x4(h:Int32)(f:LX)(g a:Int)(b:LX):Option R_:=H.e P_ [r,r,r,l,r,d] (t4 h f g a b)
theorem e6:x6=CM:=by kernel_rfl
theorem i4(h:Int32)(f:LX)(g:Int):∀(q:Nat) (a:Int) (b:LX),z4 q (t4 h f g a b)=Qp h f g q a b:=
 ind (λ_ _=>by kernel_rfl) λq ih a b=>Eq.trans (b:=CI x6 (λa b=>(z4 q) (t4 h f g a b)) h f g a b) (by kernel_rfl) (by simp only[e6,ih]<;>rfl)
theorem e4:x4=CC:=by funext h f g a b;exact Eq.trans (by kernel_rfl) ((i4 h f g Bn a b).trans (by rw[Al];rfl))
def F:=u4 QZ
theorem rn x:H.u P_ x=F x:=Eq.trans (b:=u4 (CX x4) x) (by kernel_rfl) (by simp only[e4]<;>rfl)
def c:Con:=⟨H.p,H.r,F⟩
theorem ok:ConOk P_ gl 367 c:=co H func367 (.cons F366.ok (.cons F377.ok .nil)) rn
end F367
namespace F368
def Qk(j2:Int32->Int->LX->LX->Option (Int×LX×LX×Int))(b:Int)(f a:LX)(g:Int32):Option (Int×LX×LX×Int):=
(Oa b f a).bind λh=>
if(Bl h 0)then
some (0,(List.replicate 16 (0:Int32)),(List.replicate 16 (0:Int32)),h)
else
both (
(RD 16 1 16).bind λ_=>
(RD 16 0 16).bind λ_=>
j2 g b f a) [
(RD 16 0 16).bind λ_=>
(RD 16 1 16).bind λ_=>
j2 g b f a]
theorem JD: @Qk= @Tp:=by
  unfold Qk Tp
  repeat (refine funext λ_=>?_)
  repeat' first
    |with_reducible rfl
    |with_reducible refine Hx ?_ ?_
    |with_reducible refine Hn ?_ ?_ ?_
    |with_reducible refine Ia ?_ ?_ ?_ ?_
    |((with_reducible refine Kv ?_ ?_);focus (intro h;first|(subst h;rfl)|(simp only[h];rfl)|(simp[Dp,Ac,h];done)))
    |with_reducible refine Kn λx=>?_
    |with_reducible refine Qr (λ_=>?_) (λ_=>?_)
    |(refine Eo (λh=>by simp only[h,Kr,Dt,Dm,ite_self]) (λx h=>?_);(try simp only[h,Dt]))
    |(refine Fs (λh=>?_) (λh=>?_)<;>simp only[h,if_true,if_false,Bool.false_eq_true])
abbrev R_:=(Int×LX×LX×Int)
def H:Hd:=⟨[.agg [Si,.lf (.vec 16 (.int .i32)) none,.lf (.vec 16 (.int .i32)) none],Sx],[.agg [Si,.lf (.vec 16 (.int .i32)) none,.lf (.vec 16 (.int .i32)) none],Si],(.seq .d (.seq .d (.cut [1,2,4] [] .d .d))),⟨[(366,F366.c)],gl,false⟩,[],f368⟩
def x2(g:Int32)(b:Int)(f a:LX):Option R_:=H.e P_ [r,r,r] ⟨[(1,vx g),(2,.ptr 0 []),(4,.ptr 1 [])],[.box 279 (.agg [vi b,.val (.vec 16 (.int .i32)) f,.val (.vec 16 (.int .i32)) (Hj a (1:Int) ((16:Int)-(1:Int)) (Wp a (0:Int) ((16:Int)-(0:Int))))]),.box 279 (.agg [vi 0,.val (.vec 16 (.int .i32)) (List.replicate 16 (0:Int32)),.val (.vec 16 (.int .i32)) (List.replicate 16 (0:Int32))])],[]⟩
theorem e2:x2=GQ:=by kernel_rfl
def F:=u4 SV
theorem rn x:H.u P_ x=F x:=Eq.trans (b:=u4 (Qk x2) x) (by kernel_rfl) (by unfold F;rw[JD];simp only[e2]<;>rfl)
def c:Con:=⟨H.p,H.r,F⟩
theorem ok:ConOk P_ gl 368 c:=co H func368 (.cons F366.ok .nil) rn
end F368
namespace F345
def H:Hd:=⟨[.agg [Si,.lf (.vec 16 (.int .i32)) none,.lf (.vec 16 (.int .i32)) none],Sx,Sx],[.agg [Si,.lf (.vec 16 (.int .i32)) none,.lf (.vec 16 (.int .i32)) none]],.d,⟨[(367,F367.c),(368,F368.c)],gl,false⟩,[],f345⟩
def F:=u5 DL
theorem rn x:H.u P_ x=F x:=by kernel_rfl
def c:Con:=⟨H.p,H.r,F⟩
theorem ok:ConOk P_ gl 345 c:=co H func345 (.cons F367.ok (.cons F368.ok .nil)) rn
end F345
namespace F331
def H:Hd:=⟨[.agg [Si,.lf (.vec 16 (.int .i32)) none,.lf (.vec 16 (.int .i32)) none],Sx],[Sx,.agg [Si,.lf (.vec 16 (.int .i32)) none,.lf (.vec 16 (.int .i32)) none],Si],.d,⟨[(344,F344.c),(345,F345.c)],gl,false⟩,[],f331⟩
def F:=u4 AL
theorem rn x:H.u P_ x=F x:=by kernel_rfl
def c:Con:=⟨H.p,H.r,F⟩
theorem ok:ConOk P_ gl 331 c:=co H func331 (.cons F344.ok (.cons F345.ok .nil)) rn
end F331
namespace F269
def Jl(a:Int)(b:Int32)(f:Int)(g h:LX)(k:Int32):Option (Int32×Int×Int32×Int×LX×LX×Int):=
(Lb a b f g h).bind λm=>
if(Bl m 0)then
some (0,0,0,0,(List.replicate 16 (0:Int32)),(List.replicate 16 (0:Int32)),m)
else
(Ld a b).bind λ(n,y)=>
(AL f g h (Af k n)).bind λ(o,p,u,v,w)=>
bo (
some (o,a,k,p,u,v,w))
theorem Zl: @Jl= @Ko:=by
  unfold Jl Ko;simp only[LA,Wr,Zm]
def H:Hd:=⟨[.agg [Si,Sx,.agg [Si,.lf (.vec 16 (.int .i32)) none,.lf (.vec 16 (.int .i32)) none]],Sx],[Sx,.agg [Si,Sx,.agg [Si,.lf (.vec 16 (.int .i32)) none,.lf (.vec 16 (.int .i32)) none]],Si],(.seq .d (.seq .d (.seq .d (.seq .d (.seq (.mode false) .d))))),⟨[(287,F287.c),(288,F288.c),(331,F331.c)],gl,false⟩,[],f269⟩
def F:=u6 Ko
theorem rn x:H.u P_ x=F x:=Eq.trans (b:=u6 Jl x) (by kernel_rfl) (by rw[Zl];rfl)
def c:Con:=⟨H.p,H.r,F⟩
theorem ok:ConOk P_ gl 269 c:=co H func269 (.cons F287.ok (.cons F288.ok (.cons F331.ok .nil))) rn
end F269
namespace F270
def H:Hd:=⟨[Sx],[Su],.d,⟨[],gl,false⟩,[],f270⟩
def F:=RZ
theorem rn x:H.u P_ x=F x:=by kernel_rfl
def c:Con:=⟨H.p,H.r,F⟩
theorem ok:ConOk P_ gl 270 c:=co H func270 .nil rn
end F270
namespace F182
abbrev R_:=(LU×Int)
def H:Hd:=⟨[.agg [Si,Si],.lf (.vec 16 (.int .i32)) none,Sw],[Ov 43,Si],(.seq .d (.seq .d (.seq .d (.seq .d (.seq .d (.cut [3,9,11] [] (.seq .d (.blk (.loop [3,4,9,11,36] [] .d))) (.seq .d (.cut [13] [] (.seq .d (.blk (.loop [3,11,13,49,50,51] [⟨13,[],.own 43 (.int .u32)⟩] .d))) .d)))))))),⟨[(206,F206.c),(267,F267.c),(268,F268.c),(269,F269.c),(270,F270.c)],gl,false⟩,[],f182⟩
def t10(b:LX)(a f g:Int)(o:List (Int×Int32×(Int×LX×LX×Unit)×Unit))(k:LU):S:=⟨[(3,.ptr 0 []),(11,.ptr 1 []),(13,.own 2),(49,.own 3),(50,vi (Ac b)),(51,vi g)],[.box 104 (.agg [vi a,vi f]),.box 282 (.val (.vec 6 (.cons (.int .i64) (.cons (.int .i32) (.cons (.cons (.int .i64) (.cons (.vec 16 (.int .i32)) (.cons (.vec 16 (.int .i32)) .nil))) .nil)))) o),Av 43 k,Aw 21 b],[]⟩
def z10:Nat->S->Option R_:=H.i P_ [r,r,r,r,r,r,r,l,r,d]
def t7(a f:Int)(m b:LX)(n:Int)(h:List (Int×Int32×(Int×LX×LX×Unit)×Unit)):S:=⟨[(3,.ptr 0 []),(4,.ptr 1 []),(9,.own 2),(11,.ptr 3 []),(36,vi n)],[.box 104 (.agg [vi a,vi f]),.box 105 (.val (.vec 16 (.int .i32)) m),Aw 21 b,.box 282 (.val (.vec 6 (.cons (.int .i64) (.cons (.int .i32) (.cons (.cons (.int .i64) (.cons (.vec 16 (.int .i32)) (.cons (.vec 16 (.int .i32)) .nil))) .nil)))) h)],[]⟩
def z7:Nat->S->Option R_:=H.i P_ [r,r,r,r,r,l,r,d]
def x12(k:LU):Option R_:=H.e P_ [r,r,r,r,r,r,r,r] ⟨[(13,.own 0)],[Av 43 k],[]⟩
def x10(b:LX)(a f g:Int)(o:List (Int×Int32×(Int×LX×LX×Unit)×Unit))(k:LU):Option R_:=H.e P_ [r,r,r,r,r,r,r,l,r,d] (t10 b a f g o k)
def x9(a f:Int)(b:LX)(h:List (Int×Int32×(Int×LX×LX×Unit)×Unit)):Option R_:=H.e P_ [r,r,r,r,r,r] ⟨[(3,.ptr 0 []),(9,.own 1),(11,.ptr 2 [])],[.box 104 (.agg [vi a,vi f]),Aw 21 b,.box 282 (.val (.vec 6 (.cons (.int .i64) (.cons (.int .i32) (.cons (.cons (.int .i64) (.cons (.vec 16 (.int .i32)) (.cons (.vec 16 (.int .i32)) .nil))) .nil)))) h)],[]⟩
def x7(a f:Int)(m b:LX)(n:Int)(h:List (Int×Int32×(Int×LX×LX×Unit)×Unit)):Option R_:=H.e P_ [r,r,r,r,r,l,r,d] (t7 a f m b n h)
theorem e12:x12=Pc:=by kernel_rfl
theorem i10(b:LX)(a f:Int):∀(q:Nat) (g:Int) (o:List (Int×Int32×(Int×LX×LX×Unit)×Unit)) (k:LU),z10 q (t10 b a f g o k)=Iq b a f q g o k:=
 ind (λ_ _ _=>by kernel_rfl) λq ih g o k=>Eq.trans (b:=Oq x12 (λg o k=>(z10 q) (t10 b a f g o k)) b a f g o k) (by kernel_rfl) (by simp only[e12,ih]<;>rfl)
theorem e10:x10=Nd:=by funext b a f g o k;exact Eq.trans (by kernel_rfl) ((i10 b a f Bn g o k).trans (by rw[Al];rfl))
theorem e9:x9=Pm:=Eq.trans (b:=Pk x10) (by kernel_rfl) (by simp only[e10]<;>rfl)
theorem i7(a f:Int)(m b:LX):∀(q:Nat) (n:Int) (h:List (Int×Int32×(Int×LX×LX×Unit)×Unit)),z7 q (t7 a f m b n h)=Jj a f m b q n h:=
 ind (λ_ _=>by kernel_rfl) λq ih n h=>Eq.trans (b:=Pp x9 (λn h=>(z7 q) (t7 a f m b n h)) a f m b n h) (by kernel_rfl) (by simp only[e9,ih]<;>rfl)
theorem e7:x7=Qi:=by funext a f m b n h;exact Eq.trans (by kernel_rfl) ((i7 a f m b Bn n h).trans (by rw[Al];rfl))
def F:=u4 Xo
theorem rn x:H.u P_ x=F x:=Eq.trans (b:=u4 (Pw x7) x) (by kernel_rfl) (by simp only[e7]<;>rfl)
def c:Con:=⟨H.p,H.r,F⟩
theorem ok:ConOk P_ gl 182 c:=co H func182 (.cons F206.ok (.cons F267.ok (.cons F268.ok (.cons F269.ok (.cons F270.ok .nil))))) rn
end F182
namespace F201
def H:Hd:=⟨[],[.agg [Si,Si,Sq,Sq]],.d,⟨[],gl,false⟩,[],f201⟩
noncomputable def F(x:Unit):=EV
theorem rn x:H.u P_ x=F x:=by kernel_rfl
def c:Con:=⟨H.p,H.r,F⟩
theorem ok:ConOk P_ gl 201 c:=co H func201 .nil rn
end F201
namespace F183
abbrev R_:=((List (Int×Int×UInt64×UInt64×Unit)))
def H:Hd:=⟨[],[.lf (.vec 6 (.cons (.int .i64) (.cons (.int .i64) (.cons (.int .u64) (.cons (.int .u64) .nil))))) none],(.seq .d (.seq .d (.cut [0,1] [] (.seq .d (.blk (.loop [0,1,3] [] .d))) .d))),⟨[(201,F201.c)],gl,false⟩,[],f183⟩
def t4(b:Int)(a:List (Int×Int×UInt64×UInt64×Unit)):S:=⟨[(0,.ptr 0 []),(1,.ptr 1 []),(3,vi b)],[.box 255 (.val (.vec 6 (.cons (.int .i64) (.cons (.int .i64) (.cons (.int .u64) (.cons (.int .u64) .nil))))) (List.replicate 6 ((0:Int),(0:Int),(0:UInt64),(0:UInt64),()))),.box 255 (.val (.vec 6 (.cons (.int .i64) (.cons (.int .i64) (.cons (.int .u64) (.cons (.int .u64) .nil))))) a)],[]⟩
def z4:Nat->S->Option R_:=H.i P_ [r,r,l,r,d]
def x6(a:List (Int×Int×UInt64×UInt64×Unit)):Option R_:=H.e P_ [r,r,r] ⟨[(0,.ptr 0 []),(1,.ptr 1 [])],[.box 255 (.val (.vec 6 (.cons (.int .i64) (.cons (.int .i64) (.cons (.int .u64) (.cons (.int .u64) .nil))))) (List.replicate 6 ((0:Int),(0:Int),(0:UInt64),(0:UInt64),()))),.box 255 (.val (.vec 6 (.cons (.int .i64) (.cons (.int .i64) (.cons (.int .u64) (.cons (.int .u64) .nil))))) a)],[]⟩
def x4(b:Int)(a:List (Int×Int×UInt64×UInt64×Unit)):Option R_:=H.e P_ [r,r,l,r,d] (t4 b a)
theorem e6:x6=Qe:=by kernel_rfl
theorem i4:∀(q:Nat) (b:Int) (a:List (Int×Int×UInt64×UInt64×Unit)),z4 q (t4 b a)=Jg q b a:=
 ind (λ_ _=>by kernel_rfl) λq ih b a=>Eq.trans (b:=Qh x6 (λb a=>(z4 q) (t4 b a)) b a) (by kernel_rfl) (by simp only[e6,ih]<;>rfl)
theorem e4:x4=Qc:=by funext b a;exact Eq.trans (by kernel_rfl) ((i4 Bn b a).trans (by rw[Al];rfl))
noncomputable def F(x:Unit):=Yu
theorem rn x:H.u P_ x=F x:=Eq.trans (b:=Pu x4) (by kernel_rfl) (by simp only[e4]<;>rfl)
def c:Con:=⟨H.p,H.r,F⟩
theorem ok:ConOk P_ gl 183 c:=co H func183 (.cons F201.ok .nil) rn
end F183
namespace F204
def H:Hd:=⟨[.agg [Sb,Si]],[Si],.d,⟨[],gl,false⟩,[],f204⟩
def F:=u2 Ei
theorem rn x:H.u P_ x=F x:=by kernel_rfl
def c:Con:=⟨H.p,H.r,F⟩
theorem ok:ConOk P_ gl 204 c:=co H func204 .nil rn
end F204
namespace F271
def Nq(j4:Int->Int->UInt64->UInt64->Option Int)(a b:Int)(f g:UInt64):Option Int:=
both (
bo (
j4 a b f g)) [
j4 a b f g]
theorem FU: @Nq= @Qo:=by
  unfold Nq Qo
  repeat (refine funext λ_=>?_)
  repeat' first
    |with_reducible rfl
    |with_reducible refine Hx ?_ ?_
    |with_reducible refine Hn ?_ ?_ ?_
    |with_reducible refine Ia ?_ ?_ ?_ ?_
    |((with_reducible refine Kv ?_ ?_);focus (intro h;first|(subst h;rfl)|(simp only[h];rfl)|(simp[Dp,Ac,h];done)))
    |with_reducible refine Kn λx=>?_
    |with_reducible refine Qr (λ_=>?_) (λ_=>?_)
    |(refine Eo (λh=>by simp only[h,Kr,Dt,Dm,ite_self]) (λx h=>?_);(try simp only[h,Dt]))
    |(refine Fs (λh=>?_) (λh=>?_)<;>simp only[h,if_true,if_false,Bool.false_eq_true])
def Mt(j3:Int->Int->UInt64->UInt64->Option Int)(a b:Int)(f g:UInt64):Option Int:=
both (
bo (
j3 a b f g)) [
j3 a b f g]
theorem GK: @Mt= @Qt:=by
  unfold Mt Qt
  repeat (refine funext λ_=>?_)
  repeat' first
    |with_reducible rfl
    |with_reducible refine Hx ?_ ?_
    |with_reducible refine Hn ?_ ?_ ?_
    |with_reducible refine Ia ?_ ?_ ?_ ?_
    |((with_reducible refine Kv ?_ ?_);focus (intro h;first|(subst h;rfl)|(simp only[h];rfl)|(simp[Dp,Ac,h];done)))
    |with_reducible refine Kn λx=>?_
    |with_reducible refine Qr (λ_=>?_) (λ_=>?_)
    |(refine Eo (λh=>by simp only[h,Kr,Dt,Dm,ite_self]) (λx h=>?_);(try simp only[h,Dt]))
    |(refine Fs (λh=>?_) (λh=>?_)<;>simp only[h,if_true,if_false,Bool.false_eq_true])
abbrev R_:=Int
def H:Hd:=⟨[.agg [Si,Si,Sq,Sq]],[Si],(.seq .d (.seq .d (.cut [1,3] [] (.mode false) (.cut [1,3] [] (.mode false) .d)))),⟨[],gl,false⟩,[],f271⟩
def x4(a b:Int)(f g:UInt64):Option R_:=H.e P_ [r,r,r,r] ⟨[(1,.ptr 0 []),(3,.ptr 1 [])],[.box 254 (.agg [vi a,vi b,vq f,vq g]),.box 254 (.agg [vi (De (RJ a (0:Int)) (24:Int)),vi (De (RJ b (0:Int)) (24:Int)),vq (De f (68719476735:UInt64)),vq (De g (68719476735:UInt64))])],[]⟩
def x3(a b:Int)(f g:UInt64):Option R_:=H.e P_ [r,r,r] ⟨[(1,.ptr 0 []),(3,.ptr 1 [])],[.box 254 (.agg [vi a,vi b,vq f,vq g]),.box 254 (.agg [vi (De (RJ a (0:Int)) (24:Int)),vi (De (RJ b (0:Int)) (24:Int)),vq f,vq g])],[]⟩
theorem e4:x4=BI:=by kernel_rfl
theorem e3:x3=DF:=Eq.trans (b:=Nq x4) (by kernel_rfl) (by rw[FU];simp only[e4]<;>rfl)
def F:=u4 EH
theorem rn x:H.u P_ x=F x:=Eq.trans (b:=u4 (Mt x3) x) (by kernel_rfl) (by unfold F;rw[GK];simp only[e3]<;>rfl)
def c:Con:=⟨H.p,H.r,F⟩
theorem ok:ConOk P_ gl 271 c:=co H func271 .nil rn
end F271
namespace F272
def H:Hd:=⟨[.agg [Si,Si,Sq,Sq],Su],[Si,Su],.d,⟨[],gl,false⟩,[],f272⟩
def F:=u5 Ts
theorem rn x:H.u P_ x=F x:=by kernel_rfl
def c:Con:=⟨H.p,H.r,F⟩
theorem ok:ConOk P_ gl 272 c:=co H func272 .nil rn
end F272
namespace F200
def Ef(a:LB):Option (LB):=
TB a (
some ([]:LB)) (
(Dp ([]:LB) a).bind λb=>
some b)
theorem Lj: @Ef= @Cy:=by
  unfold Ef Cy
  repeat (refine funext λ_=>?_)
  repeat' first
    |with_reducible rfl
    |with_reducible refine Hx ?_ ?_
    |with_reducible refine Hn ?_ ?_ ?_
    |with_reducible refine Ia ?_ ?_ ?_ ?_
    |((with_reducible refine Kv ?_ ?_);focus (intro h;first|(subst h;rfl)|(simp only[h];rfl)|(simp[Dp,Ac,h];done)))
    |with_reducible refine Kn λx=>?_
    |with_reducible refine Qr (λ_=>?_) (λ_=>?_)
    |(refine Eo (λh=>by simp only[h,Kr,Dt,Dm,ite_self]) (λx h=>?_);(try simp only[h,Dt]))
    |(refine Fs (λh=>?_) (λh=>?_)<;>simp only[h,if_true,if_false,Bool.false_eq_true])
def H:Hd:=⟨[Sb],[Ob 5],.d,⟨[],gl,false⟩,[],f200⟩
def F:=Cy
theorem rn x:H.u P_ x=F x:=Eq.trans (b:=Ef x) (by kernel_rfl) (by rw[Lj];rfl)
def c:Con:=⟨H.p,H.r,F⟩
theorem ok:ConOk P_ gl 200 c:=co H func200 .nil rn
end F200
namespace F332
def H:Hd:=⟨[.agg [Sb,Si]],[.agg [Ob 5,Si]],.d,⟨[(200,F200.c)],gl,false⟩,[],f332⟩
def F:=u2 IM
theorem rn x:H.u P_ x=F x:=by kernel_rfl
def c:Con:=⟨H.p,H.r,F⟩
theorem ok:ConOk P_ gl 332 c:=co H func332 (.cons F200.ok .nil) rn
end F332
namespace F273
abbrev R_:=(LB×Int×Int)
abbrev K_:=S->Option R_
def H:Hd:=⟨[.agg [Sb,Si],Sq,Si],[.agg [Ob 5,Si],Si],(.seq .d (.seq .d (.seq .d (.cut [3,6] [] (.keep [1,2,3,6,40,41] true) .d)))),⟨[(204,F204.c),(332,F332.c)],gl,false⟩,[(284,(.blk (.loop [0,1,2] [] (.seq .d (.blk (.cut [0,1,2] [] .d (.seq .d (.cut [0,1,2,7] [] .d .d))))))))],f273⟩
def t15(b:UInt64)(a:Int)(m:UInt64)(h f:Int)(o:LB):S:=⟨[(0,.ptr 0 []),(1,vq m),(2,vi h)],[.box 183 (.agg [.own 2,vi f]),.box 183 (.agg [.nils,vi 0]),Ab 5 o],[[(1,vq b),(2,vi a),(3,.ptr 0 []),(6,.ptr 1 []),(40,vq b),(41,vi a)]]⟩
def z15:Nat->S->Option R_:=H.i P_ [r,r,r,l,(call 2 284),d]
def t22(b:UInt64)(a:Int)(n:UInt64)(k g:Int)(p:LB):S:=⟨[(0,.ptr 0 []),(1,vq n),(2,vi k)],[.box 183 (.agg [.own 2,vi g]),.box 183 (.agg [.nils,vi 0]),Ab 5 p],[[(1,vq b),(2,vi a),(3,.ptr 0 []),(6,.ptr 1 []),(40,vq b),(41,vi a)]]⟩
def z22:Nat->S->Option R_:=H.i P_ [r,r,r,l,(call 2 284),d]
def x21(f:Int)(o:LB):Option R_:=H.e P_ [r,r,r,r] ⟨[(3,.ptr 0 []),(6,.ptr 1 [])],[.box 183 (.agg [.own 2,vi f]),.box 183 (.agg [.nils,vi 0]),Ab 5 o],[]⟩
def x19(RQ:K_)(b:UInt64)(a:Int)(m:UInt64)(h f:Int)(w:LB):Option R_:=H.e P_ [r,r,r,l,(call 2 284),d,(lp RQ),r,d,r,r,r] ⟨[(0,.ptr 0 []),(1,vq m),(2,vi h),(7,vi (De h (Af (8:Int) (Cp f (7:Int)))))],[.box 183 (.agg [.own 2,vi f]),.box 183 (.agg [.nils,vi 0]),Ab 5 w],[[(1,vq b),(2,vi a),(3,.ptr 0 []),(6,.ptr 1 []),(40,vq b),(41,vi a)]]⟩
def x18(RQ:K_)(b:UInt64)(a:Int)(m:UInt64)(h f:Int)(u:LB):Option R_:=H.e P_ [r,r,r,l,(call 2 284),d,(lp RQ),r,d,r] ⟨[(0,.ptr 0 []),(1,vq m),(2,vi h)],[.box 183 (.agg [.own 2,vi f]),.box 183 (.agg [.nils,vi 0]),Ab 5 u],[[(1,vq b),(2,vi a),(3,.ptr 0 []),(6,.ptr 1 []),(40,vq b),(41,vi a)]]⟩
def x15(b:UInt64)(a:Int)(m:UInt64)(h f:Int)(o:LB):Option R_:=H.e P_ [r,r,r,l,(call 2 284),d] (t15 b a m h f o)
def x28(g:Int)(p:LB):Option R_:=H.e P_ [r,r,r,r] ⟨[(3,.ptr 0 []),(6,.ptr 1 [])],[.box 183 (.agg [.own 2,vi g]),.box 183 (.agg [.nils,vi 0]),Ab 5 p],[]⟩
def x26(Gu:K_)(b:UInt64)(a:Int)(n:UInt64)(k g:Int)(y:LB):Option R_:=H.e P_ [r,r,r,l,(call 2 284),d,(lp Gu),r,d,r,r,r] ⟨[(0,.ptr 0 []),(1,vq n),(2,vi k),(7,vi (De k (Af (8:Int) (Cp g (7:Int)))))],[.box 183 (.agg [.own 2,vi g]),.box 183 (.agg [.nils,vi 0]),Ab 5 y],[[(1,vq b),(2,vi a),(3,.ptr 0 []),(6,.ptr 1 []),(40,vq b),(41,vi a)]]⟩
def x25(Gu:K_)(b:UInt64)(a:Int)(n:UInt64)(k g:Int)(v:LB):Option R_:=H.e P_ [r,r,r,l,(call 2 284),d,(lp Gu),r,d,r] ⟨[(0,.ptr 0 []),(1,vq n),(2,vi k)],[.box 183 (.agg [.own 2,vi g]),.box 183 (.agg [.nils,vi 0]),Ab 5 v],[[(1,vq b),(2,vi a),(3,.ptr 0 []),(6,.ptr 1 []),(40,vq b),(41,vi a)]]⟩
def x22(b:UInt64)(a:Int)(n:UInt64)(k g:Int)(p:LB):Option R_:=H.e P_ [r,r,r,l,(call 2 284),d] (t22 b a n k g p)
theorem e21:x21=FK:=by kernel_rfl
theorem e19(RQ:K_)(b:UInt64)(a:Int):x19 RQ b a=HQ (λm h f o=>RQ (t15 b a m h f o)) b a:=by kernel_rfl
theorem e18(RQ:K_)(b:UInt64)(a:Int):x18 RQ b a=FY (λm h f o=>RQ (t15 b a m h f o)) b a:=Eq.trans (b:=GR (x19 RQ b a) b a) (by kernel_rfl) (by simp only[e19]<;>rfl)
theorem i15(b:UInt64)(a:Int):∀(q:Nat) (m:UInt64) (h f:Int) (o:LB),z15 q (t15 b a m h f o)=Tf b a q m h f o:=
 ind (λ_ _ _ _=>by kernel_rfl) λq ih m h f o=>Eq.trans (b:=GB (x18 (z15 q) b a) x21 b a m h f o) (by kernel_rfl) (by simp only[e18,e21,ih]<;>rfl)
theorem e15:x15=HL:=by funext b a m h f o;exact Eq.trans (by kernel_rfl) ((i15 b a Bn m h f o).trans (by rw[Al];rfl))
theorem e28:x28=HK:=by kernel_rfl
theorem e26(Gu:K_)(b:UInt64)(a:Int):x26 Gu b a=FX (λn k g p=>Gu (t22 b a n k g p)) b a:=by kernel_rfl
theorem e25(Gu:K_)(b:UInt64)(a:Int):x25 Gu b a=GN (λn k g p=>Gu (t22 b a n k g p)) b a:=Eq.trans (b:=FJ (x26 Gu b a) b a) (by kernel_rfl) (by simp only[e26]<;>rfl)
theorem i22(b:UInt64)(a:Int):∀(q:Nat) (n:UInt64) (k g:Int) (p:LB),z22 q (t22 b a n k g p)=Tm b a q n k g p:=
 ind (λ_ _ _ _=>by kernel_rfl) λq ih n k g p=>Eq.trans (b:=EZ (x25 (z22 q) b a) x28 b a n k g p) (by kernel_rfl) (by simp only[e25,e28,ih]<;>rfl)
theorem e22:x22=GH:=by funext b a n k g p;exact Eq.trans (by kernel_rfl) ((i22 b a Bn n k g p).trans (by rw[Al];rfl))
def F:=u4 Zd
theorem rn x:H.u P_ x=F x:=Eq.trans (b:=u4 (JW x15 x22) x) (by kernel_rfl) (by simp only[e15,e22]<;>rfl)
def c:Con:=⟨H.p,H.r,F⟩
theorem ok:ConOk P_ gl 273 c:=cr H func273 (.cons F204.ok (.cons F332.ok .nil)) (Bt.cons ent284 Bt.nil) rn
end F273
namespace F333
def H:Hd:=⟨[Su,Si],[Sz],.d,⟨[],gl,false⟩,[],f333⟩
def F:=u2 Tz
theorem rn x:H.u P_ x=F x:=by kernel_rfl
def c:Con:=⟨H.p,H.r,F⟩
theorem ok:ConOk P_ gl 333 c:=co H func333 .nil rn
end F333
namespace F363
def H:Hd:=⟨[Si],[Si,Si],.d,⟨[],gl,false⟩,[],f363⟩
def F:=HE
theorem rn x:H.u P_ x=F x:=by kernel_rfl
def c:Con:=⟨H.p,H.r,F⟩
theorem ok:ConOk P_ gl 363 c:=co H func363 .nil rn
end F363
namespace F334
def H:Hd:=⟨[.agg [Sb,Si],Si],[.agg [Ob 5,Si],Si],.d,⟨[(204,F204.c),(273,F273.c),(363,F363.c)],gl,false⟩,[],f334⟩
def F:=u3 KV
theorem rn x:H.u P_ x=F x:=by kernel_rfl
def c:Con:=⟨H.p,H.r,F⟩
theorem ok:ConOk P_ gl 334 c:=co H func334 (.cons F204.ok (.cons F273.ok (.cons F363.ok .nil))) rn
end F334
namespace F274
abbrev R_:=(LB×Int×Int)
def H:Hd:=⟨[.agg [Sb,Si],Su,Si],[.agg [Ob 5,Si],Si],(.seq .d (.seq .d (.seq .d (.seq .d (.cut [3,6,9,10,11] [] .d .d))))),⟨[(204,F204.c),(273,F273.c),(333,F333.c),(334,F334.c)],gl,false⟩,[],f274⟩
def x2(b:LB)(f h:Int)(k:UInt32)(m:Int):Option R_:=H.e P_ [r,r,r,r,r] ⟨[(3,.ptr 0 []),(6,.ptr 1 []),(9,vi h),(10,vu k),(11,vi m)],[.box 183 (.agg [vb b,vi f]),.box 183 (.agg [.nils,vi 0])],[]⟩
theorem e2:x2=CV:=by kernel_rfl
def F:=u4 OW
theorem rn x:H.u P_ x=F x:=Eq.trans (b:=u4 (BL x2) x) (by kernel_rfl) (by simp only[e2]<;>rfl)
def c:Con:=⟨H.p,H.r,F⟩
theorem ok:ConOk P_ gl 274 c:=co H func274 (.cons F204.ok (.cons F273.ok (.cons F333.ok (.cons F334.ok .nil)))) rn
end F274
namespace F184
def Lw(k u n:Int)(a:UInt64)(b:UInt32)(o:UInt64)(m:LB):Option (LB×Int×Int×Int×UInt64×UInt64×Int):=
(λaf:Option (LB×Int×Int×Int×UInt64×UInt64×Int)=>
both (
bo (
af)) [
af]) (
some (m,k,u,n,(Aa a (Af (Am b:UInt64) (Bp a (GI.toZ (4:UInt64)).toNat))),o,0))
theorem DZ: @Lw= @Pd:=by
  unfold Lw Pd
  try simp only[LA,Wr,Zm]
  all_goals
    repeat (refine funext λ_=>?_)
    repeat' first
      |with_reducible rfl
      |with_reducible refine Hx ?_ ?_
      |with_reducible refine Hn ?_ ?_ ?_
      |with_reducible refine Ia ?_ ?_ ?_ ?_
      |((with_reducible refine Kv ?_ ?_);focus (intro h;first|(subst h;rfl)|(simp only[h];rfl)|(simp[Dp,Ac,h];done)))
      |with_reducible refine Kn λx=>?_
      |with_reducible refine Qr (λ_=>?_) (λ_=>?_)
      |(refine Eo (λh=>by simp only[h,Kr,Dt,Dm,ite_self]) (λx h=>?_);(try simp only[h,Dt]))
      |(refine Fs (λh=>?_) (λh=>?_)<;>simp only[h,if_true,if_false,Bool.false_eq_true])
abbrev R_:=(LB×Int×Int×Int×UInt64×UInt64×Int)
def H:Hd:=⟨[.agg [Sb,Si],.agg [Si,Si,Sq,Sq],Su],[.agg [Ob 5,Si],.agg [Si,Si,Sq,Sq],Si],(.seq .d (.cut [2,3,4,6,7] [] .d (.seq .d (.seq .d (.cut [2,3,4,6,7,11] [] .d (.seq .d (.cut [3,4,6,7] [] (.keep [2,3,4,6,7,65] true) (.seq (.mode false) .d)))))))),⟨[(204,F204.c),(271,F271.c),(272,F272.c),(273,F273.c),(274,F274.c)],gl,false⟩,[(275,(.seq .d (.seq .d (.seq .d (.blk (.cut [0,1,4] [] (.blk (.seq .d (.keep [0,1,4,6,18,19,20,21,22,23,24,25] true))) (.cut [] [] (.keep [0,1,4,27,28,29,30,31,32,33,34] true) .d))))))),(335,.d)],f184⟩
def x10(k u n:Int)(a:UInt64)(b:UInt32)(o:UInt64)(m:LB):Option R_:=H.e P_ [r,r,r,r,r,r,r] ⟨[(3,.ptr 0 []),(4,.ptr 1 []),(6,.ptr 2 []),(7,.ptr 3 [])],[.box 183 (.agg [.own 4,vi k]),.box 254 (.agg [vi u,vi n,vq (Aa a (Af (Am b:UInt64) (Bp a (GI.toZ (4:UInt64)).toNat))),vq o]),.box 183 (.agg [.nils,vi 0]),.box 254 (.agg [vi 0,vi 0,vq 0,vq 0]),Ab 5 m],[]⟩
def x9(b:UInt32)(k n:Int)(a o:UInt64)(m:LB)(u:Int):Option R_:=H.e P_ [r,r,r,r,r,r,l,(call 1 275),r,r,r,d,r,r] ⟨[],[.box 183 (.agg [.own 4,vi k]),.box 254 (.agg [vi u,vi n,vq (Aa a (Af (Am b:UInt64) (Bp a (GI.toZ (4:UInt64)).toNat))),vq o]),.box 183 (.agg [.nils,vi 0]),.box 254 (.agg [vi 0,vi 0,vq 0,vq 0]),Ab 5 m],[[(2,vu b),(3,.ptr 0 []),(4,.ptr 1 []),(6,.ptr 2 []),(7,.ptr 3 []),(65,vu b)]]⟩
def x8(b:UInt32)(f:Int)(a:UInt64)(k:Int)(m:LB)(n:Int)(o:UInt64):Option R_:=H.e P_ [r,r,r,r,r,r,l,(call 1 275),r,r,r,d,r] ⟨[(0,.ptr 0 []),(1,vu b),(4,.fn 335 [])],[.box 254 (.agg [vi f,vi n,vq a,vq o]),.box 183 (.agg [.own 4,vi k]),.box 183 (.agg [.nils,vi 0]),.box 254 (.agg [vi 0,vi 0,vq 0,vq 0]),Ab 5 m],[[(2,vu b),(3,.ptr 1 []),(4,.ptr 0 []),(6,.ptr 2 []),(7,.ptr 3 []),(65,vu b)]]⟩
def x7(b:UInt32)(f h:Int)(a g:UInt64)(y k:Int)(m:LB):Option R_:=H.e P_ [r,r,r,r,r] ⟨[(2,vu b),(3,.ptr 0 []),(4,.ptr 1 []),(6,.ptr 2 []),(7,.ptr 3 []),(11,vi y)],[.box 183 (.agg [.own 4,vi k]),.box 254 (.agg [vi f,vi h,vq a,vq g]),.box 183 (.agg [.nils,vi 0]),.box 254 (.agg [vi 0,vi 0,vq 0,vq 0]),Ab 5 m],[]⟩
def x6(b:UInt32)(v:LB)(w f h:Int)(a g:UInt64):Option R_:=H.e P_ [r,r] ⟨[(2,vu b),(3,.ptr 0 []),(4,.ptr 1 []),(6,.ptr 2 []),(7,.ptr 3 [])],[.box 183 (.agg [vb v,vi w]),.box 254 (.agg [vi f,vi h,vq a,vq g]),.box 183 (.agg [.nils,vi 0]),.box 254 (.agg [vi 0,vi 0,vq 0,vq 0])],[]⟩
theorem e10:x10=AA:=Eq.trans (b:=Lw) (by kernel_rfl) (by rw[DZ];rfl)
theorem e9:x9=DA:=Eq.trans (b:=CQ x10) (by kernel_rfl) (by simp only[e10]<;>rfl)
theorem e8:x8=BQ:=Eq.trans (b:=BN x9) (by kernel_rfl) (by simp only[e9]<;>rfl)
theorem e7:x7=CT:=Eq.trans (b:=BJ x8) (by kernel_rfl) (by simp only[e8]<;>rfl)
theorem e6:x6=BO:=Eq.trans (b:=DD x7) (by kernel_rfl) (by simp only[e7]<;>rfl)
def F:=u7 OI
theorem rn x:H.u P_ x=F x:=Eq.trans (b:=u7 (DH x6) x) (by kernel_rfl) (by simp only[e6]<;>rfl)
def c:Con:=⟨H.p,H.r,F⟩
theorem ok:ConOk P_ gl 184 c:=cr H func184 (.cons F204.ok (.cons F271.ok (.cons F272.ok (.cons F273.ok (.cons F274.ok .nil))))) (Bt.cons ent275 (Bt.cons ent335 Bt.nil)) rn
end F184
namespace F188
abbrev R_:=(UInt32×Int)
abbrev K_:=S->Option R_
def H:Hd:=⟨[Su,Sb],[Su,Si],(.seq .d (.seq .d (.cut [0,1,6] [] (.keep [0,1,6,12] true) (.cut [0] [] (.seq .d (.blk (.loop [0,6,13,14,15] [] .d))) .d)))),⟨[],gl,false⟩,[(277,(.seq .d (.seq .d (.cut [1] [] (.seq .d (.blk (.loop [1,5] [] (.seq .d (.seq .d (.cut [1,5] [] (.blk (.seq .d (.seq .d (.cut [1,2,3,5] [] (.seq .d (.blk (.loop [1,2,3,5,10] [] .d))) .d)))) .d)))))) .d))))],f188⟩
def t28(a:LB)(b:LU)(h:UInt32)(m:Int):S:=⟨[(0,vu h),(6,.ptr 0 []),(13,vb a),(14,vi (Ac a)),(15,vi m)],[.box 407 (.val (.vec 256 (.int .u32)) b)],[]⟩
def z28:Nat->S->Option R_:=H.i P_ [r,r,r,l,r,d]
def t21(f:UInt32)(a:LB)(g:Int)(b:LU)(k:UInt32)(n:Int):S:=⟨[(1,.ptr 0 []),(2,vi g),(3,vu k),(5,vi g),(10,vi n)],[.box 407 (.val (.vec 256 (.int .u32)) b)],[[(0,vu f),(1,vb a)]]⟩
def z21(Bm:K_):Nat->S->Option R_:=H.i P_ [r,r,l,(call 0 277),r,r,l,r,d,(lp Bm),r,r,l,d,r,r,l,r,d]
def t16(f:UInt32)(a:LB)(g:Int)(b:LU):S:=⟨[(1,.ptr 0 []),(5,vi g)],[.box 407 (.val (.vec 256 (.int .u32)) b)],[[(0,vu f),(1,vb a)]]⟩
def z16:Nat->S->Option R_:=H.i P_ [r,r,l,(call 0 277),r,r,l,r,d]
def x30(h:UInt32):Option R_:=H.e P_ [r,r,r,r] ⟨[(0,vu h)],[],[]⟩
def x28(a:LB)(b:LU)(h:UInt32)(m:Int):Option R_:=H.e P_ [r,r,r,l,r,d] (t28 a b h m)
def x27(f:UInt32)(a:LB)(b:LU):Option R_:=H.e P_ [r,r,r] ⟨[(0,vu f),(1,vb a),(6,.ptr 0 [])],[.box 407 (.val (.vec 256 (.int .u32)) b)],[]⟩
def x26(f:UInt32)(a:LB)(b:LU):Option R_:=H.e P_ [r,r,l,(call 0 277),r,r,r] ⟨[(1,.ptr 0 [])],[.box 407 (.val (.vec 256 (.int .u32)) b)],[[(0,vu f),(1,vb a)]]⟩
def x24(Bm:K_)(f:UInt32)(a:LB)(g:Int)(o:LU):Option R_:=H.e P_ [r,r,l,(call 0 277),r,r,l,r,d,(lp Bm),r,r,r] ⟨[(1,.ptr 0 []),(5,vi g)],[.box 407 (.val (.vec 256 (.int .u32)) o)],[[(0,vu f),(1,vb a)]]⟩
def x23(Bm:K_)(f:UInt32)(a:LB)(g:Int)(k:UInt32)(b:LU):Option R_:=H.e P_ [r,r,l,(call 0 277),r,r,l,r,d,(lp Bm),r,r,l,d,r,r,r] ⟨[(1,.ptr 0 []),(2,vi g),(3,vu k),(5,vi g)],[.box 407 (.val (.vec 256 (.int .u32)) b)],[[(0,vu f),(1,vb a)]]⟩
def x21(Bm:K_)(f:UInt32)(a:LB)(g:Int)(b:LU)(k:UInt32)(n:Int):Option R_:=H.e P_ [r,r,l,(call 0 277),r,r,l,r,d,(lp Bm),r,r,l,d,r,r,l,r,d] (t21 f a g b k n)
def x16(f:UInt32)(a:LB)(g:Int)(b:LU):Option R_:=H.e P_ [r,r,l,(call 0 277),r,r,l,r,d] (t16 f a g b)
theorem e30:x30=Xn:=by kernel_rfl
theorem i28(a:LB)(b:LU):∀(q:Nat) (h:UInt32) (m:Int),z28 q (t28 a b h m)=Np a b q h m:=
 ind (λ_ _=>by kernel_rfl) λq ih h m=>Eq.trans (b:=Zn x30 (λh m=>(z28 q) (t28 a b h m)) a b h m) (by kernel_rfl) (by simp only[e30,ih]<;>rfl)
theorem e28:x28=Yl:=by funext a b h m;exact Eq.trans (by kernel_rfl) ((i28 a b Bn h m).trans (by rw[Al];rfl))
theorem e27:x27=Xv:=Eq.trans (b:=Xy x28) (by kernel_rfl) (by simp only[e28]<;>rfl)
theorem e26:x26=Yd:=Eq.trans (b:=Xq x27) (by kernel_rfl) (by simp only[e27]<;>rfl)
theorem e24(Bm:K_)(f:UInt32)(a:LB):x24 Bm f a=Zr (λg b=>Bm (t16 f a g b)) f a:=by kernel_rfl
theorem e23(Bm:K_)(f:UInt32)(a:LB):x23 Bm f a=Xx (λg b=>Bm (t16 f a g b)) f a:=Eq.trans (b:=Yj (x24 Bm f a) f a) (by kernel_rfl) (by simp only[e24]<;>rfl)
theorem i21(Bm:K_)(f:UInt32)(a:LB)(g:Int)(b:LU):∀(q:Nat) (k:UInt32) (n:Int),z21 Bm q (t21 f a g b k n)=Nb (λg b=>Bm (t16 f a g b)) f a g b q k n:=
 ind (λ_ _=>by kernel_rfl) λq ih k n=>Eq.trans (b:=Xi (x23 Bm f a) (λk n=>(z21 Bm q) (t21 f a g b k n)) f a g b k n) (by kernel_rfl) (by simp only[e23,ih]<;>rfl)
theorem e21(Bm:K_)(f:UInt32)(a:LB):x21 Bm f a=Ww (λg b=>Bm (t16 f a g b)) f a:=by funext g b k n;exact Eq.trans (by kernel_rfl) ((i21 Bm f a g b Bn k n).trans (by rw[Al];rfl))
theorem i16(f:UInt32)(a:LB):∀(q:Nat) (g:Int) (b:LU),z16 q (t16 f a g b)=Mz f a q g b:=
 ind (λ_ _=>by kernel_rfl) λq ih g b=>Eq.trans (b:=Zo (x21 (z16 q) f a) x26 f a g b) (by kernel_rfl) (by simp only[e21,e26,ih]<;>rfl)
theorem e16:x16=Xk:=by funext f a g b;exact Eq.trans (by kernel_rfl) ((i16 f a Bn g b).trans (by rw[Al];rfl))
def F:=u2 QP
theorem rn x:H.u P_ x=F x:=Eq.trans (b:=u2 (CE x16) x) (by kernel_rfl) (by simp only[e16]<;>rfl)
def c:Con:=⟨H.p,H.r,F⟩
theorem ok:ConOk P_ gl 188 c:=cr H func188 .nil (Bt.cons ent277 Bt.nil) rn
end F188
namespace F104
def H:Hd:=⟨[Sb],[Su,Si],.d,⟨[(188,F188.c)],gl,false⟩,[],f104⟩
def F:=Ka
theorem rn x:H.u P_ x=F x:=by kernel_rfl
def c:Con:=⟨H.p,H.r,F⟩
theorem ok:ConOk P_ gl 104 c:=co H func104 (.cons F188.ok .nil) rn
end F104
namespace F187
def H:Hd:=⟨[Sq,Si],[Sz],.d,⟨[],gl,false⟩,[],f187⟩
def F:=u2 bI
theorem rn x:H.u P_ x=F x:=by kernel_rfl
def c:Con:=⟨H.p,H.r,F⟩
theorem ok:ConOk P_ gl 187 c:=co H func187 .nil rn
end F187
namespace F103
abbrev R_:=(LB×Int)
def H:Hd:=⟨[Sq,Si],[Ob 5,Si],(.seq .d (.seq .d (.seq .d (.seq .d (.cut [6] [] (.seq .d (.blk (.loop [0,6,21,22] [] .d))) .d))))),⟨[(187,F187.c)],gl,false⟩,[],f103⟩
def t4(f:UInt64)(g:LB)(b:Int)(a:LB):S:=⟨[(0,vq f),(6,.own 0),(21,vi (Ac g)),(22,vi b)],[Ab 5 a],[]⟩
def z4:Nat->S->Option R_:=H.i P_ [r,r,r,r,l,r,d]
def x6(a:LB):Option R_:=H.e P_ [r,r,r,r,r] ⟨[(6,.own 0)],[Ab 5 a],[]⟩
def x4(f:UInt64)(g:LB)(b:Int)(a:LB):Option R_:=H.e P_ [r,r,r,r,l,r,d] (t4 f g b a)
theorem e6:x6=JS:=by kernel_rfl
theorem i4(f:UInt64)(g:LB):∀(q:Nat) (b:Int) (a:LB),z4 q (t4 f g b a)=Yv f g q b a:=
 ind (λ_ _=>by kernel_rfl) λq ih b a=>Eq.trans (b:=KB x6 (λb a=>(z4 q) (t4 f g b a)) f g b a) (by kernel_rfl) (by simp only[e6,ih]<;>rfl)
theorem e4:x4=KN:=by funext f g b a;exact Eq.trans (by kernel_rfl) ((i4 f g Bn b a).trans (by rw[Al];rfl))
def F:=u2 Ky
theorem rn x:H.u P_ x=F x:=Eq.trans (b:=u2 (KJ x4) x) (by kernel_rfl) (by simp only[e4]<;>rfl)
def c:Con:=⟨H.p,H.r,F⟩
theorem ok:ConOk P_ gl 103 c:=co H func103 (.cons F187.ok .nil) rn
end F103
namespace F186
abbrev R_:=LB
def H:Hd:=⟨[.lf (.list (.list (.int .u8))) none],[Ob 5],(.seq .d (.seq .d (.cut [0,3] [] (.seq .d (.blk (.loop [0,3,9,10,11] [] .d))) (.cut [0,6] [⟨6,[],.own 5 (.int .u8)⟩] (.keep [0,3,6,23,24] true) (.cut [6] [] (.seq .d (.blk (.loop [6,25,26,27] [] .d))) .d))))),⟨[],gl,true⟩,[(276,(.seq .d (.cut [0,1] [] .d .d)))],f186⟩
def t14(a:List LB)(g:Int)(f:LB):S:=⟨[(6,.own 0),(25,.val (.list (.list (.int .u8))) a),(26,vi (Ac a)),(27,vi g)],[Ab 5 f],[]⟩
def z14:Nat->S->Option R_:=H.i P_ [r,r,r,r,l,r,d]
def t9(a:List LB)(b h:Int):S:=⟨[(0,.val (.list (.list (.int .u8))) a),(3,vi b),(9,.val (.list (.list (.int .u8))) a),(10,vi (Ac a)),(11,vi h)],[],[]⟩
def z9:Nat->S->Option R_:=H.i P_ [r,r,l,r,d]
def x16(f:LB):Option R_:=H.e P_ [r,r,r,r,r] ⟨[(6,.own 0)],[Ab 5 f],[]⟩
def x14(a:List LB)(g:Int)(f:LB):Option R_:=H.e P_ [r,r,r,r,l,r,d] (t14 a g f)
def x13(a:List LB)(k:LB):Option R_:=H.e P_ [r,r,r,r] ⟨[(0,.val (.list (.list (.int .u8))) a),(6,.own 0)],[Ab 5 k],[]⟩
def x12(b:Int)(a:List LB):Option R_:=H.e P_ [r,r,r,l,(call 1 276),r,r] ⟨[(0,.nils),(1,vi b)],[],[[(0,.val (.list (.list (.int .u8))) a),(3,vi b),(23,vi b)]]⟩
def x11(a:List LB)(b:Int):Option R_:=H.e P_ [r,r,r] ⟨[(0,.val (.list (.list (.int .u8))) a),(3,vi b)],[],[]⟩
def x9(a:List LB)(b h:Int):Option R_:=H.e P_ [r,r,l,r,d] (t9 a b h)
theorem e16:x16=Fx:=by kernel_rfl
theorem i14(a:List LB):∀(q:Nat) (g:Int) (f:LB),z14 q (t14 a g f)=Ea a q g f:=
 ind (λ_ _=>by kernel_rfl) λq ih g f=>Eq.trans (b:=Fy x16 (λg f=>(z14 q) (t14 a g f)) a g f) (by kernel_rfl) (by simp only[e16,ih]<;>rfl)
theorem e14:x14=Fw:=by funext a g f;exact Eq.trans (by kernel_rfl) ((i14 a Bn g f).trans (by rw[Al];rfl))
theorem e13:x13=Gd:=Eq.trans (b:=Gb x14) (by kernel_rfl) (by simp only[e14]<;>rfl)
theorem e12:x12=Gf:=Eq.trans (b:=Ge x13) (by kernel_rfl) (by simp only[e13]<;>rfl)
theorem e11:x11=Gg:=Eq.trans (b:=Gc x12) (by kernel_rfl) (by simp only[e12]<;>rfl)
theorem i9(a:List LB):∀(q:Nat) (b h:Int),z9 q (t9 a b h)=Eh a q b h:=
 ind (λ_ _=>by kernel_rfl) λq ih b h=>Eq.trans (b:=Gm x11 (λb h=>(z9 q) (t9 a b h)) a b h) (by kernel_rfl) (by simp only[e11,ih]<;>rfl)
theorem e9:x9=Gj:=by funext a b h;exact Eq.trans (by kernel_rfl) ((i9 a Bn b h).trans (by rw[Al];rfl))
def F:=Jd
theorem rn x:H.u P_ x=F x:=Eq.trans (b:=Gs x9 x) (by kernel_rfl) (by simp only[e9]<;>rfl)
def c:Con:=⟨H.p,H.r,F⟩
theorem ok:ConOk P_ gl 186 c:=cr H func186 .nil (Bt.cons ent276 Bt.nil) rn
end F186
namespace F100
abbrev R_:=(LB×Int)
abbrev K_:=S->Option R_
def H:Hd:=⟨[.agg [Si,Si],.lf (.vec 16 (.int .i32)) none,Sw],[Ob 5,Si],(.seq .d (.seq .d (.seq .d (.seq .d (.seq .d (.cut [11] [] (.seq .d (.blk (.loop [3,10,11,30,31,32] [⟨11,[0],.own 5 (.int .u8)⟩] (.seq .d (.seq .d (.cut [3,10,11,30,31,32] [] (.blk (.seq .d (.seq .d (.seq .d (.seq .d (.keep [3,10,11,14,30,31,32,59] true)))))) .d)))))) .d)))))),⟨[(103,F103.c),(104,F104.c),(182,F182.c),(183,F183.c),(184,F184.c),(186,F186.c)],gl,false⟩,[(185,(.seq .d (.seq .d (.blk (.loop [0,3,7,8] [] (.seq .d (.seq .d (.seq (.blk (.seq .d (.cut [0,3,4,7,8] [] .d (.seq .d (.cut [0,3,7,8] [] .d .d))))) .d))))))))],f100⟩
def t44(a:LU)(b f h g:Int)(k:List (Int×Int×UInt64×UInt64×Unit))(m:LB)(o n:Int)(v:LB):S:=⟨[(0,.ptr 0 []),(3,.ptr 1 []),(7,vi h),(8,vi o)],[.box 183 (.agg [.own 7,vi n]),.box 183 (.agg [.own 6,vi h]),.box 104 (.agg [vi b,vi f]),.box 255 (.val (.vec 6 (.cons (.int .i64) (.cons (.int .i64) (.cons (.int .u64) (.cons (.int .u64) .nil))))) k),.box 183 (.agg [.own 6,vi h]),Av 43 a,Ab 5 m,Ab 5 v],[[(3,.ptr 2 []),(10,.ptr 3 []),(11,.ptr 0 []),(14,.ptr 4 []),(30,.own 5),(31,vi (Ac a)),(32,vi g),(59,.agg [.own 6,vi h])]]⟩
def z44(Dk:K_):Nat->S->Option R_:=H.i P_ [r,r,r,r,r,l,r,d,(lp Dk),r,r,l,d,r,r,r,r,(call 1 185),r,r,d]
def t27(a:LU)(b f g:Int)(w:List (Int×Int×UInt64×UInt64×Unit))(u:Int)(p:LB):S:=⟨[(3,.ptr 0 []),(10,.ptr 1 []),(11,.ptr 2 []),(30,.own 3),(31,vi (Ac a)),(32,vi g)],[.box 104 (.agg [vi b,vi f]),.box 255 (.val (.vec 6 (.cons (.int .i64) (.cons (.int .i64) (.cons (.int .u64) (.cons (.int .u64) .nil))))) w),.box 183 (.agg [.own 4,vi u]),Av 43 a,Ab 5 p],[]⟩
def z27:Nat->S->Option R_:=H.i P_ [r,r,r,r,r,l,r,d]
def x52(u:Int)(p:LB):Option R_:=H.e P_ [r,r,r,r,r,r] ⟨[(11,.ptr 0 [])],[.box 183 (.agg [.own 1,vi u]),Ab 5 p],[]⟩
def x50(Dk:K_)(a:LU)(b f g:Int)(k:List (Int×Int×UInt64×UInt64×Unit))(n:Int)(v:LB):Option R_:=H.e P_ [r,r,r,r,r,l,r,d,(lp Dk),r,r,r] ⟨[(3,.ptr 0 []),(10,.ptr 1 []),(11,.ptr 2 []),(30,.own 3),(31,vi (Ac a)),(32,vi g)],[.box 104 (.agg [vi b,vi f]),.box 255 (.val (.vec 6 (.cons (.int .i64) (.cons (.int .i64) (.cons (.int .u64) (.cons (.int .u64) .nil))))) k),.box 183 (.agg [.own 4,vi n]),Av 43 a,Ab 5 v],[]⟩
def x48(Dk Ri:K_)(h:Int)(a:LU)(g b f:Int)(k:List (Int×Int×UInt64×UInt64×Unit))(m:LB)(o n:Int)(aa:LB):Option R_:=H.e P_ [r,r,r,r,r,l,r,d,(lp Dk),r,r,l,d,r,r,r,r,(call 1 185),r,r,d,(lp Ri),r,r,l,d,r,r,r,r] ⟨[(0,.ptr 0 []),(3,.ptr 1 []),(7,vi h),(8,vi o)],[.box 183 (.agg [.own 7,vi n]),.box 183 (.agg [.own 6,vi h]),.box 104 (.agg [vi b,vi f]),.box 255 (.val (.vec 6 (.cons (.int .i64) (.cons (.int .i64) (.cons (.int .u64) (.cons (.int .u64) .nil))))) k),.box 183 (.agg [.own 6,vi h]),Av 43 a,Ab 5 m,Ab 5 aa],[[(3,.ptr 2 []),(10,.ptr 3 []),(11,.ptr 0 []),(14,.ptr 4 []),(30,.own 5),(31,vi (Ac a)),(32,vi g),(59,.agg [.own 6,vi h])]]⟩
def x47(Dk Ri:K_)(h:Int)(a:LU)(g b f:Int)(k:List (Int×Int×UInt64×UInt64×Unit))(m:LB)(o n:Int)(y:LB):Option R_:=H.e P_ [r,r,r,r,r,l,r,d,(lp Dk),r,r,l,d,r,r,r,r,(call 1 185),r,r,d,(lp Ri),r,r,l,d,r,r] ⟨[(0,.ptr 0 []),(3,.ptr 1 []),(4,vi o),(7,vi h),(8,vi o)],[.box 183 (.agg [.own 7,vi n]),.box 183 (.agg [.own 6,vi h]),.box 104 (.agg [vi b,vi f]),.box 255 (.val (.vec 6 (.cons (.int .i64) (.cons (.int .i64) (.cons (.int .u64) (.cons (.int .u64) .nil))))) k),.box 183 (.agg [.own 6,vi h]),Av 43 a,Ab 5 m,Ab 5 y],[[(3,.ptr 2 []),(10,.ptr 3 []),(11,.ptr 0 []),(14,.ptr 4 []),(30,.own 5),(31,vi (Ac a)),(32,vi g),(59,.agg [.own 6,vi h])]]⟩
def x44(Dk:K_)(a:LU)(b f h g:Int)(k:List (Int×Int×UInt64×UInt64×Unit))(m:LB)(o n:Int)(v:LB):Option R_:=H.e P_ [r,r,r,r,r,l,r,d,(lp Dk),r,r,l,d,r,r,r,r,(call 1 185),r,r,d] (t44 a b f h g k m o n v)
def x27(a:LU)(b f g:Int)(w:List (Int×Int×UInt64×UInt64×Unit))(u:Int)(p:LB):Option R_:=H.e P_ [r,r,r,r,r,l,r,d] (t27 a b f g w u p)
theorem e52:x52=Ny:=by kernel_rfl
theorem e50(Dk:K_)(a:LU)(b f:Int):x50 Dk a b f=Oz (λg w u p=>Dk (t27 a b f g w u p)) a b f:=by kernel_rfl
theorem e48(Dk Ri:K_)(a:LU)(b f h g:Int)(k:List (Int×Int×UInt64×UInt64×Unit))(m:LB):x48 Dk Ri h a g b f k m=Nx (λo n v=>Ri (t44 a b f h g k m o n v)) h a g b f k m:=by kernel_rfl
theorem e47(Dk Ri:K_)(a:LU)(b f h g:Int)(k:List (Int×Int×UInt64×UInt64×Unit))(m:LB):x47 Dk Ri h a g b f k m=Nn (λo n v=>Ri (t44 a b f h g k m o n v)) h a g b f k m:=Eq.trans (b:=Nh (x48 Dk Ri h a g b f k m) h a g b f k m) (by kernel_rfl) (by simp only[e48]<;>rfl)
theorem i44(Dk:K_)(a:LU)(b f h g:Int)(k:List (Int×Int×UInt64×UInt64×Unit))(m:LB):∀(q:Nat) (o n:Int) (v:LB),z44 Dk q (t44 a b f h g k m o n v)=Is (λg w u p=>Dk (t27 a b f g w u p)) a b f h g k m q o n v:=
 ind (λ_ _ _=>by kernel_rfl) λq ih o n v=>Eq.trans (b:=Ox (x47 Dk (z44 Dk q) h a g b f k m) (x50 Dk a b f) a b f h g k m o n v) (by kernel_rfl) (by simp only[e47,e50,ih]<;>rfl)
theorem e44(Dk:K_)(a:LU)(b f:Int):x44 Dk a b f=Nz (λg w u p=>Dk (t27 a b f g w u p)) a b f:=by funext h g k m o n v;exact Eq.trans (by kernel_rfl) ((i44 Dk a b f h g k m Bn o n v).trans (by rw[Al];rfl))
theorem i27(a:LU)(b f:Int):∀(q:Nat) (g:Int) (w:List (Int×Int×UInt64×UInt64×Unit)) (u:Int) (p:LB),z27 q (t27 a b f g w u p)=Ir a b f q g w u p:=
 ind (λ_ _ _ _=>by kernel_rfl) λq ih g w u p=>Eq.trans (b:=Od (x44 (z27 q) a b f) x52 a b f g w u p) (by kernel_rfl) (by simp only[e44,e52,ih]<;>rfl)
theorem e27:x27=Na:=by funext a b f g w u p;exact Eq.trans (by kernel_rfl) ((i27 a b f Bn g w u p).trans (by rw[Al];rfl))
def F:=u4 Jm
theorem rn x:H.u P_ x=F x:=Eq.trans (b:=u4 (Pq x27) x) (by kernel_rfl) (by simp only[e27]<;>rfl)
def c:Con:=⟨H.p,H.r,F⟩
theorem ok:ConOk P_ gl 100 c:=cr H func100 (.cons F103.ok (.cons F104.ok (.cons F182.ok (.cons F183.ok (.cons F184.ok (.cons F186.ok .nil)))))) (Bt.cons ent185 Bt.nil) rn
end F100
theorem MP:ConOk Tryz.prog gl 42 Qq:=OK F93.ok F67.ok F114.ok F100.ok F101.ok
namespace F111
abbrev R_:=Bool
def H:Hd:=⟨[.agg [Si,Si,Si,Si,Si]],[Sz],(.seq .d (.cut [1] [] .d .d)),⟨[],gl,false⟩,[],f111⟩
def x2(b f a g h:Int):Option R_:=H.e P_ [r,r] ⟨[(1,.ptr 0 [])],[.box 33 (.agg [vi b,vi f,vi a,vi g,vi h])],[]⟩
theorem e2:x2=Rw:=by kernel_rfl
def F:=u5 Qj
theorem rn x:H.u P_ x=F x:=Eq.trans (b:=u5 (Rn x2) x) (by kernel_rfl) (by simp only[e2]<;>rfl)
def c:Con:=⟨H.p,H.r,F⟩
theorem ok:ConOk P_ gl 111 c:=co H func111 .nil rn
end F111
namespace F112
def H:Hd:=⟨[.agg [Si,Si,Si,Si,Si]],[Sz],.d,⟨[(119,F119.c)],gl,false⟩,[],f112⟩
def F:=u5 Zq
theorem rn x:H.u P_ x=F x:=by kernel_rfl
def c:Con:=⟨H.p,H.r,F⟩
theorem ok:ConOk P_ gl 112 c:=co H func112 (.cons F119.ok .nil) rn
end F112
namespace F102
def H:Hd:=⟨[.agg [Si,Si,Si,Si,Si]],[Si],.d,⟨[(111,F111.c),(112,F112.c)],gl,false⟩,[],f102⟩
def F:=u5 Sy
theorem rn x:H.u P_ x=F x:=by kernel_rfl
def c:Con:=⟨H.p,H.r,F⟩
theorem ok:ConOk P_ gl 102 c:=co H func102 (.cons F111.ok (.cons F112.ok .nil)) rn
end F102
namespace F43
abbrev R_:=(LB×Int)
def H:Hd:=⟨[.agg [Si,Si,Si,Si,Si]],[Ob 5,Si],(.seq .d (.seq .d (.seq .d (.cut [5] [] (.seq .d (.blk (.loop [5,31,32] [] .d))) .d)))),⟨[(102,F102.c),(103,F103.c),(104,F104.c)],gl,false⟩,[],f43⟩
def t4(b f g h k m:Int)(a:LB):S:=⟨[(5,.own 0),(31,.val (.vec 5 (.int .i64)) ([b,f,g,h,k]:LI)),(32,vi m)],[Ab 5 a],[]⟩
def z4:Nat->S->Option R_:=H.i P_ [r,r,r,l,r,d]
def x6(a:LB):Option R_:=H.e P_ [r,r,r,r] ⟨[(5,.own 0)],[Ab 5 a],[]⟩
def x4(b f g h k m:Int)(a:LB):Option R_:=H.e P_ [r,r,r,l,r,d] (t4 b f g h k m a)
theorem e6:x6=Wd:=by kernel_rfl
theorem i4(b f g h k:Int):∀(q:Nat) (m:Int) (a:LB),z4 q (t4 b f g h k m a)=Lm b f g h k q m a:=
 ind (λ_ _=>by kernel_rfl) λq ih m a=>Eq.trans (b:=Wb x6 (λm a=>(z4 q) (t4 b f g h k m a)) b f g h k m a) (by kernel_rfl) (by simp only[e6,ih]<;>rfl)
theorem e4:x4=Vn:=by funext b f g h k m a;exact Eq.trans (by kernel_rfl) ((i4 b f g h k Bn m a).trans (by rw[Al];rfl))
def F:=u5 GJ
theorem rn x:H.u P_ x=F x:=Eq.trans (b:=u5 (Wk x4) x) (by kernel_rfl) (by simp only[e4]<;>rfl)
def c:Con:=⟨H.p,H.r,F⟩
theorem ok:ConOk P_ gl 43 c:=co H func43 (.cons F102.ok (.cons F103.ok (.cons F104.ok .nil))) rn
end F43
namespace F105
def H:Hd:=⟨[Ss],[Sq,Si],.d,⟨[(121,F121.c)],gl,false⟩,[],f105⟩
def F:=SI
theorem rn x:H.u P_ x=F x:=by kernel_rfl
def c:Con:=⟨H.p,H.r,F⟩
theorem ok:ConOk P_ gl 105 c:=co H func105 (.cons F121.ok .nil) rn
end F105
namespace F44
def H:Hd:=⟨[Ss],[Ob 5,Si],.d,⟨[(103,F103.c),(105,F105.c)],gl,false⟩,[],f44⟩
def F:=Tr
theorem rn x:H.u P_ x=F x:=by kernel_rfl
def c:Con:=⟨H.p,H.r,F⟩
theorem ok:ConOk P_ gl 44 c:=co H func44 (.cons F103.ok (.cons F105.ok .nil)) rn
end F44
namespace F106
abbrev R_:=Int
def H:Hd:=⟨[Sl],[Si],(.seq .d (.seq .d (.seq .d (.cut [] [] (.seq .d (.blk (.loop [3,14,15,16] [] .d))) .d)))),⟨[],gl,false⟩,[],f106⟩
def t4(a:LI)(f b:Int):S:=⟨[(3,vi f),(14,vl a),(15,vi (Ac a)),(16,vi b)],[],[]⟩
def z4:Nat->S->Option R_:=H.i P_ [r,r,r,l,r,d]
def x6:Option R_:=H.e P_ [r,r,r,r] ⟨[],[],[]⟩
def x4(a:LI)(f b:Int):Option R_:=H.e P_ [r,r,r,l,r,d] (t4 a f b)
theorem e6:x6=AM:=by kernel_rfl
theorem i4(a:LI):∀(q:Nat) (f b:Int),z4 q (t4 a f b)=Nr a q f b:=
 ind (λ_ _=>by kernel_rfl) λq ih f b=>Eq.trans (b:=AH x6 (λf b=>(z4 q) (t4 a f b)) a f b) (by kernel_rfl) (by simp only[e6,ih]<;>rfl)
theorem e4:x4=Yt:=by funext a f b;exact Eq.trans (by kernel_rfl) ((i4 a Bn f b).trans (by rw[Al];rfl))
def F:=Qg
theorem rn x:H.u P_ x=F x:=Eq.trans (b:=Zf x4 x) (by kernel_rfl) (by simp only[e4]<;>rfl)
def c:Con:=⟨H.p,H.r,F⟩
theorem ok:ConOk P_ gl 106 c:=co H func106 .nil rn
end F106
namespace F45
abbrev R_:=(LB×Int)
abbrev K_:=S->Option R_
def H:Hd:=⟨[Sl],[Ob 5,Si],(.seq .d (.seq .d (.seq .d (.seq .d (.cut [5,6] [] (.seq .d (.blk (.loop [5,6,17,18,19] [⟨5,[],.own 5 (.int .u8)⟩,⟨6,[0],.own 5 (.int .u8)⟩] (.seq .d (.seq .d (.cut [5,6,17,18,19] [] (.blk (.seq .d (.keep [5,6,8,17,18,19,23,24,25] true))) .d)))))) (.seq .d (.cut [5] [] (.keep [5,6,9,33,34,35] true) .d))))))),⟨[(103,F103.c),(104,F104.c),(106,F106.c)],gl,false⟩,[(107,.d)],f45⟩
def t8(a:LI)(f:Int)(b:LB):S:=⟨[(5,.ptr 0 []),(6,.fn 107 [.ptr 0 []]),(17,vl a),(18,vi (Ac a)),(19,vi f)],[.box 22 (.own 1),Ab 5 b],[]⟩
def z8:Nat->S->Option R_:=H.i P_ [r,r,r,r,l,r,d]
def x14(g:LB):Option R_:=H.e P_ [r,r,r,r,r,r,r] ⟨[(5,.ptr 0 [])],[.box 22 (.own 1),Ab 5 g],[]⟩
def x13(b:LB):Option R_:=H.e P_ [r,r,r,r,r] ⟨[(5,.ptr 0 []),(6,.fn 107 [.ptr 0 []])],[.box 22 (.own 1),Ab 5 b],[]⟩
def x11(ZY:K_)(a:LI)(f:Int)(h:LB):Option R_:=H.e P_ [r,r,r,r,l,r,d,(lp ZY),r,r,r] ⟨[(5,.ptr 0 []),(6,.fn 107 [.ptr 0 []]),(17,vl a),(18,vi (Ac a)),(19,vi f)],[.box 22 (.own 1),Ab 5 h],[]⟩
def x8(a:LI)(f:Int)(b:LB):Option R_:=H.e P_ [r,r,r,r,l,r,d] (t8 a f b)
theorem e14:x14=Vr:=by kernel_rfl
theorem e13:x13=Uv:=Eq.trans (b:=Va x14) (by kernel_rfl) (by simp only[e14]<;>rfl)
theorem e11(ZY:K_)(a:LI):x11 ZY a=Vk (λf b=>ZY (t8 a f b)) a:=by kernel_rfl
theorem i8(a:LI):∀(q:Nat) (f:Int) (b:LB),z8 q (t8 a f b)=Mw a q f b:=
 ind (λ_ _=>by kernel_rfl) λq ih f b=>Eq.trans (b:=AF (x11 (z8 q) a) x13 a f b) (by kernel_rfl) (by simp only[e11,e13,ih]<;>rfl)
theorem e8:x8=Zx:=by funext a f b;exact Eq.trans (by kernel_rfl) ((i8 a Bn f b).trans (by rw[Al];rfl))
def F:=KX
theorem rn x:H.u P_ x=F x:=Eq.trans (b:=Xp x8 x) (by kernel_rfl) (by simp only[e8]<;>rfl)
def c:Con:=⟨H.p,H.r,F⟩
theorem ok:ConOk P_ gl 45 c:=cr H func45 (.cons F103.ok (.cons F104.ok (.cons F106.ok .nil))) (Bt.cons ent107 Bt.nil) rn
end F45
namespace F47
def H:Hd:=⟨[Sb],[Si],.d,⟨[],gl,false⟩,[],f47⟩
def F:=BW
theorem rn x:H.u P_ x=F x:=by kernel_rfl
def c:Con:=⟨H.p,H.r,F⟩
theorem ok:ConOk P_ gl 47 c:=co H func47 .nil rn
end F47
namespace F48
abbrev R_:=LB
def H:Hd:=⟨[.lf (.list (.list (.int .u8))) none],[Ob 5],(.seq .d (.seq .d (.cut [3] [] (.seq .d (.blk (.loop [3,6,7,8] [⟨3,[],.own 5 (.int .u8)⟩] .d))) .d))),⟨[],gl,false⟩,[],f48⟩
def t4(b:List LB)(f:Int)(a:LB):S:=⟨[(3,.own 0),(6,.val (.list (.list (.int .u8))) b),(7,vi (Ac b)),(8,vi f)],[Ab 5 a],[]⟩
def z4:Nat->S->Option R_:=H.i P_ [r,r,l,r,d]
def x6(a:LB):Option R_:=H.e P_ [r,r,r] ⟨[(3,.own 0)],[Ab 5 a],[]⟩
def x4(b:List LB)(f:Int)(a:LB):Option R_:=H.e P_ [r,r,l,r,d] (t4 b f a)
theorem e6:x6=Zs:=by kernel_rfl
theorem i4(b:List LB):∀(q:Nat) (f:Int) (a:LB),z4 q (t4 b f a)=Ot b q f a:=
 ind (λ_ _=>by kernel_rfl) λq ih f a=>Eq.trans (b:=Yx x6 (λf a=>(z4 q) (t4 b f a)) b f a) (by kernel_rfl) (by simp only[e6,ih]<;>rfl)
theorem e4:x4=Yw:=by funext b f a;exact Eq.trans (by kernel_rfl) ((i4 b Bn f a).trans (by rw[Al];rfl))
def F:=KZ
theorem rn x:H.u P_ x=F x:=Eq.trans (b:=Xr x4 x) (by kernel_rfl) (by simp only[e4]<;>rfl)
def c:Con:=⟨H.p,H.r,F⟩
theorem ok:ConOk P_ gl 48 c:=co H func48 .nil rn
end F48
namespace F9
abbrev R_:=(LB×Int)
abbrev K_:=S->Option R_
def H:Hd:=⟨[.agg [Si,Si,Si,Sw],Ss],[Ob 5,Si],(.seq .d (.seq .d (.seq .d (.seq .d (.seq .d (.seq .d (.seq .d (.seq .d (.cut [8,9,10] [⟨10,[],.own 5 (.int .u8)⟩] .d (.cut [7,8,9,10,11] [] (.keep [7,8,9,10,11,46,48,49,50,51] true) .d)))))))))),⟨[(41,F41.c),(42,Qq),(43,F43.c),(44,F44.c),(45,F45.c),(47,F47.c),(48,F48.c)],gl,false⟩,[(46,(.seq .d (.seq .d (.cut [5] [] (.seq .d (.blk (.loop [1,5,11,12,13] [] (.seq .d (.seq .d (.cut [1,5,11,12,13] [] .d .d)))))) .d))))],f9⟩
def t9(a:List LB)(b f:LB)(g:Int)(h:LI):S:=⟨[(1,.fn 47 []),(5,.own 0),(11,.own 1),(12,vi (Ac a)),(13,vi g)],[Ai 3 h,.arr 22 (.list (.int .u8)) a,Ab 5 b,Ab 5 f],[[(8,.own 1),(9,.own 2),(10,.own 3)]]⟩
def z9:Nat->S->Option R_:=H.i P_ [r,r,r,r,r,r,r,r,r,l,(call 1 46),r,r,l,r,d]
def x14(k:Int)(a:List LB)(b f n:LB):Option R_:=H.e P_ [r,r,r,r,r,r,r,r,r,r] ⟨[(7,vi k),(8,.own 0),(9,.own 1),(10,.own 2),(11,.own 3)],[.arr 22 (.list (.int .u8)) a,Ab 5 b,Ab 5 f,Ab 5 n],[]⟩
def x13(h:LI)(a:List LB)(b f:LB):Option R_:=H.e P_ [r,r,r,r,r,r,r,r,r,l,(call 1 46),r,r,r] ⟨[(5,.own 0)],[Ai 3 h,.arr 22 (.list (.int .u8)) a,Ab 5 b,Ab 5 f],[[(8,.own 1),(9,.own 2),(10,.own 3)]]⟩
def x11(qO:K_)(a:List LB)(b f:LB)(g:Int)(m:LI):Option R_:=H.e P_ [r,r,r,r,r,r,r,r,r,l,(call 1 46),r,r,l,r,d,(lp qO),r,r,r] ⟨[(1,.fn 47 []),(5,.own 0),(11,.own 1),(12,vi (Ac a)),(13,vi g)],[Ai 3 m,.arr 22 (.list (.int .u8)) a,Ab 5 b,Ab 5 f],[[(8,.own 1),(9,.own 2),(10,.own 3)]]⟩
def x9(a:List LB)(b f:LB)(g:Int)(h:LI):Option R_:=H.e P_ [r,r,r,r,r,r,r,r,r,l,(call 1 46),r,r,l,r,d] (t9 a b f g h)
def x8(a:List LB)(b f:LB):Option R_:=H.e P_ [r,r,r,r,r,r,r,r,r] ⟨[(8,.own 0),(9,.own 1),(10,.own 2)],[.arr 22 (.list (.int .u8)) a,Ab 5 b,Ab 5 f],[]⟩
theorem e14:x14=Vz:=by kernel_rfl
theorem e13:x13=Wf:=Eq.trans (b:=Up x14) (by kernel_rfl) (by simp only[e14]<;>rfl)
theorem e11(qO:K_)(a:List LB)(b f:LB):x11 qO a b f=Vj (λg h=>qO (t9 a b f g h)) a b f:=by kernel_rfl
theorem i9(a:List LB)(b f:LB):∀(q:Nat) (g:Int) (h:LI),z9 q (t9 a b f g h)=Oh a b f q g h:=
 ind (λ_ _=>by kernel_rfl) λq ih g h=>Eq.trans (b:=Ys (x11 (z9 q) a b f) x13 a b f g h) (by kernel_rfl) (by simp only[e11,e13,ih]<;>rfl)
theorem e9:x9=Zh:=by funext a b f g h;exact Eq.trans (by kernel_rfl) ((i9 a b f Bn g h).trans (by rw[Al];rfl))
theorem e8:x8=Yb:=Eq.trans (b:=Wx x9) (by kernel_rfl) (by simp only[e9]<;>rfl)
def F:=u5 Qf
theorem rn x:H.u P_ x=F x:=Eq.trans (b:=u5 (Xh x8) x) (by kernel_rfl) (by simp only[e8]<;>rfl)
def c:Con:=⟨H.p,H.r,F⟩
theorem ok:ConOk P_ gl 9 c:=cr H func9 (.cons F41.ok (.cons MP (.cons F43.ok (.cons F44.ok (.cons F45.ok (.cons F47.ok (.cons F48.ok .nil))))))) (Bt.cons ent46 Bt.nil) rn
end F9
namespace F8
def H:Hd:=⟨[],[Ob 5,Sz],.d,⟨[(9,F9.c)],gl,false⟩,[],f8⟩
noncomputable def F(x:Unit):=Fh
theorem rn x:H.u P_ x=F x:=by kernel_rfl
def c:Con:=⟨H.p,H.r,F⟩
theorem ok:ConOk P_ gl 8 c:=co H func8 (.cons F9.ok .nil) rn
end F8
namespace F113
def H:Hd:=⟨[Sb,Sb],[Sz],.d,⟨[],gl,false⟩,[],f113⟩
def F:=u2 Gq
theorem rn x:H.u P_ x=F x:=by kernel_rfl
def c:Con:=⟨H.p,H.r,F⟩
theorem ok:ConOk P_ gl 113 c:=co H func113 .nil rn
end F113
namespace F196
def H:Hd:=⟨[Sb,Sb],[Sz],.d,⟨[(113,F113.c)],gl,false⟩,[],f196⟩
def F:=u2 Fo
theorem rn x:H.u P_ x=F x:=by kernel_rfl
def c:Con:=⟨H.p,H.r,F⟩
theorem ok:ConOk P_ gl 196 c:=co H func196 (.cons F113.ok .nil) rn
end F196
namespace F336
abbrev R_:=(Int×Int)
def H:Hd:=⟨[Sb],[Si,Si],(.seq .d (.seq .d (.seq .d (.cut [4] [] (.seq .d (.blk (.loop [4,10,11,12] [] .d))) .d)))),⟨[],gl,false⟩,[],f336⟩
def t4(a:LB)(b f:Int):S:=⟨[(4,vi b),(10,vb a),(11,vi (Ac a)),(12,vi f)],[],[]⟩
def z4:Nat->S->Option R_:=H.i P_ [r,r,r,l,r,d]
def x6(b:Int):Option R_:=H.e P_ [r,r,r,r] ⟨[(4,vi b)],[],[]⟩
def x4(a:LB)(b f:Int):Option R_:=H.e P_ [r,r,r,l,r,d] (t4 a b f)
theorem e6:x6=Se:=by kernel_rfl
theorem i4(a:LB):∀(q:Nat) (b f:Int),z4 q (t4 a b f)=Jz a q b f:=
 ind (λ_ _=>by kernel_rfl) λq ih b f=>Eq.trans (b:=Rq x6 (λb f=>(z4 q) (t4 a b f)) a b f) (by kernel_rfl) (by simp only[e6,ih]<;>rfl)
theorem e4:x4=Rm:=by funext a b f;exact Eq.trans (by kernel_rfl) ((i4 a Bn b f).trans (by rw[Al];rfl))
def F:=CG
theorem rn x:H.u P_ x=F x:=Eq.trans (b:=Sd x4 x) (by kernel_rfl) (by simp only[e4]<;>rfl)
def c:Con:=⟨H.p,H.r,F⟩
theorem ok:ConOk P_ gl 336 c:=co H func336 .nil rn
end F336
namespace F278
def Kg(j5:LB->UInt8->UInt8->Option (Int×Int))(a:LB):Option (Int×Int):=
(Fo a ([(73:UInt8),(68:UInt8),(51:UInt8)]:LB)).bind λn=>
if(!n)then
some (0,6)
else
if(Cq (Ac a) 10)then
some (0,24)
else
(Ah a 3).bind λf=>
(Ah a 5).bind λb=>
(λo:Option (Int×Int)=>
(λp:Option (Int×Int)=>
both (
both (
bo (
j5 a f b)) [
o,
o]) [
rX (
bo (
j5 a f b)),
p,
p]) (
both (
o) [
bo (
j5 a f b),
both (
bo (
j5 a f b)) [
j5 a f b]])) (
both (
j5 a f b) [
bo (
j5 a f b)])
theorem BB: @Kg= @Lo:=by
  unfold Kg Lo
  try simp only[LA,Wr,Zm]
  all_goals
    repeat (refine funext λ_=>?_)
    repeat' first
      |with_reducible rfl
      |with_reducible refine Hx ?_ ?_
      |with_reducible refine Hn ?_ ?_ ?_
      |with_reducible refine Ia ?_ ?_ ?_ ?_
      |((with_reducible refine Kv ?_ ?_);focus (intro h;first|(subst h;rfl)|(simp only[h];rfl)|(simp[Dp,Ac,h];done)))
      |with_reducible refine Kn λx=>?_
      |with_reducible refine Qr (λ_=>?_) (λ_=>?_)
      |(refine Eo (λh=>by simp only[h,Kr,Dt,Dm,ite_self]) (λx h=>?_);(try simp only[h,Dt]))
      |(refine Fs (λh=>?_) (λh=>?_)<;>simp only[h,if_true,if_false,Bool.false_eq_true])
abbrev R_:=(Int×Int)
def H:Hd:=⟨[Sb],[Si,Si],(.seq .d (.seq .d (.seq .d (.cut [0,4,5] [] (.mode false) (.seq .d (.seq .d (.cut [0,5,6] [] (.cut [0,5,6,43] [] (.keep [0,5,6,7,8,31,32,33,34,35,36,37,38,39,40,41,42,43] true) .d) (.seq .d (.cut [0,5,6] [] .d .d))))))))),⟨[(113,F113.c),(196,F196.c),(336,F336.c)],gl,false⟩,[(337,.d)],f278⟩
def x8(a:LB)(b:UInt8)(h:Int):Option R_:=H.e P_ [r,r,r,r,r,r,r,r,r] ⟨[(0,vb a),(5,.ptr 0 []),(6,vi h)],[.box 5 (vc b)],[]⟩
def x7(a:LB)(g:Int)(b:UInt8):Option R_:=H.e P_ [r,r,r,r,r,r,r] ⟨[(0,vb a),(5,.ptr 0 []),(6,vi g)],[.box 5 (vc b)],[]⟩
def x6(a:LB)(g:Int)(b:UInt8)(m:Bool):Option R_:=H.e P_ [r,r,r,r,r,r,l,r] ⟨[(0,vb a),(5,.ptr 0 []),(6,vi g),(43,vt m)],[.box 5 (vc b)],[]⟩
def x5(a:LB)(f b:UInt8):Option R_:=H.e P_ [r,r,r,r] ⟨[(0,vb a),(4,.ptr 0 []),(5,.ptr 1 [])],[.box 5 (vc f),.box 5 (vc b)],[]⟩
theorem e8:x8=Uz:=by kernel_rfl
theorem e7:x7=Wi:=Eq.trans (b:=Vt x8) (by kernel_rfl) (by simp only[e8]<;>rfl)
theorem e6:x6=Uk:=Eq.trans (b:=Uj x7) (by kernel_rfl) (by simp only[e7]<;>rfl)
theorem e5:x5=Vh:=Eq.trans (b:=Wg x6) (by kernel_rfl) (by simp only[e6]<;>rfl)
def F:=FC
theorem rn x:H.u P_ x=F x:=Eq.trans (b:=Kg x5 x) (by kernel_rfl) (by unfold F;rw[BB];simp only[e5]<;>rfl)
def c:Con:=⟨H.p,H.r,F⟩
theorem ok:ConOk P_ gl 278 c:=cr H func278 (.cons F113.ok (.cons F196.ok (.cons F336.ok .nil))) (Bt.cons ent337 Bt.nil) rn
end F278
namespace F192
abbrev R_:=(UInt64×Int)
def H:Hd:=⟨[Sb],[Sq,Si],(.seq .d (.seq .d (.seq .d (.cut [4] [] (.seq .d (.blk (.loop [4,15,16,17] [] .d))) .d)))),⟨[],gl,false⟩,[],f192⟩
def t4(a:LB)(b:UInt64)(f:Int):S:=⟨[(4,vq b),(15,vb a),(16,vi (Ac a)),(17,vi f)],[],[]⟩
def z4:Nat->S->Option R_:=H.i P_ [r,r,r,l,r,d]
def x6(b:UInt64):Option R_:=H.e P_ [r,r,r,r] ⟨[(4,vq b)],[],[]⟩
def x4(a:LB)(b:UInt64)(f:Int):Option R_:=H.e P_ [r,r,r,l,r,d] (t4 a b f)
theorem e6:x6=JZ:=by kernel_rfl
theorem i4(a:LB):∀(q:Nat) (b:UInt64) (f:Int),z4 q (t4 a b f)=Wv a q b f:=
 ind (λ_ _=>by kernel_rfl) λq ih b f=>Eq.trans (b:=KH x6 (λb f=>(z4 q) (t4 a b f)) a b f) (by kernel_rfl) (by simp only[e6,ih]<;>rfl)
theorem e4:x4=KQ:=by funext a b f;exact Eq.trans (by kernel_rfl) ((i4 a Bn b f).trans (by rw[Al];rfl))
def F:=NS
theorem rn x:H.u P_ x=F x:=Eq.trans (b:=LG x4 x) (by kernel_rfl) (by simp only[e4]<;>rfl)
def c:Con:=⟨H.p,H.r,F⟩
theorem ok:ConOk P_ gl 192 c:=co H func192 .nil rn
end F192
namespace F110
def H:Hd:=⟨[Sb,Si,Si],[Sq,Si],.d,⟨[(192,F192.c)],gl,false⟩,[],f110⟩
def F:=u3 QA
theorem rn x:H.u P_ x=F x:=by kernel_rfl
def c:Con:=⟨H.p,H.r,F⟩
theorem ok:ConOk P_ gl 110 c:=co H func110 (.cons F192.ok .nil) rn
end F110
namespace F198
abbrev R_:=LB
def H:Hd:=⟨[Si,Si,Sq],[Ob 5],(.seq .d (.seq .d (.cut [7] [] (.seq .d (.blk (.loop [7,20,21,22] [] .d))) .d))),⟨[(103,F103.c)],gl,false⟩,[],f198⟩
def t4(a b:Int)(f:UInt64)(h:Int)(g:LB):S:=⟨[(7,.own 0),(20,.own 1),(21,vi (Ac ([(2000:UInt64),(Am (Aa a (32:Int)):UInt64),(Am b:UInt64),f,(0:UInt64),(0:UInt64)]:LQ))),(22,vi h)],[Ab 5 g,.arr 158 (.int .u64) ([(2000:UInt64),(Am (Aa a (32:Int)):UInt64),(Am b:UInt64),f,(0:UInt64),(0:UInt64)]:LQ)],[]⟩
def z4:Nat->S->Option R_:=H.i P_ [r,r,l,r,d]
def x6(g:LB):Option R_:=H.e P_ [r,r,r] ⟨[(7,.own 0)],[Ab 5 g],[]⟩
def x4(a b:Int)(f:UInt64)(h:Int)(g:LB):Option R_:=H.e P_ [r,r,l,r,d] (t4 a b f h g)
theorem e6:x6=OM:=by kernel_rfl
theorem i4(a b:Int)(f:UInt64):∀(q:Nat) (h:Int) (g:LB),z4 q (t4 a b f h g)=EU a b f q h g:=
 ind (λ_ _=>by kernel_rfl) λq ih h g=>Eq.trans (b:=OS x6 (λh g=>(z4 q) (t4 a b f h g)) a b f h g) (by kernel_rfl) (by simp only[e6,ih]<;>rfl)
theorem e4:x4=NQ:=by funext a b f h g;exact Eq.trans (by kernel_rfl) ((i4 a b f Bn h g).trans (by rw[Al];rfl))
def F:=u3 MH
theorem rn x:H.u P_ x=F x:=Eq.trans (b:=u3 (QG x4) x) (by kernel_rfl) (by simp only[e4]<;>rfl)
def c:Con:=⟨H.p,H.r,F⟩
theorem ok:ConOk P_ gl 198 c:=co H func198 (.cons F103.ok .nil) rn
end F198
namespace F197
def H:Hd:=⟨[Sb,Sq],[.agg [Si,Si],Sz],.d,⟨[(110,F110.c),(113,F113.c),(198,F198.c)],gl,false⟩,[],f197⟩
def F:=u2 AR
theorem rn x:H.u P_ x=F x:=by kernel_rfl
def c:Con:=⟨H.p,H.r,F⟩
theorem ok:ConOk P_ gl 197 c:=co H func197 (.cons F110.ok (.cons F113.ok (.cons F198.ok .nil))) rn
end F197
namespace F279
def H:Hd:=⟨[Sb],[Si,Si],.d,⟨[(113,F113.c),(196,F196.c),(197,F197.c),(198,F198.c)],gl,false⟩,[],f279⟩
def F:=SH
theorem rn x:H.u P_ x=F x:=by kernel_rfl
def c:Con:=⟨H.p,H.r,F⟩
theorem ok:ConOk P_ gl 279 c:=co H func279 (.cons F113.ok (.cons F196.ok (.cons F197.ok (.cons F198.ok .nil)))) rn
end F279
namespace F190
def H:Hd:=⟨[Sb],[Si,Si],.d,⟨[(278,F278.c),(279,F279.c)],gl,false⟩,[],f190⟩
def F:=Kf
theorem rn x:H.u P_ x=F x:=by kernel_rfl
def c:Con:=⟨H.p,H.r,F⟩
theorem ok:ConOk P_ gl 190 c:=co H func190 (.cons F278.ok (.cons F279.ok .nil)) rn
end F190
theorem QH:ConOk Tryz.prog gl 49 Rg:=PN ent49 F190.ok
namespace F191
def H:Hd:=⟨[Ss,Ss],[Sz],.d,⟨[],gl,false⟩,[],f191⟩
def F:=u2 Ex
theorem rn x:H.u P_ x=F x:=by kernel_rfl
def c:Con:=⟨H.p,H.r,F⟩
theorem ok:ConOk P_ gl 191 c:=co H func191 .nil rn
end F191
namespace F109
def H:Hd:=⟨[Ss,Ss],[Sz],.d,⟨[(191,F191.c)],gl,false⟩,[],f109⟩
def F:=u2 Po
theorem rn x:H.u P_ x=F x:=by kernel_rfl
def c:Con:=⟨H.p,H.r,F⟩
theorem ok:ConOk P_ gl 109 c:=co H func109 (.cons F191.ok .nil) rn
end F109
namespace F50
abbrev R_:=(Int×Int×Int×Int×Int×Int)
def H:Hd:=⟨[Sb],[.agg [Si,Si,Si,Si,Si],Si],(.seq .d (.seq .d (.seq .d (.seq .d (.seq .d (.seq .d (.seq .d (.cut [2,8] [] (.seq .d (.blk (.loop [0,2,8,9,44,45] [] .d))) .d)))))))),⟨[(104,F104.c),(109,F109.c),(110,F110.c),(111,F111.c),(112,F112.c)],gl,false⟩,[],f50⟩
def t4(b:LB)(g f:Int)(a:LI):S:=⟨[(0,vb b),(2,.ptr 0 []),(8,.ptr 1 []),(9,vi g),(44,.val (.vec 5 (.int .i64)) ([(2:Int),(2:Int),(2:Int),(4:Int),(4:Int)]:LI)),(45,vi f)],[.box 33 (.agg [vi 0,vi 0,vi 0,vi 0,vi 0]),.box 156 (.val (.vec 5 (.int .i64)) a)],[]⟩
def z4:Nat->S->Option R_:=H.i P_ [r,r,r,r,r,r,r,l,r,d]
def x6(a:LI):Option R_:=H.e P_ [r,r,r,r,r,r,r,r] ⟨[(2,.ptr 0 []),(8,.ptr 1 [])],[.box 33 (.agg [vi 0,vi 0,vi 0,vi 0,vi 0]),.box 156 (.val (.vec 5 (.int .i64)) a)],[]⟩
def x4(b:LB)(g f:Int)(a:LI):Option R_:=H.e P_ [r,r,r,r,r,r,r,l,r,d] (t4 b g f a)
theorem e6:x6=Xd:=by kernel_rfl
theorem i4(b:LB):∀(q:Nat) (g f:Int) (a:LI),z4 q (t4 b g f a)=My b q g f a:=
 ind (λ_ _ _=>by kernel_rfl) λq ih g f a=>Eq.trans (b:=Xe x6 (λg f a=>(z4 q) (t4 b g f a)) b g f a) (by kernel_rfl) (by simp only[e6,ih]<;>rfl)
theorem e4:x4=Xw:=by funext b g f a;exact Eq.trans (by kernel_rfl) ((i4 b Bn g f a).trans (by rw[Al];rfl))
def F:=KA
theorem rn x:H.u P_ x=F x:=Eq.trans (b:=Zi x4 x) (by kernel_rfl) (by simp only[e4]<;>rfl)
def c:Con:=⟨H.p,H.r,F⟩
theorem ok:ConOk P_ gl 50 c:=co H func50 (.cons F104.ok (.cons F109.ok (.cons F110.ok (.cons F111.ok (.cons F112.ok .nil))))) rn
end F50
namespace F51
def H:Hd:=⟨[Sb,Ss],[Sz,Si],.d,⟨[(44,F44.c),(113,F113.c)],gl,false⟩,[],f51⟩
def F:=u2 HF
theorem rn x:H.u P_ x=F x:=by kernel_rfl
def c:Con:=⟨H.p,H.r,F⟩
theorem ok:ConOk P_ gl 51 c:=co H func51 (.cons F44.ok (.cons F113.ok .nil)) rn
end F51
namespace F52
def H:Hd:=⟨[.agg [Si,Si,Si,Si,Si]],[Ol 3,Si],.d,⟨[(102,F102.c),(114,F114.c)],gl,false⟩,[],f52⟩
def F:=u5 Kq
theorem rn x:H.u P_ x=F x:=by kernel_rfl
def c:Con:=⟨H.p,H.r,F⟩
theorem ok:ConOk P_ gl 52 c:=co H func52 (.cons F102.ok (.cons F114.ok .nil)) rn
end F52
namespace F53
abbrev R_:=(LI×Int)
def H:Hd:=⟨[Sb,Si],[Ol 3,Si],(.seq .d (.seq .d (.seq .d (.seq .d (.seq .d (.seq .d (.cut [10] [] (.seq .d (.blk (.loop [0,10,48,49] [] .d))) .d))))))),⟨[(104,F104.c),(106,F106.c),(110,F110.c)],gl,false⟩,[],f53⟩
def t4(b:LB)(f:LI)(g:Int)(a:LI):S:=⟨[(0,vb b),(10,.own 0),(48,vi (Ac f)),(49,vi g)],[Ai 3 a],[]⟩
def z4:Nat->S->Option R_:=H.i P_ [r,r,r,r,r,r,l,r,d]
def x6(a:LI):Option R_:=H.e P_ [r,r,r,r,r,r,r] ⟨[(10,.own 0)],[Ai 3 a],[]⟩
def x4(b:LB)(f:LI)(g:Int)(a:LI):Option R_:=H.e P_ [r,r,r,r,r,r,l,r,d] (t4 b f g a)
theorem e6:x6=BM:=by kernel_rfl
theorem i4(b:LB)(f:LI):∀(q:Nat) (g:Int) (a:LI),z4 q (t4 b f g a)=Qs b f q g a:=
 ind (λ_ _=>by kernel_rfl) λq ih g a=>Eq.trans (b:=CF x6 (λg a=>(z4 q) (t4 b f g a)) b f g a) (by kernel_rfl) (by simp only[e6,ih]<;>rfl)
theorem e4:x4=CK:=by funext b f g a;exact Eq.trans (by kernel_rfl) ((i4 b f Bn g a).trans (by rw[Al];rfl))
def F:=u2 OP
theorem rn x:H.u P_ x=F x:=Eq.trans (b:=u2 (DG x4) x) (by kernel_rfl) (by simp only[e4]<;>rfl)
def c:Con:=⟨H.p,H.r,F⟩
theorem ok:ConOk P_ gl 53 c:=co H func53 (.cons F104.ok (.cons F106.ok (.cons F110.ok .nil))) rn
end F53
namespace F11
abbrev R_:=(Int×Int×Int×Int×Int×Int×LI×Int)
def H:Hd:=⟨[Sb,Ss],[.agg [.agg [Si,Si,Si,Si,Si],Si,Ol 3],Si],(.seq .d (.seq .d (.seq .d (.seq .d (.seq .d (.seq .d (.seq .d (.seq .d (.seq .d (.cut [0,4,6,8] [] .d .d)))))))))),⟨[(49,Rg),(50,F50.c),(51,F51.c),(52,F52.c),(53,F53.c)],gl,false⟩,[],f11⟩
def x2(a:LB)(b f g h k n:Int):Option R_:=H.e P_ [r,r,r,r,r,r,r,r,r,r] ⟨[(0,vb a),(4,.ptr 0 []),(6,vi n),(8,.ptr 1 [])],[.box 36 (.agg [.agg [vi 0,vi 0,vi 0,vi 0,vi 0],vi 0,.nils]),.box 33 (.agg [vi b,vi f,vi g,vi h,vi k])],[]⟩
theorem e2:x2=Yg:=by kernel_rfl
def F:=u2 Ci
theorem rn x:H.u P_ x=F x:=Eq.trans (b:=u2 (Nk x2) x) (by kernel_rfl) (by simp only[e2]<;>rfl)
def c:Con:=⟨H.p,H.r,F⟩
theorem ok:ConOk P_ gl 11 c:=co H func11 (.cons QH (.cons F50.ok (.cons F51.ok (.cons F52.ok (.cons F53.ok .nil))))) rn
end F11
namespace F115
abbrev R_:=(LI×Int)
abbrev K_:=S->Option R_
def H:Hd:=⟨[Sl],[Ol 3,Si],(.seq .d (.seq .d (.seq .d (.seq .d (.seq .d (.cut [7] [] (.seq .d (.blk (.loop [6,7,17,18,19] [] (.seq .d (.seq .d (.cut [6,7,17,18,19] [] (.blk (.seq .d (.keep [6,7,9,17,18,19,23,24,25,26,27,28] true))) .d)))))) .d)))))),⟨[(106,F106.c)],gl,false⟩,[(195,.d)],f115⟩
def t6(a:LI)(b g:Int)(f:LI):S:=⟨[(6,.fn 195 [.ptr 0 []]),(7,.own 1),(17,vl a),(18,vi (Ac a)),(19,vi b)],[.box 3 (vi g),Ai 3 f],[]⟩
def z6:Nat->S->Option R_:=H.i P_ [r,r,r,r,r,l,r,d]
def x10(f:LI):Option R_:=H.e P_ [r,r,r,r,r,r] ⟨[(7,.own 0)],[Ai 3 f],[]⟩
def x8(qP:K_)(a:LI)(b g h:Int)(k:LI):Option R_:=H.e P_ [r,r,r,r,r,l,r,d,(lp qP),r,r,r] ⟨[(6,.fn 195 [.ptr 0 []]),(7,.own 1),(17,vl a),(18,vi (Ac a)),(19,vi b)],[.box 3 (vi (Aa g h)),Ai 3 k],[]⟩
def x6(a:LI)(b g:Int)(f:LI):Option R_:=H.e P_ [r,r,r,r,r,l,r,d] (t6 a b g f)
theorem e10:x10=Pr:=by kernel_rfl
theorem e8(qP:K_)(a:LI):x8 qP a=Ry (λb g f=>qP (t6 a b g f)) a:=by kernel_rfl
theorem i6(a:LI):∀(q:Nat) (b g:Int) (f:LI),z6 q (t6 a b g f)=Km a q b g f:=
 ind (λ_ _ _=>by kernel_rfl) λq ih b g f=>Eq.trans (b:=Rs (x8 (z6 q) a) x10 a b g f) (by kernel_rfl) (by simp only[e8,e10,ih]<;>rfl)
theorem e6:x6=Sm:=by funext a b g f;exact Eq.trans (by kernel_rfl) ((i6 a Bn b g f).trans (by rw[Al];rfl))
def F:=Rf
theorem rn x:H.u P_ x=F x:=Eq.trans (b:=Rz x6 x) (by kernel_rfl) (by simp only[e6]<;>rfl)
def c:Con:=⟨H.p,H.r,F⟩
theorem ok:ConOk P_ gl 115 c:=cr H func115 (.cons F106.ok .nil) (Bt.cons ent195 Bt.nil) rn
end F115
namespace F124
def H:Hd:=⟨[Sb],[Sb,Si],.d,⟨[(104,F104.c),(192,F192.c)],gl,false⟩,[],f124⟩
def F:=Yn
theorem rn x:H.u P_ x=F x:=by kernel_rfl
def c:Con:=⟨H.p,H.r,F⟩
theorem ok:ConOk P_ gl 124 c:=co H func124 (.cons F104.ok (.cons F192.ok .nil)) rn
end F124
namespace F125
def H:Hd:=⟨[Sb],[.agg [Ob 5,Si],Si],.d,⟨[(200,F200.c)],gl,false⟩,[],f125⟩
def F:=bK
theorem rn x:H.u P_ x=F x:=by kernel_rfl
def c:Con:=⟨H.p,H.r,F⟩
theorem ok:ConOk P_ gl 125 c:=co H func125 (.cons F200.ok .nil) rn
end F125
namespace F205
abbrev R_:=UInt64
def H:Hd:=⟨[.agg [Sb,Si],Si,Si],[Sq],(.seq .d (.seq .d (.cut [7] [] (.blk (.loop [1,2,3,7,8] [] .d)) .d))),⟨[],gl,false⟩,[],f205⟩
def t4(b f:Int)(h:LB)(k:Int)(g:UInt64)(a:Int):S:=⟨[(1,vi b),(2,vi f),(3,.ptr 0 []),(7,vq g),(8,vi a)],[.box 183 (.agg [vb h,vi k])],[]⟩
def z4:Nat->S->Option R_:=H.i P_ [r,r,l,d]
def x6(g:UInt64):Option R_:=H.e P_ [r,r,r] ⟨[(7,vq g)],[],[]⟩
def x4(b f:Int)(h:LB)(k:Int)(g:UInt64)(a:Int):Option R_:=H.e P_ [r,r,l,d] (t4 b f h k g a)
theorem e6:x6=KP:=by kernel_rfl
theorem i4(b f:Int)(h:LB)(k:Int):∀(q:Nat) (g:UInt64) (a:Int),z4 q (t4 b f h k g a)=Yr b f h k q g a:=
 ind (λ_ _=>by kernel_rfl) λq ih g a=>Eq.trans (b:=KL x6 (λg a=>(z4 q) (t4 b f h k g a)) b f h k g a) (by kernel_rfl) (by simp only[e6,ih]<;>rfl)
theorem e4:x4=KG:=by funext b f h k g a;exact Eq.trans (by kernel_rfl) ((i4 b f h k Bn g a).trans (by rw[Al];rfl))
def F:=u4 QD
theorem rn x:H.u P_ x=F x:=Eq.trans (b:=u4 (JP x4) x) (by kernel_rfl) (by simp only[e4]<;>rfl)
def c:Con:=⟨H.p,H.r,F⟩
theorem ok:ConOk P_ gl 205 c:=co H func205 .nil rn
end F205
namespace F202
abbrev R_:=(LB×Int×Int)
abbrev K_:=S->Option R_
def H:Hd:=⟨[.agg [Sb,Si],Si,Si],[.agg [Ob 5,Si],Si],(.seq .d (.seq .d (.seq .d (.seq .d (.cut [6,8] [] (.seq .d (.blk (.loop [2,3,6,8,9] [⟨8,[0],.own 5 (.int .u8)⟩] (.seq .d (.cut [2,3,6,8,9] [] (.blk (.seq .d (.keep [2,3,6,8,9,10,39,40,41,42,43] true))) .d))))) .d))))),⟨[(204,F204.c),(205,F205.c)],gl,false⟩,[(284,(.blk (.loop [0,1,2] [] (.seq .d (.blk (.cut [0,1,2] [] .d (.seq .d (.cut [0,1,2,7] [] .d .d))))))))],f202⟩
def t44(a:Int)(g:LB)(f b:Int)(k n:UInt64)(m h:Int)(u:LB):S:=⟨[(0,.ptr 0 []),(1,vq n),(2,vi m)],[.box 183 (.agg [.own 3,vi h]),.box 183 (.agg [vb g,vi f]),.box 183 (.agg [.nils,vi 0]),Ab 5 u],[[(2,vi a),(3,.ptr 1 []),(6,.ptr 2 []),(8,.ptr 0 []),(9,vi b),(10,vi (De (64:Int) (Af a b))),(39,.agg [vb g,vi f]),(40,vi b),(41,vi (De (64:Int) (Af a b))),(42,vq k),(43,vi (De (64:Int) (Af a b)))]]⟩
def z44(Dk:K_):Nat->S->Option R_:=H.i P_ [r,r,r,r,l,r,d,(lp Dk),r,l,d,r,(call 5 284),d]
def t27(a:Int)(g:LB)(f b o:Int)(p:LB):S:=⟨[(2,vi a),(3,.ptr 0 []),(6,.ptr 1 []),(8,.ptr 2 []),(9,vi b)],[.box 183 (.agg [vb g,vi f]),.box 183 (.agg [.nils,vi 0]),.box 183 (.agg [.own 3,vi o]),Ab 5 p],[]⟩
def z27:Nat->S->Option R_:=H.i P_ [r,r,r,r,l,r,d]
def x52(o:Int)(p:LB):Option R_:=H.e P_ [r,r,r,r,r] ⟨[(6,.ptr 0 []),(8,.ptr 1 [])],[.box 183 (.agg [.nils,vi 0]),.box 183 (.agg [.own 2,vi o]),Ab 5 p],[]⟩
def x50(Dk:K_)(a:Int)(g:LB)(f b h:Int)(u:LB):Option R_:=H.e P_ [r,r,r,r,l,r,d,(lp Dk),r,r] ⟨[(2,vi a),(3,.ptr 0 []),(6,.ptr 1 []),(8,.ptr 2 []),(9,vi b)],[.box 183 (.agg [vb g,vi f]),.box 183 (.agg [.nils,vi 0]),.box 183 (.agg [.own 3,vi h]),Ab 5 u],[]⟩
def x48(Dk Ri:K_)(a b:Int)(g:LB)(f:Int)(k n:UInt64)(m h:Int)(w:LB):Option R_:=H.e P_ [r,r,r,r,l,r,d,(lp Dk),r,l,d,r,(call 5 284),d,(lp Ri),r,d,r,r,r] ⟨[(0,.ptr 0 []),(1,vq n),(2,vi m),(7,vi (De m (Af (8:Int) (Cp h (7:Int)))))],[.box 183 (.agg [.own 3,vi h]),.box 183 (.agg [vb g,vi f]),.box 183 (.agg [.nils,vi 0]),Ab 5 w],[[(2,vi a),(3,.ptr 1 []),(6,.ptr 2 []),(8,.ptr 0 []),(9,vi b),(10,vi (De (64:Int) (Af a b))),(39,.agg [vb g,vi f]),(40,vi b),(41,vi (De (64:Int) (Af a b))),(42,vq k),(43,vi (De (64:Int) (Af a b)))]]⟩
def x47(Dk Ri:K_)(a b:Int)(g:LB)(f:Int)(k n:UInt64)(m h:Int)(v:LB):Option R_:=H.e P_ [r,r,r,r,l,r,d,(lp Dk),r,l,d,r,(call 5 284),d,(lp Ri),r,d,r] ⟨[(0,.ptr 0 []),(1,vq n),(2,vi m)],[.box 183 (.agg [.own 3,vi h]),.box 183 (.agg [vb g,vi f]),.box 183 (.agg [.nils,vi 0]),Ab 5 v],[[(2,vi a),(3,.ptr 1 []),(6,.ptr 2 []),(8,.ptr 0 []),(9,vi b),(10,vi (De (64:Int) (Af a b))),(39,.agg [vb g,vi f]),(40,vi b),(41,vi (De (64:Int) (Af a b))),(42,vq k),(43,vi (De (64:Int) (Af a b)))]]⟩
def x44(Dk:K_)(a:Int)(g:LB)(f b:Int)(k n:UInt64)(m h:Int)(u:LB):Option R_:=H.e P_ [r,r,r,r,l,r,d,(lp Dk),r,l,d,r,(call 5 284),d] (t44 a g f b k n m h u)
def x27(a:Int)(g:LB)(f b o:Int)(p:LB):Option R_:=H.e P_ [r,r,r,r,l,r,d] (t27 a g f b o p)
theorem e52:x52=FM:=by kernel_rfl
theorem e50(Dk:K_)(a:Int)(g:LB)(f:Int):x50 Dk a g f=EY (λb o p=>Dk (t27 a g f b o p)) a g f:=by kernel_rfl
theorem e48(Dk Ri:K_)(a:Int)(g:LB)(f b:Int)(k:UInt64):x48 Dk Ri a b g f k=GW (λn m h u=>Ri (t44 a g f b k n m h u)) a b g f k:=by kernel_rfl
theorem e47(Dk Ri:K_)(a:Int)(g:LB)(f b:Int)(k:UInt64):x47 Dk Ri a b g f k=GF (λn m h u=>Ri (t44 a g f b k n m h u)) a b g f k:=Eq.trans (b:=HU (x48 Dk Ri a b g f k) a b g f k) (by kernel_rfl) (by simp only[e48]<;>rfl)
theorem i44(Dk:K_)(a:Int)(g:LB)(f b:Int)(k:UInt64):∀(q:Nat) (n:UInt64) (m h:Int) (u:LB),z44 Dk q (t44 a g f b k n m h u)=Tg (λb o p=>Dk (t27 a g f b o p)) a g f b k q n m h u:=
 ind (λ_ _ _ _=>by kernel_rfl) λq ih n m h u=>Eq.trans (b:=FT (x47 Dk (z44 Dk q) a b g f k) (x50 Dk a g f) a g f b k n m h u) (by kernel_rfl) (by simp only[e47,e50,ih]<;>rfl)
theorem e44(Dk:K_)(a:Int)(g:LB)(f:Int):x44 Dk a g f=HC (λb o p=>Dk (t27 a g f b o p)) a g f:=by funext b k n m h u;exact Eq.trans (by kernel_rfl) ((i44 Dk a g f b k Bn n m h u).trans (by rw[Al];rfl))
theorem i27(a:Int)(g:LB)(f:Int):∀(q:Nat) (b o:Int) (p:LB),z27 q (t27 a g f b o p)=Td a g f q b o p:=
 ind (λ_ _ _=>by kernel_rfl) λq ih b o p=>Eq.trans (b:=GZ (x44 (z27 q) a g f) x52 a g f b o p) (by kernel_rfl) (by simp only[e44,e52,ih]<;>rfl)
theorem e27:x27=EW:=by funext a g f b o p;exact Eq.trans (by kernel_rfl) ((i27 a g f Bn b o p).trans (by rw[Al];rfl))
def F:=u4 OY
theorem rn x:H.u P_ x=F x:=Eq.trans (b:=u4 (KO x27) x) (by kernel_rfl) (by simp only[e27]<;>rfl)
def c:Con:=⟨H.p,H.r,F⟩
theorem ok:ConOk P_ gl 202 c:=cr H func202 (.cons F204.ok (.cons F205.ok .nil)) (Bt.cons ent284 Bt.nil) rn
end F202
namespace F127
def H:Hd:=⟨[.agg [Sb,Si],Si,Si],[Sq,Si],.d,⟨[(204,F204.c),(205,F205.c)],gl,false⟩,[],f127⟩
def F:=u4 Oe
theorem rn x:H.u P_ x=F x:=by kernel_rfl
def c:Con:=⟨H.p,H.r,F⟩
theorem ok:ConOk P_ gl 127 c:=co H func127 (.cons F204.ok (.cons F205.ok .nil)) rn
end F127
namespace F365
def H:Hd:=⟨[Sq],[Si],.d,⟨[],gl,false⟩,[],f365⟩
def F:=Gv
theorem rn x:H.u P_ x=F x:=by kernel_rfl
def c:Con:=⟨H.p,H.r,F⟩
theorem ok:ConOk P_ gl 365 c:=co H func365 .nil rn
end F365
namespace F341
def Pf(j6:Int->UInt64->Int->LB->Int->Option (Int×Int×Int))(g:LB)(b a:Int):Option (Int×Int×Int):=
(Ei g b).bind λm=>
if(Bl m 0)then
some (0,0,m)
else
if(Cq a 0)then
some (0,0,2)
else
if(Hc a b)then
some (0,0,24)
else
(λn:Option (Int×Int×Int)=>
(λo:Option (Int×Int×Int)=>
rX (
o)) (
bo (
n))) (
(Oe g b a (De 48 (Af b a))).bind λ(k,h)=>
j6 h k a g b)
theorem FD: @Pf= @Qy:=by
  unfold Pf Qy;simp only[LA,Wr,Zm]
abbrev R_:=(Int×Int×Int)
def H:Hd:=⟨[.agg [Sb,Si],Si],[Si,Si,Si],(.seq .d (.seq .d (.seq .d (.seq .d (.seq .d (.cut [3,5,6,8,9] [] (.keep [2,3,5,6,8,9,22,23,24,25,26,27,28,29] false) (.seq .d (.seq .d (.cut [] [] (.blk (.seq (.blk (.seq (.blk (.cut [] [] (.cut [3,4,5] [] (.cut [3,4,5,36] [] (.keep [3,4,5,8,36,37,38,39,40] true) .d) .d) .d)) .d)) .d)) .d))))))))),⟨[(127,F127.c),(204,F204.c),(365,F365.c)],gl,false⟩,[(364,.d)],f341⟩
def x10:Option R_:=H.e P_ [r,r,r,r,r,r,r,r,r] ⟨[],[],[]⟩
def x9:Option R_:=H.e P_ [r,r,r,r,r,r,r,r,l,d,l,d,l,d,r] ⟨[],[],[]⟩
def x8(f a:Int):Option R_:=H.e P_ [r,r,r,r,r,r,r,r,l,d,l,d,l,d,l,r] ⟨[(3,.ptr 0 []),(4,vi f),(5,vi 0)],[.box 3 (vi a)],[]⟩
def x7(f b a:Int):Option R_:=H.e P_ [r,r,r,r,r,r,r,r,l,d,l,d,l,d,l,l,r] ⟨[(3,.ptr 0 []),(4,vi f),(5,vi 0),(36,vt (Cq f (De (48:Int) (Af b a))))],[.box 3 (vi a)],[]⟩
def x6(h:Int)(k:UInt64)(a:Int)(g:LB)(b:Int):Option R_:=H.e P_ [r,r,r,r,r,r] ⟨[(3,.ptr 0 []),(5,vi 0),(6,vi h),(8,.fn 364 [.ptr 1 [],.ptr 0 []]),(9,vq k)],[.box 3 (vi a),.box 183 (.agg [vb g,vi b])],[]⟩
theorem e10:x10=Yc:=by kernel_rfl
theorem e9:x9=BT:=Eq.trans (b:=DB x10) (by kernel_rfl) (by simp only[e10]<;>rfl)
theorem e8:x8=CO:=Eq.trans (b:=CA x9) (by kernel_rfl) (by simp only[e9]<;>rfl)
theorem e7:x7=CY:=Eq.trans (b:=CJ x8) (by kernel_rfl) (by simp only[e8]<;>rfl)
theorem e6:x6=BY:=Eq.trans (b:=CR x7) (by kernel_rfl) (by simp only[e7]<;>rfl)
def F:=u3 PC
theorem rn x:H.u P_ x=F x:=Eq.trans (b:=u3 (Pf x6) x) (by kernel_rfl) (by unfold F;rw[FD];simp only[e6]<;>rfl)
def c:Con:=⟨H.p,H.r,F⟩
theorem ok:ConOk P_ gl 341 c:=cr H func341 (.cons F127.ok (.cons F204.ok (.cons F365.ok .nil))) (Bt.cons ent364 Bt.nil) rn
end F341
namespace F285
abbrev R_:=(UInt32×Int×Int)
def H:Hd:=⟨[.agg [Sb,Si],Si,Si],[Su,Si,Si],(.seq .d (.seq .d (.seq .d (.seq .d (.seq .d (.seq .d (.cut [2,3,7,10,11] [] .d .d))))))),⟨[(127,F127.c),(204,F204.c),(333,F333.c),(341,F341.c)],gl,false⟩,[],f285⟩
def x2(a b f:Int)(g:LB)(h k:Int):Option R_:=H.e P_ [r,r,r,r,r,r,r] ⟨[(2,vi a),(3,.ptr 0 []),(7,vi b),(10,vi f),(11,vi k)],[.box 183 (.agg [vb g,vi h])],[]⟩
theorem e2:x2=HI:=by kernel_rfl
def F:=u4 SM
theorem rn x:H.u P_ x=F x:=Eq.trans (b:=u4 (GP x2) x) (by kernel_rfl) (by simp only[e2]<;>rfl)
def c:Con:=⟨H.p,H.r,F⟩
theorem ok:ConOk P_ gl 285 c:=co H func285 (.cons F127.ok (.cons F204.ok (.cons F333.ok (.cons F341.ok .nil)))) rn
end F285
namespace F203
abbrev R_:=(UInt32×Int×Int×Int×UInt64×UInt64×Int)
def H:Hd:=⟨[.agg [Sb,Si],Si,.agg [Si,Si,Sq,Sq]],[Su,Si,.agg [Si,Si,Sq,Sq],Si],(.seq .d (.cut [1,3,5,8] [] .d (.seq .d (.seq .d (.cut [5,6,7,8] [] .d (.cut [5,6,7,8] [] (.keep [5,6,7,8,81] true) .d)))))),⟨[(127,F127.c),(204,F204.c),(271,F271.c),(272,F272.c),(285,F285.c)],gl,false⟩,[(275,(.seq .d (.seq .d (.seq .d (.blk (.cut [0,1,4] [] (.blk (.seq .d (.keep [0,1,4,6,18,19,20,21,22,23,24,25] true))) (.cut [] [] (.keep [0,1,4,27,28,29,30,31,32,33,34] true) .d))))))),(335,.d)],f203⟩
def x10(f:UInt32)(k w m:Int)(a n:UInt64):Option R_:=H.e P_ [r,r,r,r,r,r] ⟨[(5,.ptr 0 []),(6,vu f),(7,vi k),(8,.ptr 1 [])],[.box 254 (.agg [vi w,vi m,vq (Aa a (Af (Am f:UInt64) (Bp a (GI.toZ (4:UInt64)).toNat))),vq n]),.box 254 (.agg [vi 0,vi 0,vq 0,vq 0])],[]⟩
def x9(f:UInt32)(k m:Int)(a n:UInt64)(w:Int):Option R_:=H.e P_ [r,r,r,r,r,l,(call 1 275),r,r,r,d,r,r] ⟨[],[.box 254 (.agg [vi w,vi m,vq (Aa a (Af (Am f:UInt64) (Bp a (GI.toZ (4:UInt64)).toNat))),vq n]),.box 254 (.agg [vi 0,vi 0,vq 0,vq 0])],[[(5,.ptr 0 []),(6,vu f),(7,vi k),(8,.ptr 1 []),(81,vu f)]]⟩
def x8(f:UInt32)(k b:Int)(a:UInt64)(m:Int)(n:UInt64):Option R_:=H.e P_ [r,r,r,r,r,l,(call 1 275),r,r,r,d,r] ⟨[(0,.ptr 0 []),(1,vu f),(4,.fn 335 [])],[.box 254 (.agg [vi b,vi m,vq a,vq n]),.box 254 (.agg [vi 0,vi 0,vq 0,vq 0])],[[(5,.ptr 0 []),(6,vu f),(7,vi k),(8,.ptr 1 []),(81,vu f)]]⟩
def x7(b h:Int)(a g:UInt64)(f:UInt32)(k:Int):Option R_:=H.e P_ [r,r,r,r,r] ⟨[(5,.ptr 0 []),(6,vu f),(7,vi k),(8,.ptr 1 [])],[.box 254 (.agg [vi b,vi h,vq a,vq g]),.box 254 (.agg [vi 0,vi 0,vq 0,vq 0])],[]⟩
def x6(p:Int)(u:LB)(v b h:Int)(a g:UInt64):Option R_:=H.e P_ [r,r] ⟨[(1,vi p),(3,.ptr 0 []),(5,.ptr 1 []),(8,.ptr 2 [])],[.box 183 (.agg [vb u,vi v]),.box 254 (.agg [vi b,vi h,vq a,vq g]),.box 254 (.agg [vi 0,vi 0,vq 0,vq 0])],[]⟩
theorem e10:x10=CD:=by kernel_rfl
theorem e9:x9=FA:=Eq.trans (b:=HD x10) (by kernel_rfl) (by simp only[e10]<;>rfl)
theorem e8:x8=HG:=Eq.trans (b:=HO x9) (by kernel_rfl) (by simp only[e9]<;>rfl)
theorem e7:x7=FQ:=Eq.trans (b:=FN x8) (by kernel_rfl) (by simp only[e8]<;>rfl)
theorem e6:x6=HR:=Eq.trans (b:=GA x7) (by kernel_rfl) (by simp only[e7]<;>rfl)
def F:=u7 Rt
theorem rn x:H.u P_ x=F x:=Eq.trans (b:=u7 (HV x6) x) (by kernel_rfl) (by simp only[e6]<;>rfl)
def c:Con:=⟨H.p,H.r,F⟩
theorem ok:ConOk P_ gl 203 c:=cr H func203 (.cons F127.ok (.cons F204.ok (.cons F271.ok (.cons F272.ok (.cons F285.ok .nil))))) (Bt.cons ent275 (Bt.cons ent335 Bt.nil)) rn
end F203
namespace F126
def Hl(j21:Int->Int->Int->UInt32->Int-> (List (Int×Int×UInt64×UInt64×Unit))->LU->Int->Int->UInt64->UInt64->Option (LU×Int×Int))(j24:Int->LU->Option (LU×Int×Int))(a f:Int)(g:LB)(b k h:Int)(n:List (Int×Int×UInt64×UInt64×Unit))(m:LU):Option (LU×Int×Int):=
if(Cq h (Di f a))then
(OY g b k (De (Aa k 81) b)).bind λ(ah,ae,af)=>
if(Bl af 0)then
some (([]:LU),0,af)
else
(Dy (Bl a 0)).bind λ_=>
(Ah n (Fv h a)).bind λ_=>
(λai:Option (LU×Int×Int)=>
both (
both (
(Ah n (Fv h a)).bind λp=>
(λao:Option (LU×Int×Int)=>
bo (
ao)) (
(Rt ah ae 0 p.1 p.2.1 p.2.2.1 p.2.2.2.1).bind λ(w,v,aa,ab,ac,ad,y)=>
j21 k h y w v n m aa ab ac ad)) [
ai]) [
(Ah n (Fv h a)).bind λp=>
(λaj:Option (LU×Int×Int)=>
both (
bo (
aj)) [
aj]) (
(Rt ah ae 0 p.1 p.2.1 p.2.2.1 p.2.2.2.1).bind λ(w,v,aa,ab,ac,ad,y)=>
j21 k h y w v n m aa ab ac ad),
bo (
ai)]) (
(Ah n (Fv h a)).bind λp=>
(Rt ah ae 0 p.1 p.2.1 p.2.2.1 p.2.2.2.1).bind λ(w,v,aa,ab,ac,ad,y)=>
j21 k h y w v n m aa ab ac ad)
else
j24 k m
theorem Ub: @Hl= @It:=by
  unfold Hl It
  try simp only[LA,Wr,Zm]
  all_goals
    repeat (refine funext λ_=>?_)
    repeat' first
      |with_reducible rfl
      |with_reducible refine Hx ?_ ?_
      |with_reducible refine Hn ?_ ?_ ?_
      |with_reducible refine Ia ?_ ?_ ?_ ?_
      |((with_reducible refine Kv ?_ ?_);focus (intro h;first|(subst h;rfl)|(simp only[h];rfl)|(simp[Dp,Ac,h];done)))
      |with_reducible refine Kn λx=>?_
      |with_reducible refine Qr (λ_=>?_) (λ_=>?_)
      |(refine Eo (λh=>by simp only[h,Kr,Dt,Dm,ite_self]) (λx h=>?_);(try simp only[h,Dt]))
      |(refine Fs (λh=>?_) (λh=>?_)<;>simp only[h,if_true,if_false,Bool.false_eq_true])
abbrev R_:=(LU×Int×Int)
abbrev K_:=S->Option R_
def H:Hd:=⟨[Si,Si,.agg [Sb,Si]],[Ov 43,Si,Si],(.seq .d (.seq .d (.cut [0,1,5,9] [] (.seq .d (.blk (.loop [0,1,5,9,19] [] .d))) (.seq .d (.seq .d (.cut [11,12] [] (.seq .d (.blk (.loop [0,5,9,11,12,28,29] [⟨11,[],.own 43 (.int .u32)⟩] (.seq .d (.seq .d (.seq (.blk (.seq .d (.seq .d (.seq .d (.cut [0,5,9,11,12,13,15,16,17,18,28,29] [] (.mode false) (.seq .d (.cut [0,5,9,11,12,16,28,29] [] .d .d))))))) .d)))))) .d)))))),⟨[(201,F201.c),(202,F202.c),(203,F203.c)],gl,false⟩,[],f126⟩
def t16(a f:Int)(g:LB)(b k h:Int)(n:List (Int×Int×UInt64×UInt64×Unit))(m:LU):S:=⟨[(0,vi a),(5,.ptr 0 []),(9,.ptr 1 []),(11,.own 2),(12,vi k),(28,vi (Di f a)),(29,vi h)],[.box 183 (.agg [vb g,vi b]),.box 255 (.val (.vec 6 (.cons (.int .i64) (.cons (.int .i64) (.cons (.int .u64) (.cons (.int .u64) .nil))))) n),Av 43 m],[]⟩
def z16:Nat->S->Option R_:=H.i P_ [r,r,r,r,r,l,r,d]
def t13(a f:Int)(g:LB)(b u:Int)(o:List (Int×Int×UInt64×UInt64×Unit)):S:=⟨[(0,vi a),(1,vi f),(5,.ptr 0 []),(9,.ptr 1 []),(19,vi u)],[.box 183 (.agg [vb g,vi b]),.box 255 (.val (.vec 6 (.cons (.int .i64) (.cons (.int .i64) (.cons (.int .u64) (.cons (.int .u64) .nil))))) o)],[]⟩
def z13:Nat->S->Option R_:=H.i P_ [r,r,l,r,d]
def x24(k:Int)(m:LU):Option R_:=H.e P_ [r,r,r,r,r,r] ⟨[(11,.own 0),(12,vi k)],[Av 43 m],[]⟩
def x22(Bm:K_)(a f:Int)(g:LB)(b k v:Int)(w:UInt32)(h:Int)(ag:List (Int×Int×UInt64×UInt64×Unit))(m:LU):Option R_:=H.e P_ [r,r,r,r,r,l,r,d,(lp Bm),r,r,l,d,r,r,r,r,r,r] ⟨[(0,vi a),(5,.ptr 0 []),(9,.ptr 1 []),(11,.own 2),(12,vi (Aa k v)),(16,vu w),(28,vi (Di f a)),(29,vi h)],[.box 183 (.agg [vb g,vi b]),.box 255 (.val (.vec 6 (.cons (.int .i64) (.cons (.int .i64) (.cons (.int .u64) (.cons (.int .u64) .nil))))) ag),Av 43 m],[]⟩
def x21(Bm:K_)(a f:Int)(g:LB)(b k h y:Int)(w:UInt32)(v:Int)(n:List (Int×Int×UInt64×UInt64×Unit))(m:LU)(aa ab:Int)(ac ad:UInt64):Option R_:=H.e P_ [r,r,r,r,r,l,r,d,(lp Bm),r,r,l,d,r,r,r,r] ⟨[(0,vi a),(5,.ptr 0 []),(9,.ptr 1 []),(11,.own 2),(12,vi k),(13,vi h),(15,vi y),(16,vu w),(17,vi v),(18,.ptr 3 []),(28,vi (Di f a)),(29,vi h)],[.box 183 (.agg [vb g,vi b]),.box 255 (.val (.vec 6 (.cons (.int .i64) (.cons (.int .i64) (.cons (.int .u64) (.cons (.int .u64) .nil))))) n),Av 43 m,.box 254 (.agg [vi aa,vi ab,vq ac,vq ad])],[]⟩
def x16(a f:Int)(g:LB)(b k h:Int)(n:List (Int×Int×UInt64×UInt64×Unit))(m:LU):Option R_:=H.e P_ [r,r,r,r,r,l,r,d] (t16 a f g b k h n m)
def x15(a f:Int)(g:LB)(b:Int)(o:List (Int×Int×UInt64×UInt64×Unit)):Option R_:=H.e P_ [r,r,r] ⟨[(0,vi a),(1,vi f),(5,.ptr 0 []),(9,.ptr 1 [])],[.box 183 (.agg [vb g,vi b]),.box 255 (.val (.vec 6 (.cons (.int .i64) (.cons (.int .i64) (.cons (.int .u64) (.cons (.int .u64) .nil))))) o)],[]⟩
def x13(a f:Int)(g:LB)(b u:Int)(o:List (Int×Int×UInt64×UInt64×Unit)):Option R_:=H.e P_ [r,r,l,r,d] (t13 a f g b u o)
theorem e24:x24=Oi:=by kernel_rfl
theorem e22(Bm:K_)(a f:Int)(g:LB)(b:Int):x22 Bm a f g b=Nc (λk h n m=>Bm (t16 a f g b k h n m)) a f g b:=by kernel_rfl
theorem e21(Bm:K_)(a f:Int)(g:LB)(b:Int):x21 Bm a f g b=Nw (λk h n m=>Bm (t16 a f g b k h n m)) a f g b:=Eq.trans (b:=Nu (x22 Bm a f g b) a f g b) (by kernel_rfl) (by simp only[e22]<;>rfl)
theorem i16(a f:Int)(g:LB)(b:Int):∀(q:Nat) (k h:Int) (n:List (Int×Int×UInt64×UInt64×Unit)) (m:LU),z16 q (t16 a f g b k h n m)=Im a f g b q k h n m:=
 ind (λ_ _ _ _=>by kernel_rfl) λq ih k h n m=>Eq.trans (b:=Hl (x21 (z16 q) a f g b) x24 a f g b k h n m) (by kernel_rfl) (by rw[Ub];simp only[e21,e24,ih]<;>rfl)
theorem e16:x16=Oy:=by funext a f g b k h n m;exact Eq.trans (by kernel_rfl) ((i16 a f g b Bn k h n m).trans (by rw[Al];rfl))
theorem e15:x15=Mu:=Eq.trans (b:=Mx x16) (by kernel_rfl) (by simp only[e16]<;>rfl)
theorem i13(a f:Int)(g:LB)(b:Int):∀(q:Nat) (u:Int) (o:List (Int×Int×UInt64×UInt64×Unit)),z13 q (t13 a f g b u o)=Io a f g b q u o:=
 ind (λ_ _=>by kernel_rfl) λq ih u o=>Eq.trans (b:=Nf x15 (λu o=>(z13 q) (t13 a f g b u o)) a f g b u o) (by kernel_rfl) (by simp only[e15,ih]<;>rfl)
theorem e13:x13=Pb:=by funext a f g b u o;exact Eq.trans (by kernel_rfl) ((i13 a f g b Bn u o).trans (by rw[Al];rfl))
def F:=u4 Yi
theorem rn x:H.u P_ x=F x:=Eq.trans (b:=u4 (Py x13) x) (by kernel_rfl) (by simp only[e13]<;>rfl)
def c:Con:=⟨H.p,H.r,F⟩
theorem ok:ConOk P_ gl 126 c:=co H func126 (.cons F201.ok (.cons F202.ok (.cons F203.ok .nil))) rn
end F126
namespace F208
def H:Hd:=⟨[Su],[Sx],.d,⟨[],gl,false⟩,[],f208⟩
def F:=Kj
theorem rn x:H.u P_ x=F x:=by kernel_rfl
def c:Con:=⟨H.p,H.r,F⟩
theorem ok:ConOk P_ gl 208 c:=co H func208 .nil rn
end F208
namespace F289
def H:Hd:=⟨[.agg [Si,.lf (.vec 16 (.int .i32)) none,.lf (.vec 16 (.int .i32)) none],Sx],[Sx,.agg [Si,.lf (.vec 16 (.int .i32)) none,.lf (.vec 16 (.int .i32)) none],Si],.d,⟨[(344,F344.c),(345,F345.c)],gl,false⟩,[],f289⟩
def F:=u4 QO
theorem rn x:H.u P_ x=F x:=by kernel_rfl
def c:Con:=⟨H.p,H.r,F⟩
theorem ok:ConOk P_ gl 289 c:=co H func289 (.cons F344.ok (.cons F345.ok .nil)) rn
end F289
namespace F207
def Nv(a:Int)(b:Int32)(f:Int)(g h:LX)(o:Int32):Option (Int32×Int×Int32×Int×LX×LX×Int):=
(Lb a b f g h).bind λk=>
if(Bl k 0)then
some (0,0,0,0,(List.replicate 16 (0:Int32)),(List.replicate 16 (0:Int32)),k)
else
(Ld a b).bind λ(m,y)=>
(QO f g h o).bind λ(n,p,u,v,w)=>
(λaa:Option (Int32×Int×Int32×Int×LX×LX×Int)=>
bo (
aa)) (
some ((Aa n m),a,(Aa n m),p,u,v,w))
theorem FW: @Nv= @Es:=by
  unfold Nv Es;simp only[LA,Wr,Zm]
def H:Hd:=⟨[.agg [Si,Sx,.agg [Si,.lf (.vec 16 (.int .i32)) none,.lf (.vec 16 (.int .i32)) none]],Sx],[Sx,.agg [Si,Sx,.agg [Si,.lf (.vec 16 (.int .i32)) none,.lf (.vec 16 (.int .i32)) none]],Si],(.seq .d (.seq .d (.seq .d (.seq .d (.seq (.mode false) .d))))),⟨[(287,F287.c),(288,F288.c),(289,F289.c)],gl,false⟩,[],f207⟩
def F:=u6 Es
theorem rn x:H.u P_ x=F x:=Eq.trans (b:=u6 Nv x) (by kernel_rfl) (by rw[FW];rfl)
def c:Con:=⟨H.p,H.r,F⟩
theorem ok:ConOk P_ gl 207 c:=co H func207 (.cons F287.ok (.cons F288.ok (.cons F289.ok .nil))) rn
end F207
namespace F209
abbrev R_:=(LX×Int)
abbrev K_:=S->Option R_
def H:Hd:=⟨[Si,Sw],[Ow 21,Si],(.seq .d (.seq .d (.seq .d (.cut [7] [] (.seq .d (.blk (.loop [0,7,8] [] (.seq .d (.cut [0,7,8] [] (.blk (.keep [0,7,8,24,25,26,27,28,29] true)) .d))))) .d)))),⟨[(290,F290.c),(291,F291.c)],gl,true⟩,[(292,(.seq .d (.cut [0,2] [] .d (.seq .d (.blk (.loop [0,3] [] .d))))))],f209⟩
def t18(b a g:Int)(h:LX):S:=⟨[(0,.view true 0 [] (.int .i32) a ((Aa a b)-a)),(3,vi g)],[Aw 21 h],[[(0,vi b),(7,.own 0),(8,vi a),(24,.own 0),(25,vi a),(26,vi a),(27,vi b),(28,vi (Aa a b)),(29,.view true 0 [] (.int .i32) a ((Aa a b)-a))]]⟩
def z18(Ej:K_):Nat->S->Option R_:=H.i P_ [r,r,r,l,r,d,(lp Ej),r,l,d,(call 6 292),r,r,r,d]
def t12(b a:Int)(f:LX):S:=⟨[(0,vi b),(7,.own 0),(8,vi a)],[Aw 21 f],[]⟩
def z12:Nat->S->Option R_:=H.i P_ [r,r,r,l,r,d]
def x22(f:LX):Option R_:=H.e P_ [r,r,r,r] ⟨[(7,.own 0)],[Aw 21 f],[]⟩
def x20(Ej:K_)(b a:Int)(h:LX):Option R_:=H.e P_ [r,r,r,l,r,d,(lp Ej),r,r] ⟨[(0,vi b),(7,.own 0),(8,vi a)],[Aw 21 h],[]⟩
def x18(Ej:K_)(b a g:Int)(h:LX):Option R_:=H.e P_ [r,r,r,l,r,d,(lp Ej),r,l,d,(call 6 292),r,r,r,d] (t18 b a g h)
def x17(Ej:K_)(b a:Int)(k:LX):Option R_:=H.e P_ [r,r,r,l,r,d,(lp Ej),r,l,d,(call 6 292),r,r] ⟨[(0,.view true 0 [] (.int .i32) a ((Aa a b)-a)),(2,vi (Af ((Aa a b)-a) (1:Int)))],[Aw 21 k],[[(0,vi b),(7,.own 0),(8,vi a),(24,.own 0),(25,vi a),(26,vi a),(27,vi b),(28,vi (Aa a b)),(29,.view true 0 [] (.int .i32) a ((Aa a b)-a))]]⟩
def x12(b a:Int)(f:LX):Option R_:=H.e P_ [r,r,r,l,r,d] (t12 b a f)
theorem e22:x22=FO:=by kernel_rfl
theorem e20(Ej:K_)(b:Int):x20 Ej b=GM (λa f=>Ej (t12 b a f)) b:=by kernel_rfl
theorem i18(Ej:K_)(b a:Int):∀(q:Nat) (g:Int) (h:LX),z18 Ej q (t18 b a g h)=Tu (λa f=>Ej (t12 b a f)) b a q g h:=
 ind (λ_ _=>by kernel_rfl) λq ih g h=>Eq.trans (b:=FH (x20 Ej b) (λg h=>(z18 Ej q) (t18 b a g h)) b a g h) (by kernel_rfl) (by simp only[e20,ih]<;>rfl)
theorem e18(Ej:K_)(b:Int):x18 Ej b=FL (λa f=>Ej (t12 b a f)) b:=by funext a g h;exact Eq.trans (by kernel_rfl) ((i18 Ej b a Bn g h).trans (by rw[Al];rfl))
theorem e17(Ej:K_)(b:Int):x17 Ej b=HA (λa f=>Ej (t12 b a f)) b:=Eq.trans (b:=EX (x18 Ej b) b) (by kernel_rfl) (by simp only[e18]<;>rfl)
theorem i12(b:Int):∀(q:Nat) (a:Int) (f:LX),z12 q (t12 b a f)=Tq b q a f:=
 ind (λ_ _=>by kernel_rfl) λq ih a f=>Eq.trans (b:=FI (x17 (z12 q) b) x22 b a f) (by kernel_rfl) (by simp only[e17,e22,ih]<;>rfl)
theorem e12:x12=GU:=by funext b a f;exact Eq.trans (by kernel_rfl) ((i12 b Bn a f).trans (by rw[Al];rfl))
def F:=u2 VY
theorem rn x:H.u P_ x=F x:=Eq.trans (b:=u2 (LC x12) x) (by kernel_rfl) (by simp only[e12]<;>rfl)
def c:Con:=⟨H.p,H.r,F⟩
theorem ok:ConOk P_ gl 209 c:=cr H func209 (.cons F290.ok (.cons F291.ok .nil)) (Bt.cons ent292 Bt.nil) rn
end F209
namespace F128
def Gn(j16:Int->Int32->Int-> (List (Int×Int32×(Int×LX×LX×Unit)×Unit))->LX->Int->Int32->Int->LX->LX->Option (LX×Int))(j18:Int->Int->LX->Option (LX×Int))(f:LU)(a b g:Int)(h:List (Int×Int32×(Int×LX×LX×Unit)×Unit))(k:LX):Option (LX×Int):=
if(Cq g (Ac f))then
(Ah f g).bind λag=>
(Dy (Bl a 0)).bind λ_=>
(Ah h (Fv g a)).bind λ_=>
both (
(Ah h (Fv g a)).bind λm=>
both (
(Kj ag).bind λae=>
(λao:Option (LX×Int)=>
bo (
ao)) (
(Es m.1 m.2.1 m.2.2.1.1 m.2.2.1.2.1 m.2.2.1.2.2.1 ae).bind λ(w,y,v,aa,ab,ac,u)=>
j16 g w u h k y v aa ab ac)) [
(Kj ag).bind λae=>
(Es m.1 m.2.1 m.2.2.1.1 m.2.2.1.2.1 m.2.2.1.2.2.1 ae).bind λ(w,y,v,aa,ab,ac,u)=>
j16 g w u h k y v aa ab ac]) [
(Kj ag).bind λaf=>
both (
(Ah h (Fv g a)).bind λad=>
(λap:Option (LX×Int)=>
bo (
ap)) (
(Es ad.1 ad.2.1 ad.2.2.1.1 ad.2.2.1.2.1 ad.2.2.1.2.2.1 af).bind λ(w,y,v,aa,ab,ac,u)=>
j16 g w u h k y v aa ab ac)) [
(Ah h (Fv g a)).bind λad=>
(Es ad.1 ad.2.1 ad.2.2.1.1 ad.2.2.1.2.1 ad.2.2.1.2.2.1 af).bind λ(w,y,v,aa,ab,ac,u)=>
j16 g w u h k y v aa ab ac],
both (
(Ah h (Fv g a)).bind λm=>
(Kj ag).bind λae=>
(Es m.1 m.2.1 m.2.2.1.1 m.2.2.1.2.1 m.2.2.1.2.2.1 ae).bind λ(w,y,v,aa,ab,ac,u)=>
j16 g w u h k y v aa ab ac) [
(Kj ag).bind λaf=>
(Ah h (Fv g a)).bind λad=>
(Es ad.1 ad.2.1 ad.2.2.1.1 ad.2.2.1.2.1 ad.2.2.1.2.2.1 af).bind λ(w,y,v,aa,ab,ac,u)=>
j16 g w u h k y v aa ab ac]]
else
j18 a b k
theorem Rk: @Gn= @Hi:=by
  unfold Gn Hi
  try simp only[LA,Wr,Zm]
  all_goals
    repeat (refine funext λ_=>?_)
    repeat' first
      |with_reducible rfl
      |with_reducible refine Hx ?_ ?_
      |with_reducible refine Hn ?_ ?_ ?_
      |with_reducible refine Ia ?_ ?_ ?_ ?_
      |((with_reducible refine Kv ?_ ?_);focus (intro h;first|(subst h;rfl)|(simp only[h];rfl)|(simp[Dp,Ac,h];done)))
      |with_reducible refine Kn λx=>?_
      |with_reducible refine Qr (λ_=>?_) (λ_=>?_)
      |(refine Eo (λh=>by simp only[h,Kr,Dt,Dm,ite_self]) (λx h=>?_);(try simp only[h,Dt]))
      |(refine Fs (λh=>?_) (λh=>?_)<;>simp only[h,if_true,if_false,Bool.false_eq_true])
abbrev R_:=(LX×Int)
abbrev K_:=S->Option R_
def H:Hd:=⟨[.agg [Si,Si],.lf (.vec 16 (.int .i32)) none,Sv],[Ow 21,Si],(.seq .d (.seq .d (.cut [2,3,8] [] (.seq .d (.blk (.loop [2,3,4,8,20] [] .d))) (.seq .d (.cut [3,10] [] (.seq .d (.blk (.loop [3,8,10,33,34,35] [⟨10,[],.own 21 (.int .i32)⟩] (.seq .d (.seq .d (.seq (.blk (.seq .d (.seq .d (.cut [3,8,10,13,14,15,16,33,34,35] [] (.mode false) .d)))) .d)))))) .d))))),⟨[(169,F169.c),(206,F206.c),(207,F207.c),(208,F208.c),(209,F209.c)],gl,false⟩,[],f128⟩
def t13(f:LU)(a b g:Int)(h:List (Int×Int32×(Int×LX×LX×Unit)×Unit))(k:LX):S:=⟨[(3,.ptr 0 []),(8,.ptr 1 []),(10,.own 2),(33,vv f),(34,vi (Ac f)),(35,vi g)],[.box 104 (.agg [vi a,vi b]),.box 282 (.val (.vec 6 (.cons (.int .i64) (.cons (.int .i32) (.cons (.cons (.int .i64) (.cons (.vec 16 (.int .i32)) (.cons (.vec 16 (.int .i32)) .nil))) .nil)))) h),Aw 21 k],[]⟩
def z13:Nat->S->Option R_:=H.i P_ [r,r,r,r,l,r,d]
def t10(f:LU)(a b:Int)(o:LX)(p:Int)(n:List (Int×Int32×(Int×LX×LX×Unit)×Unit)):S:=⟨[(2,vv f),(3,.ptr 0 []),(4,.ptr 1 []),(8,.ptr 2 []),(20,vi p)],[.box 104 (.agg [vi a,vi b]),.box 105 (.val (.vec 16 (.int .i32)) o),.box 282 (.val (.vec 6 (.cons (.int .i64) (.cons (.int .i32) (.cons (.cons (.int .i64) (.cons (.vec 16 (.int .i32)) (.cons (.vec 16 (.int .i32)) .nil))) .nil)))) n)],[]⟩
def z10:Nat->S->Option R_:=H.i P_ [r,r,l,r,d]
def x18(a b:Int)(k:LX):Option R_:=H.e P_ [r,r,r,r,r] ⟨[(3,.ptr 0 []),(10,.own 1)],[.box 104 (.agg [vi a,vi b]),Aw 21 k],[]⟩
def x16(kV:K_)(a:Int)(f:LU)(b g:Int)(w:Int32)(u:Int)(h:List (Int×Int32×(Int×LX×LX×Unit)×Unit))(k:LX)(y:Int)(v:Int32)(aa:Int)(ab ac:LX):Option R_:=H.e P_ [r,r,r,r,l,r,d,(lp kV),r,r,l,d,r,r,r] ⟨[(3,.ptr 0 []),(8,.ptr 1 []),(10,.own 2),(13,.ptr 1 [.idx (Fv g a) 35]),(14,vx w),(15,.ptr 3 []),(16,vi u),(33,vv f),(34,vi (Ac f)),(35,vi g)],[.box 104 (.agg [vi a,vi b]),.box 282 (.val (.vec 6 (.cons (.int .i64) (.cons (.int .i32) (.cons (.cons (.int .i64) (.cons (.vec 16 (.int .i32)) (.cons (.vec 16 (.int .i32)) .nil))) .nil)))) h),Aw 21 k,.box 281 (.agg [vi y,vx v,.agg [vi aa,.val (.vec 16 (.int .i32)) ab,.val (.vec 16 (.int .i32)) ac]])],[]⟩
def x13(f:LU)(a b g:Int)(h:List (Int×Int32×(Int×LX×LX×Unit)×Unit))(k:LX):Option R_:=H.e P_ [r,r,r,r,l,r,d] (t13 f a b g h k)
def x12(f:LU)(a b:Int)(n:List (Int×Int32×(Int×LX×LX×Unit)×Unit)):Option R_:=H.e P_ [r,r,r] ⟨[(2,vv f),(3,.ptr 0 []),(8,.ptr 1 [])],[.box 104 (.agg [vi a,vi b]),.box 282 (.val (.vec 6 (.cons (.int .i64) (.cons (.int .i32) (.cons (.cons (.int .i64) (.cons (.vec 16 (.int .i32)) (.cons (.vec 16 (.int .i32)) .nil))) .nil)))) n)],[]⟩
def x10(f:LU)(a b:Int)(o:LX)(p:Int)(n:List (Int×Int32×(Int×LX×LX×Unit)×Unit)):Option R_:=H.e P_ [r,r,l,r,d] (t10 f a b o p n)
theorem e18:x18=Mb:=by kernel_rfl
theorem e16(kV:K_)(f:LU)(a b:Int):x16 kV a f b=Mc (λg h k=>kV (t13 f a b g h k)) a f b:=by kernel_rfl
theorem i13(f:LU)(a b:Int):∀(q:Nat) (g:Int) (h:List (Int×Int32×(Int×LX×LX×Unit)×Unit)) (k:LX),z13 q (t13 f a b g h k)=Hk f a b q g h k:=
 ind (λ_ _ _=>by kernel_rfl) λq ih g h k=>Eq.trans (b:=Gn (x16 (z13 q) a f b) x18 f a b g h k) (by kernel_rfl) (by rw[Rk];simp only[e16,e18,ih]<;>rfl)
theorem e13:x13=Mh:=by funext f a b g h k;exact Eq.trans (by kernel_rfl) ((i13 f a b Bn g h k).trans (by rw[Al];rfl))
theorem e12:x12=Mg:=Eq.trans (b:=Me x13) (by kernel_rfl) (by simp only[e13]<;>rfl)
theorem i10(f:LU)(a b:Int)(o:LX):∀(q:Nat) (p:Int) (n:List (Int×Int32×(Int×LX×LX×Unit)×Unit)),z10 q (t10 f a b o p n)=Hm f a b o q p n:=
 ind (λ_ _=>by kernel_rfl) λq ih p n=>Eq.trans (b:=Mf x12 (λp n=>(z10 q) (t10 f a b o p n)) f a b o p n) (by kernel_rfl) (by simp only[e12,ih]<;>rfl)
theorem e10:x10=Md:=by funext f a b o p n;exact Eq.trans (by kernel_rfl) ((i10 f a b o Bn p n).trans (by rw[Al];rfl))
def F:=u4 Vi
theorem rn x:H.u P_ x=F x:=Eq.trans (b:=u4 (Ou x10) x) (by kernel_rfl) (by simp only[e10]<;>rfl)
def c:Con:=⟨H.p,H.r,F⟩
theorem ok:ConOk P_ gl 128 c:=co H func128 (.cons F169.ok (.cons F206.ok (.cons F207.ok (.cons F208.ok (.cons F209.ok .nil))))) rn
end F128
namespace F68
def H:Hd:=⟨[.agg [Si,Si],.lf (.vec 16 (.int .i32)) none,Si,Sb],[Ow 21,Si],.d,⟨[(123,F123.c),(124,F124.c),(125,F125.c),(126,F126.c),(127,F127.c),(128,F128.c)],gl,false⟩,[],f68⟩
def F:=u5 Ms
theorem rn x:H.u P_ x=F x:=by kernel_rfl
def c:Con:=⟨H.p,H.r,F⟩
theorem ok:ConOk P_ gl 68 c:=co H func68 (.cons F123.ok (.cons F124.ok (.cons F125.ok (.cons F126.ok (.cons F127.ok (.cons F128.ok .nil)))))) rn
end F68
namespace F95
abbrev R_:=(LB×Int)
abbrev K_:=S->Option R_
def H:Hd:=⟨[Si,Sw],[Ob 5,Si],(.seq .d (.seq .d (.seq .d (.cut [7] [] (.seq .d (.blk (.loop [0,7,17,18,19] [⟨7,[],.own 5 (.int .u8)⟩] (.seq .d (.seq .d (.cut [0,7,17,18,19] [] (.blk (.seq .d (.cut [0,7,9,17,18,19] [] .d (.seq .d (.blk (.loop [0,7,9,17,18,19,28,29] [] .d)))))) .d)))))) .d)))),⟨[(169,F169.c)],gl,false⟩,[],f95⟩
def t26(b:Int)(a:LX)(k:Int32)(f m:Int)(h:LB):S:=⟨[(0,vi b),(7,.own 0),(9,vx k),(17,vw a),(18,vi (Ac a)),(19,vi f),(28,vi (Jp b (8:Int))),(29,vi m)],[Ab 5 h],[]⟩
def z26(Bm:K_):Nat->S->Option R_:=H.i P_ [r,r,r,l,r,d,(lp Bm),r,r,l,d,r,r,r,d]
def t16(b:Int)(a:LX)(f:Int)(g:LB):S:=⟨[(0,vi b),(7,.own 0),(17,vw a),(18,vi (Ac a)),(19,vi f)],[Ab 5 g],[]⟩
def z16:Nat->S->Option R_:=H.i P_ [r,r,r,l,r,d]
def x30(g:LB):Option R_:=H.e P_ [r,r,r,r] ⟨[(7,.own 0)],[Ab 5 g],[]⟩
def x28(Bm:K_)(b:Int)(a:LX)(f:Int)(h:LB):Option R_:=H.e P_ [r,r,r,l,r,d,(lp Bm),r,r,r] ⟨[(0,vi b),(7,.own 0),(17,vw a),(18,vi (Ac a)),(19,vi f)],[Ab 5 h],[]⟩
def x26(Bm:K_)(b:Int)(a:LX)(k:Int32)(f m:Int)(h:LB):Option R_:=H.e P_ [r,r,r,l,r,d,(lp Bm),r,r,l,d,r,r,r,d] (t26 b a k f m h)
def x25(Bm:K_)(b:Int)(a:LX)(f:Int)(g:LB)(k:Int32):Option R_:=H.e P_ [r,r,r,l,r,d,(lp Bm),r,r,l,d,r,r] ⟨[(0,vi b),(7,.own 0),(9,vx k),(17,vw a),(18,vi (Ac a)),(19,vi f)],[Ab 5 g],[]⟩
def x16(b:Int)(a:LX)(f:Int)(g:LB):Option R_:=H.e P_ [r,r,r,l,r,d] (t16 b a f g)
theorem e30:x30=Wj:=by kernel_rfl
theorem e28(Bm:K_)(b:Int)(a:LX):x28 Bm b a=Vo (λf g=>Bm (t16 b a f g)) b a:=by kernel_rfl
theorem i26(Bm:K_)(b:Int)(a:LX)(k:Int32)(f:Int):∀(q:Nat) (m:Int) (h:LB),z26 Bm q (t26 b a k f m h)=Ly (λf g=>Bm (t16 b a f g)) b a k f q m h:=
 ind (λ_ _=>by kernel_rfl) λq ih m h=>Eq.trans (b:=Uy (x28 Bm b a) (λm h=>(z26 Bm q) (t26 b a k f m h)) b a k f m h) (by kernel_rfl) (by simp only[e28,ih]<;>rfl)
theorem e26(Bm:K_)(b:Int)(a:LX):x26 Bm b a=Wl (λf g=>Bm (t16 b a f g)) b a:=by funext k f m h;exact Eq.trans (by kernel_rfl) ((i26 Bm b a k f Bn m h).trans (by rw[Al];rfl))
theorem e25(Bm:K_)(b:Int)(a:LX):x25 Bm b a=Wn (λf g=>Bm (t16 b a f g)) b a:=Eq.trans (b:=Uf (x26 Bm b a) b a) (by kernel_rfl) (by simp only[e26]<;>rfl)
theorem i16(b:Int)(a:LX):∀(q:Nat) (f:Int) (g:LB),z16 q (t16 b a f g)=Lz b a q f g:=
 ind (λ_ _=>by kernel_rfl) λq ih f g=>Eq.trans (b:=Vw (x25 (z16 q) b a) x30 b a f g) (by kernel_rfl) (by simp only[e25,e30,ih]<;>rfl)
theorem e16:x16=Vq:=by funext b a f g;exact Eq.trans (by kernel_rfl) ((i16 b a Bn f g).trans (by rw[Al];rfl))
def F:=u2 Zv
theorem rn x:H.u P_ x=F x:=Eq.trans (b:=u2 (Za x16) x) (by kernel_rfl) (by simp only[e16]<;>rfl)
def c:Con:=⟨H.p,H.r,F⟩
theorem ok:ConOk P_ gl 95 c:=co H func95 (.cons F169.ok .nil) rn
end F95
namespace F12
abbrev R_:=(LB×Int)
def H:Hd:=⟨[Sb,Ss,Si],[Ob 5,Si],(.seq .d (.cut [2,8,9,11] [] (.keep [0,1,2,8,9,11,12,13,14,15,16,17,18,19] true) (.seq .d (.seq .d (.cut [6,7] [⟨6,[],.own 5 (.int .u8)⟩] (.keep [2,6,7,8,30,31,32,33,34] true) .d))))),⟨[(11,F11.c),(52,F52.c),(67,F67.c),(68,F68.c),(95,F95.c),(115,F115.c)],gl,false⟩,[(54,.d),(116,(.seq .d (.cut [0,3,4,5,6,10,11] [] .d (.seq .d (.cut [4,12,13] [] .d .d)))))],f12⟩
def x6(a ac:Int):Option R_:=H.e P_ [r,r] ⟨[(2,vi a),(8,.cst .nilFunc),(9,vi 0),(11,vi ac)],[],[]⟩
def x10(ad:Int)(ae:LB):Option R_:=H.e P_ [r,r,r,r,r] ⟨[(6,.own 0),(7,vi ad)],[Ab 5 ae],[]⟩
def x9(w a h b:Int)(aa:LX)(n o p k:Int)(m:LB)(u:LX)(v f g:LI):Option R_:=H.e P_ [r,r,r,r,l,(call 2 116),r,r,r,r] ⟨[(4,.ptr 0 []),(12,.own 1),(13,vi w)],[.box 104 (.agg [vi h,vi b]),Aw 21 aa,.box 36 (.agg [.agg [vi n,vi h,vi b,vi o,vi p],vi k,.own 7]),.box 34 (.own 8),.box 22 (vb m),.box 105 (.val (.vec 16 (.int .i32)) u),.box 34 (.own 9),Ai 3 v,Ai 3 f,Ai 3 g],[[(2,vi a),(8,.fn 116 [.ptr 2 [],.ptr 3 [],.ptr 4 [],.ptr 0 [],.ptr 5 [],.ptr 6 []]),(30,.fn 116 [.ptr 2 [],.ptr 3 [],.ptr 4 [],.ptr 0 [],.ptr 5 [],.ptr 6 []]),(31,vi a)]]⟩
def x8(a k ab y:Int)(m:LB)(h b:Int)(u:LX)(n o p:Int)(g v f:LI):Option R_:=H.e P_ [r,r,r,r,l,(call 2 116),r,r] ⟨[(0,vi a),(3,.ptr 0 []),(4,.ptr 1 []),(5,.ptr 2 []),(6,.ptr 3 []),(10,vi (Aa k ab)),(11,vi (Aa k y))],[.box 22 (vb m),.box 104 (.agg [vi h,vi b]),.box 105 (.val (.vec 16 (.int .i32)) u),.box 34 (.own 6),.box 36 (.agg [.agg [vi n,vi h,vi b,vi o,vi p],vi k,.own 7]),.box 34 (.own 8),Ai 3 g,Ai 3 v,Ai 3 f],[[(2,vi a),(8,.fn 116 [.ptr 4 [],.ptr 5 [],.ptr 0 [],.ptr 1 [],.ptr 2 [],.ptr 3 []]),(30,.fn 116 [.ptr 4 [],.ptr 5 [],.ptr 0 [],.ptr 1 [],.ptr 2 [],.ptr 3 []]),(31,vi a)]]⟩
def x7(a:Int)(g:LI)(n h b o p k:Int)(m:LB)(u:LX)(v f:LI):Option R_:=H.e P_ [r,r] ⟨[(2,vi a),(8,.fn 116 [.ptr 0 [],.ptr 1 [],.ptr 2 [],.ptr 3 [],.ptr 4 [],.ptr 5 []]),(9,vi (Ac g)),(11,vi 0)],[.box 36 (.agg [.agg [vi n,vi h,vi b,vi o,vi p],vi k,.own 6]),.box 34 (.own 7),.box 22 (vb m),.box 104 (.agg [vi h,vi b]),.box 105 (.val (.vec 16 (.int .i32)) u),.box 34 (.own 8),Ai 3 v,Ai 3 f,Ai 3 g],[]⟩
theorem e6:x6=Lt:=by kernel_rfl
theorem e10:x10=Kb:=by kernel_rfl
theorem e9:x9=Uq:=Eq.trans (b:=Wa x10) (by kernel_rfl) (by simp only[e10]<;>rfl)
theorem e8:x8=Vu:=Eq.trans (b:=Vy x10 x9) (by kernel_rfl) (by simp only[e10,e9]<;>rfl)
theorem e7:x7=Um:=Eq.trans (b:=Us x8) (by kernel_rfl) (by simp only[e8]<;>rfl)
def F:=u3 Bw
theorem rn x:H.u P_ x=F x:=Eq.trans (b:=u3 (Lp x6 x7) x) (by kernel_rfl) (by simp only[e6,e7]<;>rfl)
def c:Con:=⟨H.p,H.r,F⟩
theorem ok:ConOk P_ gl 12 c:=cr H func12 (.cons F11.ok (.cons F52.ok (.cons F67.ok (.cons F68.ok (.cons F95.ok (.cons F115.ok .nil)))))) (Bt.cons ent54 (Bt.cons ent116 Bt.nil)) rn
end F12
namespace F118
abbrev R_:=(Int×Int)
def H:Hd:=⟨[Sb],[Si,Si],(.seq .d (.seq .d (.cut [0,4] [] .d .d))),⟨[(113,F113.c),(196,F196.c),(197,F197.c),(198,F198.c)],gl,false⟩,[],f118⟩
def x2(a:LB):Option R_:=H.e P_ [r,r,r] ⟨[(0,vb a),(4,vi (Af (Ac a) (32:Int)))],[],[]⟩
theorem e2:x2=JH:=by kernel_rfl
def F:=VT
theorem rn x:H.u P_ x=F x:=Eq.trans (b:=KK x2 x) (by kernel_rfl) (by simp only[e2]<;>rfl)
def c:Con:=⟨H.p,H.r,F⟩
theorem ok:ConOk P_ gl 118 c:=co H func118 (.cons F113.ok (.cons F196.ok (.cons F197.ok (.cons F198.ok .nil)))) rn
end F118
namespace F55
abbrev R_:=(Int×Int)
abbrev K_:=S->Option R_
def H:Hd:=⟨[Sb],[Si,Si],(.seq .d (.seq .d (.seq .d (.seq .d (.cut [5] [] (.blk (.loop [1,4,5] [] (.seq .d (.cut [1,4,5] [] (.blk (.cut [1,4,5,6] [] (.keep [1,4,5,6,16,17] true) .d)) .d)))) .d))))),⟨[(118,F118.c)],gl,false⟩,[(117,.d)],f55⟩
def t8(a:Int)(b:LB):S:=⟨[(1,.ptr 0 []),(4,.fn 117 [.ptr 0 []]),(5,vi a)],[.box 22 (vb b)],[]⟩
def z8:Nat->S->Option R_:=H.i P_ [r,r,r,r,l,d]
def x14(a:Int):Option R_:=H.e P_ [r,r,r,r,r] ⟨[(5,vi a)],[],[]⟩
def x12(ZY:K_)(a:Int)(g:LB):Option R_:=H.e P_ [r,r,r,r,l,d,(lp ZY),r,r] ⟨[(1,.ptr 0 []),(4,.fn 117 [.ptr 0 []]),(5,vi a)],[.box 22 (vb g)],[]⟩
def x11(ZY:K_)(a f:Int)(b:LB):Option R_:=H.e P_ [r,r,r,r,l,d,(lp ZY),r,l,d,r] ⟨[(1,.ptr 0 []),(4,.fn 117 [.ptr 0 []]),(5,vi a),(6,vi f)],[.box 22 (vb b)],[]⟩
def x8(a:Int)(b:LB):Option R_:=H.e P_ [r,r,r,r,l,d] (t8 a b)
theorem e14:x14=Sk:=by kernel_rfl
theorem e12(ZY:K_):x12 ZY=Sp (λa b=>ZY (t8 a b)):=by kernel_rfl
theorem e11(ZY:K_):x11 ZY=Ru (λa b=>ZY (t8 a b)):=Eq.trans (b:=Sj (x12 ZY)) (by kernel_rfl) (by simp only[e12]<;>rfl)
theorem i8:∀(q:Nat) (a:Int) (b:LB),z8 q (t8 a b)=Lk q a b:=
 ind (λ_ _=>by kernel_rfl) λq ih a b=>Eq.trans (b:=Wc (x11 (z8 q)) x14 a b) (by kernel_rfl) (by simp only[e11,e14,ih]<;>rfl)
theorem e8:x8=Vp:=by funext a b;exact Eq.trans (by kernel_rfl) ((i8 Bn a b).trans (by rw[Al];rfl))
def F:=Th
theorem rn x:H.u P_ x=F x:=Eq.trans (b:=Vv x8 x) (by kernel_rfl) (by simp only[e8]<;>rfl)
def c:Con:=⟨H.p,H.r,F⟩
theorem ok:ConOk P_ gl 55 c:=cr H func55 (.cons F118.ok .nil) (Bt.cons ent117 Bt.nil) rn
end F55
namespace F13
abbrev R_:=(LB×Int)
abbrev K_:=S->Option R_
def H:Hd:=⟨[Sb,Ss,Si],[Ob 5,Si],(.seq .d (.cut [0,2,8,9,10,11] [] (.keep [0,1,2,8,9,10,11,18,19,20,21,22,23,24,25] true) (.seq .d (.seq .d (.seq .d (.cut [0,10,12] [] (.seq .d (.blk (.loop [0,8,9,10,12,13] [⟨12,[],.own 5 (.int .u8)⟩] (.seq .d (.cut [0,8,9,10,12,13] [] (.blk (.cut [0,8,9,10,12,13,14,15] [⟨14,[],.own 5 (.int .u8)⟩] (.keep [0,8,9,10,12,13,14,15,42,43,44,45,46,47] true) .d)) .d))))) .d)))))),⟨[(11,F11.c),(52,F52.c),(55,F55.c),(67,F67.c),(68,F68.c),(95,F95.c),(115,F115.c)],gl,false⟩,[(54,.d),(116,(.seq .d (.cut [0,3,4,5,6,10,11] [] .d (.seq .d (.cut [4,12,13] [] .d .d)))))],f13⟩
def t19(a:LB)(aa:Int):S:=⟨[(0,vb a),(8,.cst .nilFunc),(9,vi 0),(10,vi 0),(12,.own 0),(13,vi aa)],[Ab 5 ([]:LB)],[]⟩
def z19:Nat->S->Option R_:=H.i P_ [r,r,r,r,r,l,r,d]
def t22(a:LB)(f:LI)(b m n h g o p:Int)(u:LX)(v k:LI)(w:Int)(y:LB):S:=⟨[(0,vb a),(8,.fn 116 [.ptr 0 [],.ptr 1 [],.ptr 2 [],.ptr 3 [],.ptr 4 [],.ptr 5 []]),(9,vi (Ac f)),(10,vi (Aa b m)),(12,.own 6),(13,vi w)],[.box 36 (.agg [.agg [vi n,vi h,vi g,vi o,vi p],vi b,.own 7]),.box 34 (.own 8),.box 22 (vb a),.box 104 (.agg [vi h,vi g]),.box 105 (.val (.vec 16 (.int .i32)) u),.box 34 (.own 9),Ab 5 y,Ai 3 v,Ai 3 k,Ai 3 f],[]⟩
def z22:Nat->S->Option R_:=H.i P_ [r,r,r,r,r,l,r,d]
def x21(a:LB):Option R_:=H.e P_ [r,r,r,r,r,r] ⟨[(0,vb a),(10,vi 0),(12,.own 0)],[Ab 5 ([]:LB)],[]⟩
def x19(a:LB)(aa:Int):Option R_:=H.e P_ [r,r,r,r,r,l,r,d] (t19 a aa)
def x17(a:LB)(aa ag:Int):Option R_:=H.e P_ [r,r] ⟨[(0,vb a),(2,vi aa),(8,.cst .nilFunc),(9,vi 0),(10,vi 0),(11,vi ag)],[],[]⟩
def x32(a:LB)(b m:Int)(y:LB):Option R_:=H.e P_ [r,r,r,r,r,r] ⟨[(0,vb a),(10,vi (Aa b m)),(12,.own 0)],[Ab 5 y],[]⟩
def x30(Gu:K_)(a:LB)(f:LI)(b m n h g o p:Int)(u:LX)(v k:LI)(w:Int)(ad:LB):Option R_:=H.e P_ [r,r,r,r,r,l,r,d,(lp Gu),r,r] ⟨[(0,vb a),(8,.fn 116 [.ptr 0 [],.ptr 1 [],.ptr 2 [],.ptr 3 [],.ptr 4 [],.ptr 5 []]),(9,vi (Ac f)),(10,vi (Aa b m)),(12,.own 6),(13,vi w)],[.box 36 (.agg [.agg [vi n,vi h,vi g,vi o,vi p],vi b,.own 7]),.box 34 (.own 8),.box 22 (vb a),.box 104 (.agg [vi h,vi g]),.box 105 (.val (.vec 16 (.int .i32)) u),.box 34 (.own 9),Ab 5 ad,Ai 3 v,Ai 3 k,Ai 3 f],[]⟩
def x29(Gu:K_)(a:LB)(f:LI)(b m n h g o p:Int)(u:LX)(v k:LI)(w:Int)(y:LB)(ah:Int)(ai:LB):Option R_:=H.e P_ [r,r,r,r,r,l,r,d,(lp Gu),r,l,d,r] ⟨[(0,vb a),(8,.fn 116 [.ptr 0 [],.ptr 1 [],.ptr 2 [],.ptr 3 [],.ptr 4 [],.ptr 5 []]),(9,vi (Ac f)),(10,vi (Aa b m)),(12,.own 6),(13,vi w),(14,.own 7),(15,vi ah)],[.box 36 (.agg [.agg [vi n,vi h,vi g,vi o,vi p],vi b,.own 8]),.box 34 (.own 9),.box 22 (vb a),.box 104 (.agg [vi h,vi g]),.box 105 (.val (.vec 16 (.int .i32)) u),.box 34 (.own 10),Ab 5 y,Ab 5 ai,Ai 3 v,Ai 3 k,Ai 3 f],[]⟩
def x28(Gu:K_)(a:LB)(f:LI)(b m h g n o p:Int)(u:LX)(v k:LI)(ab w:Int)(ae:LX)(y:LB):Option R_:=H.e P_ [r,r,r,r,r,l,r,d,(lp Gu),r,l,d,l,(call 2 116),r,r,r,r] ⟨[(4,.ptr 0 []),(12,.own 1),(13,vi ab)],[.box 104 (.agg [vi h,vi g]),Aw 21 ae,.box 36 (.agg [.agg [vi n,vi h,vi g,vi o,vi p],vi b,.own 8]),.box 34 (.own 9),.box 22 (vb a),.box 105 (.val (.vec 16 (.int .i32)) u),.box 34 (.own 10),Ab 5 y,Ai 3 v,Ai 3 k,Ai 3 f],[[(0,vb a),(8,.fn 116 [.ptr 2 [],.ptr 3 [],.ptr 4 [],.ptr 0 [],.ptr 5 [],.ptr 6 []]),(9,vi (Ac f)),(10,vi (Aa b m)),(12,.own 7),(13,vi w),(43,.fn 116 [.ptr 2 [],.ptr 3 [],.ptr 4 [],.ptr 0 [],.ptr 5 [],.ptr 6 []]),(44,vi w)]]⟩
def x27(Gu:K_)(b:Int)(a:LB)(f:LI)(m h g:Int)(u:LX)(n o p:Int)(v k:LI)(w af ac:Int)(y:LB):Option R_:=H.e P_ [r,r,r,r,r,l,r,d,(lp Gu),r,l,d,l,(call 2 116),r,r] ⟨[(0,vi w),(3,.ptr 0 []),(4,.ptr 1 []),(5,.ptr 2 []),(6,.ptr 3 []),(10,vi (Aa b af)),(11,vi (Aa b ac))],[.box 22 (vb a),.box 104 (.agg [vi h,vi g]),.box 105 (.val (.vec 16 (.int .i32)) u),.box 34 (.own 7),.box 36 (.agg [.agg [vi n,vi h,vi g,vi o,vi p],vi b,.own 8]),.box 34 (.own 9),Ab 5 y,Ai 3 f,Ai 3 v,Ai 3 k],[[(0,vb a),(8,.fn 116 [.ptr 4 [],.ptr 5 [],.ptr 0 [],.ptr 1 [],.ptr 2 [],.ptr 3 []]),(9,vi (Ac f)),(10,vi (Aa b m)),(12,.own 6),(13,vi w),(43,.fn 116 [.ptr 4 [],.ptr 5 [],.ptr 0 [],.ptr 1 [],.ptr 2 [],.ptr 3 []]),(44,vi w)]]⟩
def x22(a:LB)(f:LI)(b m n h g o p:Int)(u:LX)(v k:LI)(w:Int)(y:LB):Option R_:=H.e P_ [r,r,r,r,r,l,r,d] (t22 a f b m n h g o p u v k w y)
def x18(a:LB)(aa:Int)(f:LI)(b m n h g o p:Int)(u:LX)(v k:LI):Option R_:=H.e P_ [r,r] ⟨[(0,vb a),(2,vi aa),(8,.fn 116 [.ptr 0 [],.ptr 1 [],.ptr 2 [],.ptr 3 [],.ptr 4 [],.ptr 5 []]),(9,vi (Ac f)),(10,vi (Aa b m)),(11,vi 0)],[.box 36 (.agg [.agg [vi n,vi h,vi g,vi o,vi p],vi b,.own 6]),.box 34 (.own 7),.box 22 (vb a),.box 104 (.agg [vi h,vi g]),.box 105 (.val (.vec 16 (.int .i32)) u),.box 34 (.own 8),Ai 3 v,Ai 3 k,Ai 3 f],[]⟩
theorem e21:x21=Vm:=by kernel_rfl
theorem i19(a:LB)(aa:Int):∀(q:Nat),z19 q (t19 a aa)=Ul a aa q:=
 ind (by kernel_rfl) λq ih=>Eq.trans (b:=Uh x21 a aa) (by kernel_rfl) (by simp only[e21,ih]<;>rfl)
theorem e19:x19=We:=by funext a aa;exact Eq.trans (by kernel_rfl) ((i19 a aa Bn).trans (by rw[Al];rfl))
theorem e17:x17=Lu:=Eq.trans (b:=Ma x19) (by kernel_rfl) (by simp only[e19]<;>rfl)
theorem e32:x32=Wm:=by kernel_rfl
theorem e30(Gu:K_)(a:LB)(f:LI)(b m n h g o p:Int)(u:LX)(v k:LI):x30 Gu a f b m n h g o p u v k=Un (λw y=>Gu (t22 a f b m n h g o p u v k w y)) a f b m n h g o p u v k:=by kernel_rfl
theorem e29(Gu:K_)(a:LB)(f:LI)(b m n h g o p:Int)(u:LX)(v k:LI):x29 Gu a f b m n h g o p u v k=Lr (λw y=>Gu (t22 a f b m n h g o p u v k w y)) a f b m n h g o p u v k:=Eq.trans (b:=Ui (x30 Gu a f b m n h g o p u v k) a f b m n h g o p u v k) (by kernel_rfl) (by simp only[e30]<;>rfl)
theorem e28(Gu:K_)(a:LB)(f:LI)(b m n h g o p:Int)(u:LX)(v k:LI):x28 Gu a f b m h g n o p u v k=Ut (λw y=>Gu (t22 a f b m n h g o p u v k w y)) a f b m h g n o p u v k:=Eq.trans (b:=Ur (x29 Gu a f b m n h g o p u v k) a f b m h g n o p u v k) (by kernel_rfl) (by simp only[e29]<;>rfl)
theorem e27(Gu:K_)(a:LB)(f:LI)(b m n h g o p:Int)(u:LX)(v k:LI):x27 Gu b a f m h g u n o p v k=Vg (λw y=>Gu (t22 a f b m n h g o p u v k w y)) b a f m h g u n o p v k:=Eq.trans (b:=Vf (x29 Gu a f b m n h g o p u v k) (x28 Gu a f b m h g n o p u v k) b a f m h g u n o p v k) (by kernel_rfl) (by simp only[e29,e28]<;>rfl)
theorem i22(a:LB)(f:LI)(b m n h g o p:Int)(u:LX)(v k:LI):∀(q:Nat) (w:Int) (y:LB),z22 q (t22 a f b m n h g o p u v k w y)=Ln a f b m n h g o p u v k q w y:=
 ind (λ_ _=>by kernel_rfl) λq ih w y=>Eq.trans (b:=Ux (x27 (z22 q) b a f m h g u n o p v k) x32 a f b m n h g o p u v k w y) (by kernel_rfl) (by simp only[e27,e32,ih]<;>rfl)
theorem e22:x22=Ug:=by funext a f b m n h g o p u v k w y;exact Eq.trans (by kernel_rfl) ((i22 a f b m n h g o p u v k Bn w y).trans (by rw[Al];rfl))
theorem e18:x18=Vx:=Eq.trans (b:=Wh x22) (by kernel_rfl) (by simp only[e22]<;>rfl)
def F:=u3 Bk
theorem rn x:H.u P_ x=F x:=Eq.trans (b:=u3 (Nj x17 x18) x) (by kernel_rfl) (by simp only[e17,e18]<;>rfl)
def c:Con:=⟨H.p,H.r,F⟩
theorem ok:ConOk P_ gl 13 c:=cr H func13 (.cons F11.ok (.cons F52.ok (.cons F55.ok (.cons F67.ok (.cons F68.ok (.cons F95.ok (.cons F115.ok .nil))))))) (Bt.cons ent54 (Bt.cons ent116 Bt.nil)) rn
end F13
namespace F56
def H:Hd:=⟨[Si,Si,Si],[Si,Si,Si],.d,⟨[(119,F119.c),(120,F120.c)],gl,false⟩,[],f56⟩
def F:=u3 Qu
theorem rn x:H.u P_ x=F x:=by kernel_rfl
def c:Con:=⟨H.p,H.r,F⟩
theorem ok:ConOk P_ gl 56 c:=co H func56 (.cons F119.ok (.cons F120.ok .nil)) rn
end F56
namespace F14
def H:Hd:=⟨[Sb,Ss,Si],[Sb,Si],.d,⟨[(11,F11.c),(13,F13.c),(56,F56.c)],gl,false⟩,[],f14⟩
def F:=u3 Jc
theorem rn x:H.u P_ x=F x:=by kernel_rfl
def c:Con:=⟨H.p,H.r,F⟩
theorem ok:ConOk P_ gl 14 c:=co H func14 (.cons F11.ok (.cons F13.ok (.cons F56.ok .nil))) rn
end F14
namespace F10
def H:Hd:=⟨[Sb,Ss,Si],[Sz],.d,⟨[(11,F11.c),(12,F12.c),(13,F13.c),(14,F14.c)],gl,false⟩,[],f10⟩
def F:=u3 Ad
theorem rn x:H.u P_ x=F x:=by kernel_rfl
def c:Con:=⟨H.p,H.r,F⟩
theorem ok:ConOk P_ gl 10 c:=co H func10 (.cons F11.ok (.cons F12.ok (.cons F13.ok (.cons F14.ok .nil)))) rn
end F10
namespace F57
abbrev R_:=Bool
def H:Hd:=⟨[Sl,Sl],[Sz],(.seq .d (.seq .d (.cut [] [] (.seq .d (.blk (.loop [0,1,5] [] .d))) .d))),⟨[],gl,false⟩,[],f57⟩
def t4(a b:LI)(f:Int):S:=⟨[(0,vl a),(1,vl b),(5,vi f)],[],[]⟩
def z4:Nat->S->Option R_:=H.i P_ [r,r,l,r,d]
def x6:Option R_:=H.e P_ [r,r,r] ⟨[],[],[]⟩
def x4(a b:LI)(f:Int):Option R_:=H.e P_ [r,r,l,r,d] (t4 a b f)
theorem e6:x6=If:=by kernel_rfl
theorem i4(a b:LI):∀(q:Nat) (f:Int),z4 q (t4 a b f)=Ev a b q f:=
 ind (λ_=>by kernel_rfl) λq ih f=>Eq.trans (b:=Hs x6 (λf=>(z4 q) (t4 a b f)) a b f) (by kernel_rfl) (by simp only[e6,ih]<;>rfl)
theorem e4:x4=Hp:=by funext a b f;exact Eq.trans (by kernel_rfl) ((i4 a b Bn f).trans (by rw[Al];rfl))
def F:=u2 Jq
theorem rn x:H.u P_ x=F x:=Eq.trans (b:=u2 (Hz x4) x) (by kernel_rfl) (by simp only[e4]<;>rfl)
def c:Con:=⟨H.p,H.r,F⟩
theorem ok:ConOk P_ gl 57 c:=co H func57 .nil rn
end F57
namespace F15
abbrev R_:=Bool
def H:Hd:=⟨[],[Sz],(.seq .d (.seq .d (.seq .d (.seq .d (.seq .d (.seq .d (.cut [1,3,4,5,6,7,8,9,10] [⟨9,[],.ro (.int .u8)⟩] (.keep [1,3,4,5,6,7,8,9,10,36,37,38,39,40] true) .d))))))),⟨[(8,F8.c),(11,F11.c),(12,F12.c),(13,F13.c),(56,F56.c),(57,F57.c)],gl,false⟩,[(14,.d)],f15⟩
def x2(m b f:Int)(a:LB)(p u v w g n:Int)(h k:LB)(o:LI)(aa:LB)(ab:Int):Option R_:=H.e P_ [r,r,r,r,r,r,r] ⟨[(1,.own 0),(3,.ptr 1 []),(4,vi m),(5,.own 2),(6,vi b),(7,.own 3),(8,vi f),(9,vb aa),(10,vi ab)],[Ab 5 a,.box 36 (.agg [.agg [vi p,vi u,vi v,vi w,vi g],vi n,.own 4]),Ab 5 h,Ab 5 k,Ai 3 o],[]⟩
theorem e2:x2=Jv:=by kernel_rfl
noncomputable def F(x:Unit):=Ff
theorem rn x:H.u P_ x=F x:=Eq.trans (b:=Jt x2) (by kernel_rfl) (by simp only[e2]<;>rfl)
def c:Con:=⟨H.p,H.r,F⟩
theorem ok:ConOk P_ gl 15 c:=cr H func15 (.cons F8.ok (.cons F11.ok (.cons F12.ok (.cons F13.ok (.cons F56.ok (.cons F57.ok .nil)))))) (Bt.cons ent14 Bt.nil) rn
end F15
namespace F3
abbrev R_:=Bool
def H:Hd:=⟨[],[Sz],(.seq .d (.seq .d (.seq .d (.seq .d (.seq .d (.seq .d (.seq .d (.seq .d (.cut [1,3,7] [⟨1,[],.ro (.int .u8)⟩,⟨3,[],.ro (.int .u8)⟩] .d .d))))))))),⟨[(8,F8.c.seal),(9,F9.c.seal),(10,F10.c.seal),(11,F11.c.seal),(12,F12.c.seal),(13,F13.c.seal),(14,F14.c.seal),(15,F15.c.seal)],gl,false⟩,[],f3⟩
def x2(a b:LB)(k:Bool):Option R_:=H.e P_ [r,r,r,r,r,r,r,r,r] ⟨[(1,vb a),(3,vb b),(7,vt k)],[],[]⟩
theorem e2:x2=Eb:=by kernel_rfl
noncomputable def F(x:Unit):=Dn
theorem rn x:H.u P_ x=F x:=Eq.trans (b:=Ec x2) (by kernel_rfl) (by simp only[e2]<;>rfl)
def c:Con:=⟨H.p,H.r,F⟩
theorem ok:ConOk P_ gl 3 c:=co H func3 (.cons F8.ok.seal (.cons F9.ok.seal (.cons F10.ok.seal (.cons F11.ok.seal (.cons F12.ok.seal (.cons F13.ok.seal (.cons F14.ok.seal (.cons F15.ok.seal .nil)))))))) rn
end F3
end
end Go.Proofs.YtjjeabieimfcpaaGreatDoor
