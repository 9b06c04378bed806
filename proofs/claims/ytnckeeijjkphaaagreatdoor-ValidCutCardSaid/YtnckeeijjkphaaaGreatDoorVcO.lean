/- A part of a proof (see the text that ends in Proof). No conditions. -/
import Derived.Test.YtnckeeijjkphaaaGreatDoorVcHA
set_option linter.unusedVariables false
set_option linter.unusedSimpArgs false
set_option maxRecDepth 10000
namespace Go.Proofs.YtnckeeijjkphaaaGreatDoor
open Go Go.Lv Go.Pl Go.Rx Go.Rx.PS
noncomputable section
def g0:List Value:=[.int .i64 2,.int .i64 2,.int .i64 2,.int .i64 4,.int .i64 4]
def g1:List Value:=[.int .i64 2,.int .i64 2,.int .i64 4,.int .i64 4,.int .i64 2,.int .i64 2,.int .i64 2,.int .i64 2,.int .i64 4]
def g2:List Value:=[.int .u8 1,.int .u8 0,.int .u8 0,.int .u8 0,.int .u8 0,.int .u8 0,.int .u8 16,.int .u8 0,.int .u8 128,.int .u8 0,.int .u8 0,.int .u8 170,.int .u8 0,.int .u8 56,.int .u8 155,.int .u8 113]
def g4:List Value:=[.int .u8 0,.int .u8 1,.int .u8 56,.int .u8 2,.int .u8 57,.int .u8 49,.int .u8 28,.int .u8 3,.int .u8 61,.int .u8 58,.int .u8 42,.int .u8 50,.int .u8 38,.int .u8 29,.int .u8 17,.int .u8 4,.int .u8 62,.int .u8 47,.int .u8 59,.int .u8 36,.int .u8 45,.int .u8 43,.int .u8 51,.int .u8 22,.int .u8 53,.int .u8 39,.int .u8 33,.int .u8 30,.int .u8 24,.int .u8 18,.int .u8 12,.int .u8 5,.int .u8 63,.int .u8 55,.int .u8 48,.int .u8 27,.int .u8 60,.int .u8 41,.int .u8 37,.int .u8 16,.int .u8 46,.int .u8 35,.int .u8 44,.int .u8 21,.int .u8 52,.int .u8 32,.int .u8 23,.int .u8 11,.int .u8 54,.int .u8 26,.int .u8 40,.int .u8 15,.int .u8 34,.int .u8 20,.int .u8 31,.int .u8 10,.int .u8 25,.int .u8 14,.int .u8 19,.int .u8 9,.int .u8 13,.int .u8 8,.int .u8 7,.int .u8 6]
def gl:List (Nat×List Value):=[(0,g0),(1,g1),(2,g2),(4,g4)]
theorem mixed:Tryz.prog.follows .mixedOrders=true:=by kernel_rfl
noncomputable abbrev P_:=Tryz.prog
theorem cr(H:Hd){f:Nat}{F:AP (Rt H.p)->Option (AP (Rt H.r))}(hf:P_.funcs[f]? =some H.f)(hT:FA P_ H.T)(hA:∀p∈H.s,Ent P_ p.1)(h:∀x,H.u P_ x=F x)(hb:okH H=true:=by kernel_rfl):ConOk P_ H.T.gl f ⟨H.p,H.r,F⟩:=Hd.con mixed H hf hT hA hb h
theorem co(H:Hd){f:Nat}{F:AP (Rt H.p)->Option (AP (Rt H.r))}(hf:P_.funcs[f]? =some H.f)(hT:FA P_ H.T)(h:∀x,H.u P_ x=F x)(hb:(H.s.isEmpty&&okH H)=true:=by kernel_rfl):ConOk P_ H.T.gl f ⟨H.p,H.r,F⟩:=Hd.Axt mixed H hf hT hb h
theorem ent5:Ent Tryz.prog 5:=Ent.mk Tryz.func5 (by kernel_rfl) rfl
theorem ent25:Ent Tryz.prog 25:=Ent.mk Tryz.func25 (by kernel_rfl) rfl
theorem ent29:Ent Tryz.prog 29:=Ent.mk Tryz.func29 (by kernel_rfl) rfl
theorem ent30:Ent Tryz.prog 30:=Ent.mk Tryz.func30 (by kernel_rfl) rfl
theorem ent37:Ent Tryz.prog 37:=Ent.mk Tryz.func37 (by kernel_rfl) rfl
theorem ent51:Ent Tryz.prog 51:=Ent.mk Tryz.func51 (by kernel_rfl) rfl
theorem ent52:Ent Tryz.prog 52:=Ent.mk Tryz.func52 (by kernel_rfl) rfl
theorem ent65:Ent Tryz.prog 65:=Ent.mk Tryz.func65 (by kernel_rfl) rfl
theorem ent84:Ent Tryz.prog 84:=Ent.mk Tryz.func84 (by kernel_rfl) rfl
theorem ent113:Ent Tryz.prog 113:=Ent.mk Tryz.func113 (by kernel_rfl) rfl
theorem ent129:Ent Tryz.prog 129:=Ent.mk Tryz.func129 (by kernel_rfl) rfl
theorem ent130:Ent Tryz.prog 130:=Ent.mk Tryz.func130 (by kernel_rfl) rfl
theorem ent131:Ent Tryz.prog 131:=Ent.mk Tryz.func131 (by kernel_rfl) rfl
theorem ent135:Ent Tryz.prog 135:=Ent.mk Tryz.func135 (by kernel_rfl) rfl
theorem ent136:Ent Tryz.prog 136:=Ent.mk Tryz.func136 (by kernel_rfl) rfl
theorem ent137:Ent Tryz.prog 137:=Ent.mk Tryz.func137 (by kernel_rfl) rfl
theorem ent145:Ent Tryz.prog 145:=Ent.mk Tryz.func145 (by kernel_rfl) rfl
theorem ent146:Ent Tryz.prog 146:=Ent.mk Tryz.func146 (by kernel_rfl) rfl
theorem ent152:Ent Tryz.prog 152:=Ent.mk Tryz.func152 (by kernel_rfl) rfl
theorem ent157:Ent Tryz.prog 157:=Ent.mk Tryz.func157 (by kernel_rfl) rfl
theorem ent168:Ent Tryz.prog 168:=Ent.mk Tryz.func168 (by kernel_rfl) rfl
theorem ent171:Ent Tryz.prog 171:=Ent.mk Tryz.func171 (by kernel_rfl) rfl
theorem ent172:Ent Tryz.prog 172:=Ent.mk Tryz.func172 (by kernel_rfl) rfl
abbrev u2{A B R:Type}(f:A->B->R)(x:A×B):=f x.1 x.2
abbrev u3{A B C R:Type}(f:A->B->C->R):=u2 λa=>u2 (f a)
abbrev u4{A B C D R:Type}(f:A->B->C->D->R):=u2 λa=>u3 (f a)
abbrev u5{A B C D E R:Type}(f:A->B->C->D->E->R):=u2 λa=>u4 (f a)
abbrev u6{A B C D E F R:Type}(f:A->B->C->D->E->F->R):=u2 λa=>u5 (f a)
abbrev u7{A B C D E F G R:Type}(f:A->B->C->D->E->F->G->R):=u2 λa=>u6 (f a)
open Go.Proofs.Tryz
namespace F38
def H:Hd:=⟨[],[.agg [Si,Si,Si,Ow 21]],.d,⟨[],gl,false⟩,[],f38⟩
noncomputable def F(x:Unit):=JV
theorem rn x:H.u P_ x=F x:=by kernel_rfl
def c:Con:=⟨H.p,H.r,F⟩
theorem ok:ConOk P_ gl 38 c:=co H func38 .nil rn
end F38
namespace F45
def H:Hd:=⟨[.agg [Si,Si,Si,Sw]],[.agg [Si,Si]],.d,⟨[],gl,false⟩,[],f45⟩
def F:=u4 GF
theorem rn x:H.u P_ x=F x:=by kernel_rfl
def c:Con:=⟨H.p,H.r,F⟩
theorem ok:ConOk P_ gl 45 c:=co H func45 .nil rn
end F45
namespace F95
abbrev R_:=(Int32×Int32×Int)
def H:Hd:=⟨[Si],[Sx,Sx,Si],(.seq .d (.seq (.seq .d (.blk (.cut [0,7] [] .d .d))) .d)),⟨[],gl,false⟩,[],f95⟩
def x2(a:Int)(b:Bool):Option R_:=H.e P_ [r,l,r,d,r] ⟨[(0,vi a),(7,vt b)],[],[]⟩
theorem e2:x2=RU:=by kernel_rfl
def F:=Qm
theorem rn x:H.u P_ x=F x:=Eq.trans (b:=QI x2 x) (by kernel_rfl) (by simp only[e2]<;>rfl)
def c:Con:=⟨H.p,H.r,F⟩
theorem ok:ConOk P_ gl 95 c:=co H func95 .nil rn
end F95
namespace F59
def H:Hd:=⟨[.agg [Si,Si]],[Si],.d,⟨[(95,F95.c)],gl,false⟩,[],f59⟩
def F:=u2 Fp
theorem rn x:H.u P_ x=F x:=by kernel_rfl
def c:Con:=⟨H.p,H.r,F⟩
theorem ok:ConOk P_ gl 59 c:=co H func59 (.cons F95.ok .nil) rn
end F59
namespace F118
def H:Hd:=⟨[Si],[Si,Si],.d,⟨[],gl,false⟩,[],f118⟩
def F:=Qp
theorem rn x:H.u P_ x=F x:=by kernel_rfl
def c:Con:=⟨H.p,H.r,F⟩
theorem ok:ConOk P_ gl 118 c:=co H func118 .nil rn
end F118
namespace F110
def H:Hd:=⟨[Si,Si],[Si,Si],.d,⟨[(118,F118.c)],gl,false⟩,[],f110⟩
def F:=u2 Hg
theorem rn x:H.u P_ x=F x:=by kernel_rfl
def c:Con:=⟨H.p,H.r,F⟩
theorem ok:ConOk P_ gl 110 c:=co H func110 (.cons F118.ok .nil) rn
end F110
namespace F67
def H:Hd:=⟨[.agg [Si,Si,Si,Sw],Si],[Si],.d,⟨[(45,F45.c),(59,F59.c),(110,F110.c)],gl,false⟩,[],f67⟩
def F:=u5 GC
theorem rn x:H.u P_ x=F x:=by kernel_rfl
def c:Con:=⟨H.p,H.r,F⟩
theorem ok:ConOk P_ gl 67 c:=co H func67 (.cons F45.ok (.cons F59.ok (.cons F110.ok .nil))) rn
end F67
namespace F68
abbrev R_:=Int
def H:Hd:=⟨[Si,Sw],[Si],(.seq .d (.seq .d (.seq .d (.seq .d (.cut [] [] (.seq .d (.blk (.loop [5,6,22,23,24] [] .d))) .d))))),⟨[(95,F95.c)],gl,false⟩,[],f68⟩
def t4(b f:Int32)(a:LX)(g:Int):S:=⟨[(5,vx b),(6,vx f),(22,vw a),(23,vi (Ac a)),(24,vi g)],[],[]⟩
def z4:Nat->S->Option R_:=H.i P_ [r,r,r,r,l,r,d]
def x6:Option R_:=H.e P_ [r,r,r,r,r] ⟨[],[],[]⟩
def x4(b f:Int32)(a:LX)(g:Int):Option R_:=H.e P_ [r,r,r,r,l,r,d] (t4 b f a g)
theorem e6:x6=gX:=by kernel_rfl
theorem i4(b f:Int32)(a:LX):∀(q:Nat) (g:Int),z4 q (t4 b f a g)=Ph b f a q g:=
 ind (λ_=>by kernel_rfl) λq ih g=>Eq.trans (b:=BE x6 (λg=>(z4 q) (t4 b f a g)) b f a g) (by kernel_rfl) (by simp only[e6,ih]<;>rfl)
theorem e4:x4=eG:=by funext b f a g;exact Eq.trans (by kernel_rfl) ((i4 b f a Cy g).trans (by rw[Az];rfl))
def F:=u2 Un
theorem rn x:H.u P_ x=F x:=Eq.trans (b:=u2 (QV x4) x) (by kernel_rfl) (by simp only[e4]<;>rfl)
def c:Con:=⟨H.p,H.r,F⟩
theorem ok:ConOk P_ gl 68 c:=co H func68 (.cons F95.ok .nil) rn
end F68
namespace F34
def H:Hd:=⟨[.agg [Si,Si,Si,Sw]],[Si],.d,⟨[(67,F67.c),(68,F68.c)],gl,false⟩,[],f34⟩
def F:=u4 Df
theorem rn x:H.u P_ x=F x:=by kernel_rfl
def c:Con:=⟨H.p,H.r,F⟩
theorem ok:ConOk P_ gl 34 c:=co H func34 (.cons F67.ok (.cons F68.ok .nil)) rn
end F34
namespace F20
def LM(j2:LB->Int->Int->Int->LX->Option (Int×Int×Int×Int×Int×Int))(a b f:Int)(g:LX)(h:LB):Option (Int×Int×Int×Int×Int×Int):=
(Df a b f g).bind λk=>
if(Bm k 0)then
some (0,0,0,0,0,k)
else
if(Eu (Ac h) 64)then
some (0,0,0,0,0,2)
else
(Ik (Bm a 0)).bind λ_=>
bo (
j2 h a b f g)
theorem nB: @LM= @AU:=by
  unfold LM AU;simp only[vK,dT,iF]
abbrev R_:=(Int×Int×Int×Int×Int×Int)
def H:Hd:=⟨[.agg [Si,Si,Si,Sw],Ss],[.agg [Si,Si,Si,Si,Si],Si],(.seq .d (.seq .d (.seq .d (.cut [1,4,7] [] .d .d)))),⟨[(34,F34.c)],gl,false⟩,[],f20⟩
def x2(h:LB)(a b f:Int)(g:LX):Option R_:=H.e P_ [r,r,r,r] ⟨[(1,vs h),(4,.ptr 0 []),(7,.ptr 1 [])],[.box 52 (.agg [vi 0,vi 0,vi 0,vi 0,vi 0]),.box 52 (.agg [vi 1,vi a,vi b,vi f,vi (Bz (Ac g) a)])],[]⟩
theorem e2:x2=QD:=by kernel_rfl
def F:=u5 TM
theorem rn x:H.u P_ x=F x:=Eq.trans (b:=u5 (LM x2) x) (by kernel_rfl) (by unfold F;rw[nB];simp only[e2]<;>rfl)
def c:Con:=⟨H.p,H.r,F⟩
theorem ok:ConOk P_ gl 20 c:=co H func20 (.cons F34.ok .nil) rn
end F20
namespace F94
abbrev R_:=(UInt64×Int)
abbrev K_:=S->Option R_
def H:Hd:=⟨[Sq,Sb],[Sq,Si],(.seq .d (.seq .d (.cut [4,5] [] (.keep [0,1,4,5,9,10,11,12] true) .d))),⟨[],gl,false⟩,[(135,(.seq .d (.cut [1] [] (.seq .d (.blk (.loop [0,1,9,10,11] [] .d))) .d))),(136,(.seq .d (.seq .d (.cut [1] [] (.seq .d (.blk (.loop [1,5] [] (.seq .d (.seq .d (.cut [1,5] [] (.blk (.seq .d (.seq .d (.cut [1,2,3,5] [] (.seq .d (.blk (.loop [1,2,3,5,11] [] .d))) .d)))) .d)))))) .d))))],f94⟩
def t27(a:LB)(b:UInt64)(f:LQ)(h:UInt64)(m:Int):S:=⟨[(0,.ptr 0 []),(1,vq h),(9,vb a),(10,vi (Ac a)),(11,vi m)],[.box 253 (.val (.vec 256 (.int .u64)) f)],[[(0,vq b),(1,vb a),(4,vq 0),(5,vi 0),(9,.ptr 0 []),(10,vq b),(11,vb a)]]⟩
def z27:Nat->S->Option R_:=H.i P_ [r,r,l,(call 3 135),r,l,r,d]
def t21(b:UInt64)(a:LB)(g:Int)(f:LQ)(k:UInt64)(n:Int):S:=⟨[(1,.ptr 0 []),(2,vi g),(3,vq k),(5,vi g),(11,vi n)],[.box 253 (.val (.vec 256 (.int .u64)) f)],[[(0,vq b),(1,vb a),(4,vq 0),(5,vi 0)]]⟩
def z21(Dr:K_):Nat->S->Option R_:=H.i P_ [r,r,l,(call 0 136),r,r,l,r,d,(lp Dr),r,r,l,d,r,r,l,r,d]
def t16(b:UInt64)(a:LB)(g:Int)(f:LQ):S:=⟨[(1,.ptr 0 []),(5,vi g)],[.box 253 (.val (.vec 256 (.int .u64)) f)],[[(0,vq b),(1,vb a),(4,vq 0),(5,vi 0)]]⟩
def z16:Nat->S->Option R_:=H.i P_ [r,r,l,(call 0 136),r,r,l,r,d]
def x30(h:UInt64):Option R_:=H.e P_ [r,r,r] ⟨[(4,vq h),(5,vi 0)],[],[]⟩
def x29(h b:UInt64)(a:LB)(f:LQ):Option R_:=H.e P_ [r,r,l,(call 3 135),r,r] ⟨[(1,vq h)],[.box 253 (.val (.vec 256 (.int .u64)) f)],[[(0,vq b),(1,vb a),(4,vq 0),(5,vi 0),(9,.ptr 0 []),(10,vq b),(11,vb a)]]⟩
def x27(a:LB)(b:UInt64)(f:LQ)(h:UInt64)(m:Int):Option R_:=H.e P_ [r,r,l,(call 3 135),r,l,r,d] (t27 a b f h m)
def x26(b:UInt64)(a:LB)(f:LQ):Option R_:=H.e P_ [r,r,l,(call 0 136),r,r,r] ⟨[(1,.ptr 0 [])],[.box 253 (.val (.vec 256 (.int .u64)) f)],[[(0,vq b),(1,vb a),(4,vq 0),(5,vi 0)]]⟩
def x24(Dr:K_)(b:UInt64)(a:LB)(g:Int)(o:LQ):Option R_:=H.e P_ [r,r,l,(call 0 136),r,r,l,r,d,(lp Dr),r,r,r] ⟨[(1,.ptr 0 []),(5,vi g)],[.box 253 (.val (.vec 256 (.int .u64)) o)],[[(0,vq b),(1,vb a),(4,vq 0),(5,vi 0)]]⟩
def x23(Dr:K_)(b:UInt64)(a:LB)(g:Int)(k:UInt64)(f:LQ):Option R_:=H.e P_ [r,r,l,(call 0 136),r,r,l,r,d,(lp Dr),r,r,l,d,r,r,r] ⟨[(1,.ptr 0 []),(2,vi g),(3,vq k),(5,vi g)],[.box 253 (.val (.vec 256 (.int .u64)) f)],[[(0,vq b),(1,vb a),(4,vq 0),(5,vi 0)]]⟩
def x21(Dr:K_)(b:UInt64)(a:LB)(g:Int)(f:LQ)(k:UInt64)(n:Int):Option R_:=H.e P_ [r,r,l,(call 0 136),r,r,l,r,d,(lp Dr),r,r,l,d,r,r,l,r,d] (t21 b a g f k n)
def x16(b:UInt64)(a:LB)(g:Int)(f:LQ):Option R_:=H.e P_ [r,r,l,(call 0 136),r,r,l,r,d] (t16 b a g f)
theorem e30:x30=QH:=by kernel_rfl
theorem e29:x29=QU:=Eq.trans (b:=OP x30) (by kernel_rfl) (by simp only[e30]<;>rfl)
theorem i27(a:LB)(b:UInt64)(f:LQ):∀(q:Nat) (h:UInt64) (m:Int),z27 q (t27 a b f h m)=Po a b f q h m:=
 ind (λ_ _=>by kernel_rfl) λq ih h m=>Eq.trans (b:=CJ x29 (λh m=>(z27 q) (t27 a b f h m)) a b f h m) (by kernel_rfl) (by simp only[e29,ih]<;>rfl)
theorem e27:x27=OZ:=by funext a b f h m;exact Eq.trans (by kernel_rfl) ((i27 a b f Cy h m).trans (by rw[Az];rfl))
theorem e26:x26=CZ:=Eq.trans (b:=OL x27) (by kernel_rfl) (by simp only[e27]<;>rfl)
theorem e24(Dr:K_)(b:UInt64)(a:LB):x24 Dr b a=PG (λg f=>Dr (t16 b a g f)) b a:=by kernel_rfl
theorem e23(Dr:K_)(b:UInt64)(a:LB):x23 Dr b a=BQ (λg f=>Dr (t16 b a g f)) b a:=Eq.trans (b:=OV (x24 Dr b a) b a) (by kernel_rfl) (by simp only[e24]<;>rfl)
theorem i21(Dr:K_)(b:UInt64)(a:LB)(g:Int)(f:LQ):∀(q:Nat) (k:UInt64) (n:Int),z21 Dr q (t21 b a g f k n)=Pz (λg f=>Dr (t16 b a g f)) b a g f q k n:=
 ind (λ_ _=>by kernel_rfl) λq ih k n=>Eq.trans (b:=AX (x23 Dr b a) (λk n=>(z21 Dr q) (t21 b a g f k n)) b a g f k n) (by kernel_rfl) (by simp only[e23,ih]<;>rfl)
theorem e21(Dr:K_)(b:UInt64)(a:LB):x21 Dr b a=RV (λg f=>Dr (t16 b a g f)) b a:=by funext g f k n;exact Eq.trans (by kernel_rfl) ((i21 Dr b a g f Cy k n).trans (by rw[Az];rfl))
theorem i16(b:UInt64)(a:LB):∀(q:Nat) (g:Int) (f:LQ),z16 q (t16 b a g f)=Mf b a q g f:=
 ind (λ_ _=>by kernel_rfl) λq ih g f=>Eq.trans (b:=CQ (x21 (z16 q) b a) x26 b a g f) (by kernel_rfl) (by simp only[e21,e26,ih]<;>rfl)
theorem e16:x16=PY:=by funext b a g f;exact Eq.trans (by kernel_rfl) ((i16 b a Cy g f).trans (by rw[Az];rfl))
def F:=u2 aP
theorem rn x:H.u P_ x=F x:=Eq.trans (b:=u2 (VJ x16) x) (by kernel_rfl) (by simp only[e16]<;>rfl)
def c:Con:=⟨H.p,H.r,F⟩
theorem ok:ConOk P_ gl 94 c:=cr H func94 .nil (Fa.cons ent135 (Fa.cons ent136 Fa.nil)) rn
end F94
namespace F57
def H:Hd:=⟨[Sb],[Sq,Si],.d,⟨[(94,F94.c)],gl,false⟩,[],f57⟩
def F:=WY
theorem rn x:H.u P_ x=F x:=by kernel_rfl
def c:Con:=⟨H.p,H.r,F⟩
theorem ok:ConOk P_ gl 57 c:=co H func57 (.cons F94.ok .nil) rn
end F57
namespace F58
abbrev R_:=LX
def H:Hd:=⟨[Sq],[.lf (.vec 16 (.int .i32)) none],(.seq .d (.seq .d (.cut [2,3] [] (.seq .d (.blk (.loop [0,2,3,5] [] .d))) .d))),⟨[],gl,false⟩,[],f58⟩
def t4(f:UInt64)(b:Int)(a:LX):S:=⟨[(0,vq f),(2,.ptr 0 []),(3,.ptr 1 []),(5,vi b)],[.box 71 (.val (.vec 16 (.int .i32)) (List.replicate 16 (0:Int32))),.box 71 (.val (.vec 16 (.int .i32)) a)],[]⟩
def z4:Nat->S->Option R_:=H.i P_ [r,r,l,r,d]
def x6(a:LX):Option R_:=H.e P_ [r,r,r] ⟨[(2,.ptr 0 []),(3,.ptr 1 [])],[.box 71 (.val (.vec 16 (.int .i32)) (List.replicate 16 (0:Int32))),.box 71 (.val (.vec 16 (.int .i32)) a)],[]⟩
def x4(f:UInt64)(b:Int)(a:LX):Option R_:=H.e P_ [r,r,l,r,d] (t4 f b a)
theorem e6:x6=yG:=by kernel_rfl
theorem i4(f:UInt64):∀(q:Nat) (b:Int) (a:LX),z4 q (t4 f b a)=HB f q b a:=
 ind (λ_ _=>by kernel_rfl) λq ih b a=>Eq.trans (b:=bS x6 (λb a=>(z4 q) (t4 f b a)) f b a) (by kernel_rfl) (by simp only[e6,ih]<;>rfl)
theorem e4:x4=I0:=by funext f b a;exact Eq.trans (by kernel_rfl) ((i4 f Cy b a).trans (by rw[Az];rfl))
def F:=S7
theorem rn x:H.u P_ x=F x:=Eq.trans (b:=D9 x4 x) (by kernel_rfl) (by simp only[e4]<;>rfl)
def c:Con:=⟨H.p,H.r,F⟩
theorem ok:ConOk P_ gl 58 c:=co H func58 .nil rn
end F58
namespace F31
def H:Hd:=⟨[Ss],[.lf (.vec 16 (.int .i32)) none,Si],.d,⟨[(57,F57.c),(58,F58.c)],gl,false⟩,[],f31⟩
def F:=HI
theorem rn x:H.u P_ x=F x:=by kernel_rfl
def c:Con:=⟨H.p,H.r,F⟩
theorem ok:ConOk P_ gl 31 c:=co H func31 (.cons F57.ok (.cons F58.ok .nil)) rn
end F31
namespace F167
def H:Hd:=⟨[Sq,Sq],[Sq,Sq],.d,⟨[],gl,false⟩,[],f167⟩
def F:=u2 LR
theorem rn x:H.u P_ x=F x:=by kernel_rfl
def c:Con:=⟨H.p,H.r,F⟩
theorem ok:ConOk P_ gl 167 c:=co H func167 .nil rn
end F167
namespace F150
def H:Hd:=⟨[Sq,Sq],[Sq,Sq],.d,⟨[(167,F167.c)],gl,false⟩,[],f150⟩
def F:=u2 IA
theorem rn x:H.u P_ x=F x:=by kernel_rfl
def c:Con:=⟨H.p,H.r,F⟩
theorem ok:ConOk P_ gl 150 c:=co H func150 (.cons F167.ok .nil) rn
end F150
namespace F119
def Nc(j10:LI->Option (LI))(bk8:Int->LI->Option (LI))(b:Int)(a:LI):Option (LI):=
if(Cc b (Ac a))then
both (
(cG (Ac a) b (Ac a)).bind λ_=>
(cG (Ac a) 0 b).bind λ_=>
bk8 (Ae b (RA ((Ac a)-b) (SL a 0 (b-(0:Int))).length)) (Sr a b ((Ac a)-b) (SL a 0 (b-(0:Int))))) [
(cG (Ac a) 0 b).bind λ_=>
(cG (Ac a) b (Ac a)).bind λ_=>
bk8 (Ae b (RA ((Ac a)-b) (SL a 0 (b-(0:Int))).length)) (Sr a b ((Ac a)-b) (SL a 0 (b-(0:Int))))]
else
j10 a
theorem KY: @Nc= @Gj:=by
  unfold Nc Gj
  repeat (refine funext λ_=>?_)
  repeat' first
    |with_reducible rfl
    |with_reducible refine Xq ?_ ?_
    |with_reducible refine Xg ?_ ?_ ?_
    |with_reducible refine Xu ?_ ?_ ?_ ?_
    |((with_reducible refine HZ ?_ ?_);focus (intro h;first|(subst h;rfl)|(simp only[h];rfl)|(simp[Db,Ac,h];done)))
    |with_reducible refine HK λx=>?_
    |with_reducible refine UN (λ_=>?_) (λ_=>?_)
    |(refine Nu (λh=>by simp only[h,HS,Jv,Jj,ite_self]) (λx h=>?_);(try simp only[h,Jv]))
    |(refine Sj (λh=>?_) (λh=>?_)<;>simp only[h,if_true,if_false,Bool.false_eq_true])
abbrev R_:=LI
def H:Hd:=⟨[Sl,Si],[Ol 3],(.seq .d (.cut [0,1] [] .d (.seq .d (.cut [0,6] [] .d (.seq .d (.seq .d (.cut [7] [] (.blk (.loop [7,8] [] (.seq .d (.blk (.mode false))))) .d))))))),⟨[(150,F150.c)],gl,true⟩,[],f119⟩
def t8(b:Int)(a:LI):S:=⟨[(7,.own 0),(8,vi b)],[Ai 3 a],[]⟩
def z8:Nat->S->Option R_:=H.i P_ [r,r,r,r,r,r,l,d]
def x10(a:LI):Option R_:=H.e P_ [r,r,r,r,r,r,r] ⟨[(7,.own 0)],[Ai 3 a],[]⟩
def x8(b:Int)(a:LI):Option R_:=H.e P_ [r,r,r,r,r,r,l,d] (t8 b a)
def x7(f:LI)(g:UInt64):Option R_:=H.e P_ [r,r,r,r] ⟨[(0,vl f),(6,vq g)],[],[]⟩
def x6(f:LI)(h:Int):Option R_:=H.e P_ [r,r] ⟨[(0,vl f),(1,vi h)],[],[]⟩
theorem e10:x10=Ie:=by kernel_rfl
theorem i8:∀(q:Nat) (b:Int) (a:LI),z8 q (t8 b a)=Eh q b a:=
 ind (λ_ _=>by kernel_rfl) λq ih b a=>Eq.trans (b:=Nc x10 (λb a=>(z8 q) (t8 b a)) b a) (by kernel_rfl) (by rw[KY];simp only[e10,ih]<;>rfl)
theorem e8:x8=Oe:=by funext b a;exact Eq.trans (by kernel_rfl) ((i8 Cy b a).trans (by rw[Az];rfl))
theorem e7:x7=Nz:=Eq.trans (b:=Og x8) (by kernel_rfl) (by simp only[e8]<;>rfl)
theorem e6:x6=Oh:=Eq.trans (b:=Nw x7) (by kernel_rfl) (by simp only[e7]<;>rfl)
def F:=u2 Mp
theorem rn x:H.u P_ x=F x:=Eq.trans (b:=u2 (Od x6) x) (by kernel_rfl) (by simp only[e6]<;>rfl)
def c:Con:=⟨H.p,H.r,F⟩
theorem ok:ConOk P_ gl 119 c:=co H func119 (.cons F150.ok .nil) rn
end F119
namespace F151
abbrev R_:=LI
def H:Hd:=⟨[.lf (.list (.list (.int .i64))) none],[Ol 3],(.seq .d (.seq .d (.cut [0,3] [] (.seq .d (.blk (.loop [0,3,9,10,11] [] .d))) (.cut [0,6] [⟨6,[],.own 3 (.int .i64)⟩] (.keep [0,3,6,23,24] true) (.cut [6] [] (.seq .d (.blk (.loop [6,25,26,27] [] .d))) .d))))),⟨[],gl,true⟩,[(168,(.seq .d (.cut [0,1] [] .d .d)))],f151⟩
def t14(a:List LI)(g:Int)(f:LI):S:=⟨[(6,.own 0),(25,.val (.list (.list (.int .i64))) a),(26,vi (Ac a)),(27,vi g)],[Ai 3 f],[]⟩
def z14:Nat->S->Option R_:=H.i P_ [r,r,r,r,l,r,d]
def t9(a:List LI)(b h:Int):S:=⟨[(0,.val (.list (.list (.int .i64))) a),(3,vi b),(9,.val (.list (.list (.int .i64))) a),(10,vi (Ac a)),(11,vi h)],[],[]⟩
def z9:Nat->S->Option R_:=H.i P_ [r,r,l,r,d]
def x16(f:LI):Option R_:=H.e P_ [r,r,r,r,r] ⟨[(6,.own 0)],[Ai 3 f],[]⟩
def x14(a:List LI)(g:Int)(f:LI):Option R_:=H.e P_ [r,r,r,r,l,r,d] (t14 a g f)
def x13(a:List LI)(k:LI):Option R_:=H.e P_ [r,r,r,r] ⟨[(0,.val (.list (.list (.int .i64))) a),(6,.own 0)],[Ai 3 k],[]⟩
def x12(b:Int)(a:List LI):Option R_:=H.e P_ [r,r,r,l,(call 1 168),r,r] ⟨[(0,.nils),(1,vi b)],[],[[(0,.val (.list (.list (.int .i64))) a),(3,vi b),(23,vi b)]]⟩
def x11(a:List LI)(b:Int):Option R_:=H.e P_ [r,r,r] ⟨[(0,.val (.list (.list (.int .i64))) a),(3,vi b)],[],[]⟩
def x9(a:List LI)(b h:Int):Option R_:=H.e P_ [r,r,l,r,d] (t9 a b h)
theorem e16:x16=Wd:=by kernel_rfl
theorem i14(a:List LI):∀(q:Nat) (g:Int) (f:LI),z14 q (t14 a g f)=Dv a q g f:=
 ind (λ_ _=>by kernel_rfl) λq ih g f=>Eq.trans (b:=Fy x16 (λg f=>(z14 q) (t14 a g f)) a g f) (by kernel_rfl) (by simp only[e16,ih]<;>rfl)
theorem e14:x14=Na:=by funext a g f;exact Eq.trans (by kernel_rfl) ((i14 a Cy g f).trans (by rw[Az];rfl))
theorem e13:x13=Ih:=Eq.trans (b:=Mw x14) (by kernel_rfl) (by simp only[e14]<;>rfl)
theorem e12:x12=Mz:=Eq.trans (b:=Mx x13) (by kernel_rfl) (by simp only[e13]<;>rfl)
theorem e11:x11=Mt:=Eq.trans (b:=Nb x12) (by kernel_rfl) (by simp only[e12]<;>rfl)
theorem i9(a:List LI):∀(q:Nat) (b h:Int),z9 q (t9 a b h)=Eg a q b h:=
 ind (λ_ _=>by kernel_rfl) λq ih b h=>Eq.trans (b:=Gh x11 (λb h=>(z9 q) (t9 a b h)) a b h) (by kernel_rfl) (by simp only[e11,ih]<;>rfl)
theorem e9:x9=Nx:=by funext a b h;exact Eq.trans (by kernel_rfl) ((i9 a Cy b h).trans (by rw[Az];rfl))
def F:=Ml
theorem rn x:H.u P_ x=F x:=Eq.trans (b:=Oa x9 x) (by kernel_rfl) (by simp only[e9]<;>rfl)
def c:Con:=⟨H.p,H.r,F⟩
theorem ok:ConOk P_ gl 151 c:=cr H func151 .nil (Fa.cons ent168 Fa.nil) rn
end F151
namespace F120
def H:Hd:=⟨[Sl,Sl],[Ol 3],.d,⟨[(151,F151.c)],gl,false⟩,[],f120⟩
def F:=u2 QF
theorem rn x:H.u P_ x=F x:=by kernel_rfl
def c:Con:=⟨H.p,H.r,F⟩
theorem ok:ConOk P_ gl 120 c:=co H func120 (.cons F151.ok .nil) rn
end F120
namespace F80
def H:Hd:=⟨[Si,Si],[Ol 3,Si],.d,⟨[(110,F110.c),(118,F118.c),(119,F119.c),(120,F120.c)],gl,false⟩,[],f80⟩
def F:=u2 Uj
theorem rn x:H.u P_ x=F x:=by kernel_rfl
def c:Con:=⟨H.p,H.r,F⟩
theorem ok:ConOk P_ gl 80 c:=co H func80 (.cons F110.ok (.cons F118.ok (.cons F119.ok (.cons F120.ok .nil)))) rn
end F80
namespace F121
def H:Hd:=⟨[.agg [Si,Si],Sw],[Si],.d,⟨[(59,F59.c),(68,F68.c)],gl,false⟩,[],f121⟩
def F:=u3 HN
theorem rn x:H.u P_ x=F x:=by kernel_rfl
def c:Con:=⟨H.p,H.r,F⟩
theorem ok:ConOk P_ gl 121 c:=co H func121 (.cons F59.ok (.cons F68.ok .nil)) rn
end F121
namespace F143
def H:Hd:=⟨[Si,Sw],[Si],.d,⟨[],gl,false⟩,[],f143⟩
def F:=u2 XH
theorem rn x:H.u P_ x=F x:=by kernel_rfl
def c:Con:=⟨H.p,H.r,F⟩
theorem ok:ConOk P_ gl 143 c:=co H func143 .nil rn
end F143
namespace F144
def Kb(a:LX):Option (LX):=
R6 a (
some ([]:LX)) (
(Db ([]:LX) a).bind λb=>
some b)
theorem EO: @Kb= @Dd:=by
  unfold Kb Dd
  repeat (refine funext λ_=>?_)
  repeat' first
    |with_reducible rfl
    |with_reducible refine Xq ?_ ?_
    |with_reducible refine Xg ?_ ?_ ?_
    |with_reducible refine Xu ?_ ?_ ?_ ?_
    |((with_reducible refine HZ ?_ ?_);focus (intro h;first|(subst h;rfl)|(simp only[h];rfl)|(simp[Db,Ac,h];done)))
    |with_reducible refine HK λx=>?_
    |with_reducible refine UN (λ_=>?_) (λ_=>?_)
    |(refine Nu (λh=>by simp only[h,HS,Jv,Jj,ite_self]) (λx h=>?_);(try simp only[h,Jv]))
    |(refine Sj (λh=>?_) (λh=>?_)<;>simp only[h,if_true,if_false,Bool.false_eq_true])
def H:Hd:=⟨[Sw],[Ow 21],.d,⟨[],gl,false⟩,[],f144⟩
def F:=Dd
theorem rn x:H.u P_ x=F x:=Eq.trans (b:=Kb x) (by kernel_rfl) (by rw[EO];rfl)
def c:Con:=⟨H.p,H.r,F⟩
theorem ok:ConOk P_ gl 144 c:=co H func144 .nil rn
end F144
namespace F122
abbrev R_:=(LX×Int)
abbrev K_:=S->Option R_
def H:Hd:=⟨[Si,Sw],[Ow 21,Si],(.seq .d (.seq .d (.seq .d (.cut [7] [] (.seq .d (.blk (.loop [0,7,8] [] (.seq .d (.cut [0,7,8] [] (.blk (.keep [0,7,8,24,25,26,27,28,29] true)) .d))))) .d)))),⟨[(143,F143.c),(144,F144.c)],gl,true⟩,[(152,(.seq .d (.cut [0,2] [] (.seq .d (.blk (.loop [0,2,7,8] [] .d))) .d)))],f122⟩
def t17(b a h:Int)(g:LX):S:=⟨[(0,.view true 0 [] (.int .i32) a ((Ae a b)-a)),(2,vi (Ah ((Ae a b)-a) (1:Int))),(7,vi (Ah ((Ae a b)-a) (1:Int))),(8,vi h)],[Aw 21 g],[[(0,vi b),(7,.own 0),(8,vi a),(24,.own 0),(25,vi a),(26,vi a),(27,vi b),(28,vi (Ae a b)),(29,.view true 0 [] (.int .i32) a ((Ae a b)-a))]]⟩
def z17(Mj:K_):Nat->S->Option R_:=H.i P_ [r,r,r,l,r,d,(lp Mj),r,l,d,(call 6 152),r,l,r,d]
def t12(b a:Int)(f:LX):S:=⟨[(0,vi b),(7,.own 0),(8,vi a)],[Aw 21 f],[]⟩
def z12:Nat->S->Option R_:=H.i P_ [r,r,r,l,r,d]
def x22(f:LX):Option R_:=H.e P_ [r,r,r,r] ⟨[(7,.own 0)],[Aw 21 f],[]⟩
def x20(Mj:K_)(b a:Int)(k:LX):Option R_:=H.e P_ [r,r,r,l,r,d,(lp Mj),r,r] ⟨[(0,vi b),(7,.own 0),(8,vi a)],[Aw 21 k],[]⟩
def x19(Mj:K_)(b a:Int)(g:LX):Option R_:=H.e P_ [r,r,r,l,r,d,(lp Mj),r,l,d,(call 6 152),r,r] ⟨[(0,.view true 0 [] (.int .i32) a ((Ae a b)-a)),(2,vi (Ah ((Ae a b)-a) (1:Int)))],[Aw 21 g],[[(0,vi b),(7,.own 0),(8,vi a),(24,.own 0),(25,vi a),(26,vi a),(27,vi b),(28,vi (Ae a b)),(29,.view true 0 [] (.int .i32) a ((Ae a b)-a))]]⟩
def x17(Mj:K_)(b a h:Int)(g:LX):Option R_:=H.e P_ [r,r,r,l,r,d,(lp Mj),r,l,d,(call 6 152),r,l,r,d] (t17 b a h g)
def x12(b a:Int)(f:LX):Option R_:=H.e P_ [r,r,r,l,r,d] (t12 b a f)
theorem e22:x22=tY:=by kernel_rfl
theorem e20(Mj:K_)(b:Int):x20 Mj b=TN (λa f=>Mj (t12 b a f)) b:=by kernel_rfl
theorem e19(Mj:K_)(b:Int):x19 Mj b=eB (λa f=>Mj (t12 b a f)) b:=Eq.trans (b:=jF (x20 Mj b) b) (by kernel_rfl) (by simp only[e20]<;>rfl)
theorem i17(Mj:K_)(b a:Int):∀(q:Nat) (h:Int) (g:LX),z17 Mj q (t17 b a h g)=AJ (λa f=>Mj (t12 b a f)) b a q h g:=
 ind (λ_ _=>by kernel_rfl) λq ih h g=>Eq.trans (b:=SO (x19 Mj b) (λh g=>(z17 Mj q) (t17 b a h g)) b a h g) (by kernel_rfl) (by simp only[e19,ih]<;>rfl)
theorem e17(Mj:K_)(b:Int):x17 Mj b=uJ (λa f=>Mj (t12 b a f)) b:=by funext a h g;exact Eq.trans (by kernel_rfl) ((i17 Mj b a Cy h g).trans (by rw[Az];rfl))
theorem i12(b:Int):∀(q:Nat) (a:Int) (f:LX),z12 q (t12 b a f)=AM b q a f:=
 ind (λ_ _=>by kernel_rfl) λq ih a f=>Eq.trans (b:=eN (x17 (z12 q) b) x22 b a f) (by kernel_rfl) (by simp only[e17,e22,ih]<;>rfl)
theorem e12:x12=eH:=by funext b a f;exact Eq.trans (by kernel_rfl) ((i12 b Cy a f).trans (by rw[Az];rfl))
def F:=u2 wO
theorem rn x:H.u P_ x=F x:=Eq.trans (b:=u2 (nG x12) x) (by kernel_rfl) (by simp only[e12]<;>rfl)
def c:Con:=⟨H.p,H.r,F⟩
theorem ok:ConOk P_ gl 122 c:=cr H func122 (.cons F143.ok (.cons F144.ok .nil)) (Fa.cons ent152 Fa.nil) rn
end F122
namespace F139
abbrev R_:=(Int×LX×LX×Int)
def H:Hd:=⟨[Si,.lf (.vec 16 (.int .i32)) none],[.agg [Si,.lf (.vec 16 (.int .i32)) none,.lf (.vec 16 (.int .i32)) none],Si],(.seq .d (.seq .d (.seq (.seq .d (.blk (.cut [4,6,9,11] [] .d .d))) .d))),⟨[],gl,false⟩,[],f139⟩
def x2(a:Int)(b:LX)(f:Bool):Option R_:=H.e P_ [r,r,l,r,d,r] ⟨[(4,.ptr 0 []),(6,.ptr 1 []),(9,vi a),(11,vt f)],[.box 180 (.agg [vi 0,.val (.vec 16 (.int .i32)) (List.replicate 16 (0:Int32)),.val (.vec 16 (.int .i32)) (List.replicate 16 (0:Int32))]),.box 180 (.agg [vi 10,.val (.vec 16 (.int .i32)) b,.val (.vec 16 (.int .i32)) (List.replicate 16 (0:Int32))])],[]⟩
theorem e2:x2=uR:=by kernel_rfl
def F:=u2 qH
theorem rn x:H.u P_ x=F x:=Eq.trans (b:=u2 (vC x2) x) (by kernel_rfl) (by simp only[e2]<;>rfl)
def c:Con:=⟨H.p,H.r,F⟩
theorem ok:ConOk P_ gl 139 c:=co H func139 .nil rn
end F139
namespace F103
def H:Hd:=⟨[Si,.lf (.vec 16 (.int .i32)) none],[.agg [Si,Sx,.agg [Si,.lf (.vec 16 (.int .i32)) none,.lf (.vec 16 (.int .i32)) none]],Si],.d,⟨[(139,F139.c)],gl,false⟩,[],f103⟩
def F:=u2 tR
theorem rn x:H.u P_ x=F x:=by kernel_rfl
def c:Con:=⟨H.p,H.r,F⟩
theorem ok:ConOk P_ gl 103 c:=co H func103 (.cons F139.ok .nil) rn
end F103
namespace F140
def H:Hd:=⟨[.agg [Si,Sx,.agg [Si,.lf (.vec 16 (.int .i32)) none,.lf (.vec 16 (.int .i32)) none]]],[Si],.d,⟨[(139,F139.c)],gl,false⟩,[],f140⟩
def F:=u5 Um
theorem rn x:H.u P_ x=F x:=by kernel_rfl
def c:Con:=⟨H.p,H.r,F⟩
theorem ok:ConOk P_ gl 140 c:=co H func140 (.cons F139.ok .nil) rn
end F140
namespace F161
def H:Hd:=⟨[Si],[Si,Si],.d,⟨[],gl,false⟩,[],f161⟩
def F:=gB
theorem rn x:H.u P_ x=F x:=by kernel_rfl
def c:Con:=⟨H.p,H.r,F⟩
theorem ok:ConOk P_ gl 161 c:=co H func161 .nil rn
end F161
namespace F162
def H:Hd:=⟨[Si,Sx],[Sx],.d,⟨[],gl,false⟩,[],f162⟩
def F:=u2 SR
theorem rn x:H.u P_ x=F x:=by kernel_rfl
def c:Con:=⟨H.p,H.r,F⟩
theorem ok:ConOk P_ gl 162 c:=co H func162 .nil rn
end F162
namespace F141
def H:Hd:=⟨[Si,Sx],[Sx,Si],.d,⟨[(161,F161.c),(162,F162.c)],gl,false⟩,[],f141⟩
def F:=u2 Uo
theorem rn x:H.u P_ x=F x:=by kernel_rfl
def c:Con:=⟨H.p,H.r,F⟩
theorem ok:ConOk P_ gl 141 c:=co H func141 (.cons F161.ok (.cons F162.ok .nil)) rn
end F141
namespace F174
def H:Hd:=⟨[.agg [Si,.lf (.vec 16 (.int .i32)) none,.lf (.vec 16 (.int .i32)) none]],[Si],.d,⟨[],gl,false⟩,[],f174⟩
def F:=u3 GX
theorem rn x:H.u P_ x=F x:=by kernel_rfl
def c:Con:=⟨H.p,H.r,F⟩
theorem ok:ConOk P_ gl 174 c:=co H func174 .nil rn
end F174
namespace F163
abbrev R_:=(Int32×Int)
def H:Hd:=⟨[.agg [Si,.lf (.vec 16 (.int .i32)) none,.lf (.vec 16 (.int .i32)) none]],[Sx,Si],(.seq .d (.seq .d (.seq .d (.cut [1,5] [] (.seq .d (.blk (.loop [1,5,18,19] [] .d))) .d)))),⟨[(174,F174.c)],gl,false⟩,[],f163⟩
def t4(b:LX)(a:Int)(f:LX)(g:Int32)(h:Int):S:=⟨[(1,.ptr 0 []),(5,vx g),(18,.val (.vec 16 (.int .i32)) b),(19,vi h)],[.box 180 (.agg [vi a,.val (.vec 16 (.int .i32)) b,.val (.vec 16 (.int .i32)) f])],[]⟩
def z4:Nat->S->Option R_:=H.i P_ [r,r,r,l,r,d]
def x6(g:Int32)(a:Int)(b f:LX):Option R_:=H.e P_ [r,r,r,r] ⟨[(1,.ptr 0 []),(5,vx g)],[.box 180 (.agg [vi a,.val (.vec 16 (.int .i32)) b,.val (.vec 16 (.int .i32)) f])],[]⟩
def x4(b:LX)(a:Int)(f:LX)(g:Int32)(h:Int):Option R_:=H.e P_ [r,r,r,l,r,d] (t4 b a f g h)
theorem e6:x6=UR:=by kernel_rfl
theorem i4(b:LX)(a:Int)(f:LX):∀(q:Nat) (g:Int32) (h:Int),z4 q (t4 b a f g h)=Sk b a f q g h:=
 ind (λ_ _=>by kernel_rfl) λq ih g h=>Eq.trans (b:=HQ x6 (λg h=>(z4 q) (t4 b a f g h)) b a f g h) (by kernel_rfl) (by simp only[e6,ih]<;>rfl)
theorem e4:x4=VA:=by funext b a f g h;exact Eq.trans (by kernel_rfl) ((i4 b a f Cy g h).trans (by rw[Az];rfl))
def F:=u3 QQ
theorem rn x:H.u P_ x=F x:=Eq.trans (b:=u3 (UL x4) x) (by kernel_rfl) (by simp only[e4]<;>rfl)
def c:Con:=⟨H.p,H.r,F⟩
theorem ok:ConOk P_ gl 163 c:=co H func163 (.cons F174.ok .nil) rn
end F163
namespace F177
def H:Hd:=⟨[Si],[Sx],.d,⟨[],gl,false⟩,[],f177⟩
def F:=WR
theorem rn x:H.u P_ x=F x:=by kernel_rfl
def c:Con:=⟨H.p,H.r,F⟩
theorem ok:ConOk P_ gl 177 c:=co H func177 .nil rn
end F177
namespace F175
abbrev R_:=(Int×LX×LX×Int)
def H:Hd:=⟨[.agg [Si,.lf (.vec 16 (.int .i32)) none,.lf (.vec 16 (.int .i32)) none],Sx],[.agg [Si,.lf (.vec 16 (.int .i32)) none,.lf (.vec 16 (.int .i32)) none],Si],(.seq .d (.seq .d (.seq .d (.cut [2,4] [] (.seq .d (.blk (.loop [1,2,4,19,20] [] .d))) .d)))),⟨[(174,F174.c),(177,F177.c)],gl,false⟩,[],f175⟩
def t4(h:Int32)(f:LX)(g a:Int)(b:LX):S:=⟨[(1,vx h),(2,.ptr 0 []),(4,.ptr 1 []),(19,.val (.vec 16 (.int .i32)) f),(20,vi a)],[.box 180 (.agg [vi g,.val (.vec 16 (.int .i32)) b,.val (.vec 16 (.int .i32)) f]),.box 180 (.agg [vi 0,.val (.vec 16 (.int .i32)) (List.replicate 16 (0:Int32)),.val (.vec 16 (.int .i32)) (List.replicate 16 (0:Int32))])],[]⟩
def z4:Nat->S->Option R_:=H.i P_ [r,r,r,l,r,d]
def x6(g:Int)(b f:LX):Option R_:=H.e P_ [r,r,r,r] ⟨[(2,.ptr 0 []),(4,.ptr 1 [])],[.box 180 (.agg [vi g,.val (.vec 16 (.int .i32)) b,.val (.vec 16 (.int .i32)) f]),.box 180 (.agg [vi 0,.val (.vec 16 (.int .i32)) (List.replicate 16 (0:Int32)),.val (.vec 16 (.int .i32)) (List.replicate 16 (0:Int32))])],[]⟩
def x4(h:Int32)(f:LX)(g a:Int)(b:LX):Option R_:=H.e P_ [r,r,r,l,r,d] (t4 h f g a b)
theorem e6:x6=lZ:=by kernel_rfl
theorem i4(h:Int32)(f:LX)(g:Int):∀(q:Nat) (a:Int) (b:LX),z4 q (t4 h f g a b)=Sa h f g q a b:=
 ind (λ_ _=>by kernel_rfl) λq ih a b=>Eq.trans (b:=HR x6 (λa b=>(z4 q) (t4 h f g a b)) h f g a b) (by kernel_rfl) (by simp only[e6,ih]<;>rfl)
theorem e4:x4=lV:=by funext h f g a b;exact Eq.trans (by kernel_rfl) ((i4 h f g Cy a b).trans (by rw[Az];rfl))
def F:=u4 bT
theorem rn x:H.u P_ x=F x:=Eq.trans (b:=u4 (VG x4) x) (by kernel_rfl) (by simp only[e4]<;>rfl)
def c:Con:=⟨H.p,H.r,F⟩
theorem ok:ConOk P_ gl 175 c:=co H func175 (.cons F174.ok (.cons F177.ok .nil)) rn
end F175
namespace F176
def TZ(j2:Int32->Int->LX->LX->Option (Int×LX×LX×Int))(b:Int)(f a:LX)(g:Int32):Option (Int×LX×LX×Int):=
(GX b f a).bind λh=>
if(Bm h 0)then
some (0,(List.replicate 16 (0:Int32)),(List.replicate 16 (0:Int32)),h)
else
both (
(cG 16 1 16).bind λ_=>
(cG 16 0 16).bind λ_=>
j2 g b f a) [
(cG 16 0 16).bind λ_=>
(cG 16 1 16).bind λ_=>
j2 g b f a]
theorem tK: @TZ= @NO:=by
  unfold TZ NO
  repeat (refine funext λ_=>?_)
  repeat' first
    |with_reducible rfl
    |with_reducible refine Xq ?_ ?_
    |with_reducible refine Xg ?_ ?_ ?_
    |with_reducible refine Xu ?_ ?_ ?_ ?_
    |((with_reducible refine HZ ?_ ?_);focus (intro h;first|(subst h;rfl)|(simp only[h];rfl)|(simp[Db,Ac,h];done)))
    |with_reducible refine HK λx=>?_
    |with_reducible refine UN (λ_=>?_) (λ_=>?_)
    |(refine Nu (λh=>by simp only[h,HS,Jv,Jj,ite_self]) (λx h=>?_);(try simp only[h,Jv]))
    |(refine Sj (λh=>?_) (λh=>?_)<;>simp only[h,if_true,if_false,Bool.false_eq_true])
abbrev R_:=(Int×LX×LX×Int)
def H:Hd:=⟨[.agg [Si,.lf (.vec 16 (.int .i32)) none,.lf (.vec 16 (.int .i32)) none],Sx],[.agg [Si,.lf (.vec 16 (.int .i32)) none,.lf (.vec 16 (.int .i32)) none],Si],(.seq .d (.seq .d (.cut [1,2,4] [] .d .d))),⟨[(174,F174.c)],gl,false⟩,[],f176⟩
def x2(g:Int32)(b:Int)(f a:LX):Option R_:=H.e P_ [r,r,r] ⟨[(1,vx g),(2,.ptr 0 []),(4,.ptr 1 [])],[.box 180 (.agg [vi b,.val (.vec 16 (.int .i32)) f,.val (.vec 16 (.int .i32)) (Sr a (1:Int) ((16:Int)-(1:Int)) (SL a (0:Int) ((16:Int)-(0:Int))))]),.box 180 (.agg [vi 0,.val (.vec 16 (.int .i32)) (List.replicate 16 (0:Int32)),.val (.vec 16 (.int .i32)) (List.replicate 16 (0:Int32))])],[]⟩
theorem e2:x2=aG:=by kernel_rfl
def F:=u4 kQ
theorem rn x:H.u P_ x=F x:=Eq.trans (b:=u4 (TZ x2) x) (by kernel_rfl) (by unfold F;rw[tK];simp only[e2]<;>rfl)
def c:Con:=⟨H.p,H.r,F⟩
theorem ok:ConOk P_ gl 176 c:=co H func176 (.cons F174.ok .nil) rn
end F176
namespace F164
def H:Hd:=⟨[.agg [Si,.lf (.vec 16 (.int .i32)) none,.lf (.vec 16 (.int .i32)) none],Sx,Sx],[.agg [Si,.lf (.vec 16 (.int .i32)) none,.lf (.vec 16 (.int .i32)) none]],.d,⟨[(175,F175.c),(176,F176.c)],gl,false⟩,[],f164⟩
def F:=u5 ON
theorem rn x:H.u P_ x=F x:=by kernel_rfl
def c:Con:=⟨H.p,H.r,F⟩
theorem ok:ConOk P_ gl 164 c:=co H func164 (.cons F175.ok (.cons F176.ok .nil)) rn
end F164
namespace F153
def H:Hd:=⟨[.agg [Si,.lf (.vec 16 (.int .i32)) none,.lf (.vec 16 (.int .i32)) none],Sx],[Sx,.agg [Si,.lf (.vec 16 (.int .i32)) none,.lf (.vec 16 (.int .i32)) none],Si],.d,⟨[(163,F163.c),(164,F164.c)],gl,false⟩,[],f153⟩
def F:=u4 TY
theorem rn x:H.u P_ x=F x:=by kernel_rfl
def c:Con:=⟨H.p,H.r,F⟩
theorem ok:ConOk P_ gl 153 c:=co H func153 (.cons F163.ok (.cons F164.ok .nil)) rn
end F153
namespace F123
def EC(a:Int)(b:Int32)(f:Int)(g h:LX)(k:Int32):Option (Int32×Int×Int32×Int×LX×LX×Int):=
(Um a b f g h).bind λm=>
if(Bm m 0)then
some (0,0,0,0,(List.replicate 16 (0:Int32)),(List.replicate 16 (0:Int32)),m)
else
(Uo a b).bind λ(n,y)=>
(TY f g h (Ah k n)).bind λ(o,p,u,v,w)=>
bo (
some (o,a,k,p,u,v,w))
theorem iE: @EC= @Rz:=by
  unfold EC Rz;simp only[vK,dT,iF]
def H:Hd:=⟨[.agg [Si,Sx,.agg [Si,.lf (.vec 16 (.int .i32)) none,.lf (.vec 16 (.int .i32)) none]],Sx],[Sx,.agg [Si,Sx,.agg [Si,.lf (.vec 16 (.int .i32)) none,.lf (.vec 16 (.int .i32)) none]],Si],(.seq .d (.seq .d (.seq .d (.seq .d (.seq (.mode false) .d))))),⟨[(140,F140.c),(141,F141.c),(153,F153.c)],gl,false⟩,[],f123⟩
def F:=u6 Rz
theorem rn x:H.u P_ x=F x:=Eq.trans (b:=u6 EC x) (by kernel_rfl) (by rw[iE];rfl)
def c:Con:=⟨H.p,H.r,F⟩
theorem ok:ConOk P_ gl 123 c:=co H func123 (.cons F140.ok (.cons F141.ok (.cons F153.ok .nil))) rn
end F123
namespace F124
def H:Hd:=⟨[Sx],[Su],.d,⟨[],gl,false⟩,[],f124⟩
def F:=jV
theorem rn x:H.u P_ x=F x:=by kernel_rfl
def c:Con:=⟨H.p,H.r,F⟩
theorem ok:ConOk P_ gl 124 c:=co H func124 .nil rn
end F124
namespace F81
abbrev R_:=(LU×Int)
def H:Hd:=⟨[.agg [Si,Si],.lf (.vec 16 (.int .i32)) none,Sw],[Ov 101,Si],(.seq .d (.seq .d (.seq .d (.seq .d (.seq .d (.cut [3,9,11] [] (.seq .d (.blk (.loop [3,4,9,11,36] [] .d))) (.seq .d (.cut [13] [] (.seq .d (.blk (.loop [3,11,13,49,50,51] [⟨13,[],.own 101 (.int .u32)⟩] .d))) .d)))))))),⟨[(103,F103.c),(121,F121.c),(122,F122.c),(123,F123.c),(124,F124.c)],gl,false⟩,[],f81⟩
def t10(b:LX)(a f g:Int)(o:List (Int×Int32×(Int×LX×LX×Unit)×Unit))(k:LU):S:=⟨[(3,.ptr 0 []),(11,.ptr 1 []),(13,.own 2),(49,.own 3),(50,vi (Ac b)),(51,vi g)],[.box 48 (.agg [vi a,vi f]),.box 183 (.val (.vec 6 (.cons (.int .i64) (.cons (.int .i32) (.cons (.cons (.int .i64) (.cons (.vec 16 (.int .i32)) (.cons (.vec 16 (.int .i32)) .nil))) .nil)))) o),Av 101 k,Aw 21 b],[]⟩
def z10:Nat->S->Option R_:=H.i P_ [r,r,r,r,r,r,r,l,r,d]
def t7(a f:Int)(m b:LX)(n:Int)(h:List (Int×Int32×(Int×LX×LX×Unit)×Unit)):S:=⟨[(3,.ptr 0 []),(4,.ptr 1 []),(9,.own 2),(11,.ptr 3 []),(36,vi n)],[.box 48 (.agg [vi a,vi f]),.box 71 (.val (.vec 16 (.int .i32)) m),Aw 21 b,.box 183 (.val (.vec 6 (.cons (.int .i64) (.cons (.int .i32) (.cons (.cons (.int .i64) (.cons (.vec 16 (.int .i32)) (.cons (.vec 16 (.int .i32)) .nil))) .nil)))) h)],[]⟩
def z7:Nat->S->Option R_:=H.i P_ [r,r,r,r,r,l,r,d]
def x12(k:LU):Option R_:=H.e P_ [r,r,r,r,r,r,r,r] ⟨[(13,.own 0)],[Av 101 k],[]⟩
def x10(b:LX)(a f g:Int)(o:List (Int×Int32×(Int×LX×LX×Unit)×Unit))(k:LU):Option R_:=H.e P_ [r,r,r,r,r,r,r,l,r,d] (t10 b a f g o k)
def x9(a f:Int)(b:LX)(h:List (Int×Int32×(Int×LX×LX×Unit)×Unit)):Option R_:=H.e P_ [r,r,r,r,r,r] ⟨[(3,.ptr 0 []),(9,.own 1),(11,.ptr 2 [])],[.box 48 (.agg [vi a,vi f]),Aw 21 b,.box 183 (.val (.vec 6 (.cons (.int .i64) (.cons (.int .i32) (.cons (.cons (.int .i64) (.cons (.vec 16 (.int .i32)) (.cons (.vec 16 (.int .i32)) .nil))) .nil)))) h)],[]⟩
def x7(a f:Int)(m b:LX)(n:Int)(h:List (Int×Int32×(Int×LX×LX×Unit)×Unit)):Option R_:=H.e P_ [r,r,r,r,r,l,r,d] (t7 a f m b n h)
theorem e12:x12=SE:=by kernel_rfl
theorem i10(b:LX)(a f:Int):∀(q:Nat) (g:Int) (o:List (Int×Int32×(Int×LX×LX×Unit)×Unit)) (k:LU),z10 q (t10 b a f g o k)=Jd b a f q g o k:=
 ind (λ_ _ _=>by kernel_rfl) λq ih g o k=>Eq.trans (b:=Rl x12 (λg o k=>(z10 q) (t10 b a f g o k)) b a f g o k) (by kernel_rfl) (by simp only[e12,ih]<;>rfl)
theorem e10:x10=OQ:=by funext b a f g o k;exact Eq.trans (by kernel_rfl) ((i10 b a f Cy g o k).trans (by rw[Az];rfl))
theorem e9:x9=AW:=Eq.trans (b:=SN x10) (by kernel_rfl) (by simp only[e10]<;>rfl)
theorem i7(a f:Int)(m b:LX):∀(q:Nat) (n:Int) (h:List (Int×Int32×(Int×LX×LX×Unit)×Unit)),z7 q (t7 a f m b n h)=CR a f m b q n h:=
 ind (λ_ _=>by kernel_rfl) λq ih n h=>Eq.trans (b:=SS x9 (λn h=>(z7 q) (t7 a f m b n h)) a f m b n h) (by kernel_rfl) (by simp only[e9,ih]<;>rfl)
theorem e7:x7=Ty:=by funext a f m b n h;exact Eq.trans (by kernel_rfl) ((i7 a f m b Cy n h).trans (by rw[Az];rfl))
def F:=u4 BU
theorem rn x:H.u P_ x=F x:=Eq.trans (b:=u4 (BW x7) x) (by kernel_rfl) (by simp only[e7]<;>rfl)
def c:Con:=⟨H.p,H.r,F⟩
theorem ok:ConOk P_ gl 81 c:=co H func81 (.cons F103.ok (.cons F121.ok (.cons F122.ok (.cons F123.ok (.cons F124.ok .nil))))) rn
end F81
namespace F98
def H:Hd:=⟨[],[.agg [Si,Si,Sq,Sq]],.d,⟨[],gl,false⟩,[],f98⟩
noncomputable def F(x:Unit):=oG
theorem rn x:H.u P_ x=F x:=by kernel_rfl
def c:Con:=⟨H.p,H.r,F⟩
theorem ok:ConOk P_ gl 98 c:=co H func98 .nil rn
end F98
namespace F82
abbrev R_:=((List (Int×Int×UInt64×UInt64×Unit)))
def H:Hd:=⟨[],[.lf (.vec 6 (.cons (.int .i64) (.cons (.int .i64) (.cons (.int .u64) (.cons (.int .u64) .nil))))) none],(.seq .d (.seq .d (.cut [0,1] [] (.seq .d (.blk (.loop [0,1,3] [] .d))) .d))),⟨[(98,F98.c)],gl,false⟩,[],f82⟩
def t4(b:Int)(a:List (Int×Int×UInt64×UInt64×Unit)):S:=⟨[(0,.ptr 0 []),(1,.ptr 1 []),(3,vi b)],[.box 154 (.val (.vec 6 (.cons (.int .i64) (.cons (.int .i64) (.cons (.int .u64) (.cons (.int .u64) .nil))))) (List.replicate 6 ((0:Int),(0:Int),(0:UInt64),(0:UInt64),()))),.box 154 (.val (.vec 6 (.cons (.int .i64) (.cons (.int .i64) (.cons (.int .u64) (.cons (.int .u64) .nil))))) a)],[]⟩
def z4:Nat->S->Option R_:=H.i P_ [r,r,l,r,d]
def x6(a:List (Int×Int×UInt64×UInt64×Unit)):Option R_:=H.e P_ [r,r,r] ⟨[(0,.ptr 0 []),(1,.ptr 1 [])],[.box 154 (.val (.vec 6 (.cons (.int .i64) (.cons (.int .i64) (.cons (.int .u64) (.cons (.int .u64) .nil))))) (List.replicate 6 ((0:Int),(0:Int),(0:UInt64),(0:UInt64),()))),.box 154 (.val (.vec 6 (.cons (.int .i64) (.cons (.int .i64) (.cons (.int .u64) (.cons (.int .u64) .nil))))) a)],[]⟩
def x4(b:Int)(a:List (Int×Int×UInt64×UInt64×Unit)):Option R_:=H.e P_ [r,r,l,r,d] (t4 b a)
theorem e6:x6=TS:=by kernel_rfl
theorem i4:∀(q:Nat) (b:Int) (a:List (Int×Int×UInt64×UInt64×Unit)),z4 q (t4 b a)=AT q b a:=
 ind (λ_ _=>by kernel_rfl) λq ih b a=>Eq.trans (b:=TU x6 (λb a=>(z4 q) (t4 b a)) b a) (by kernel_rfl) (by simp only[e6,ih]<;>rfl)
theorem e4:x4=DR:=by funext b a;exact Eq.trans (by kernel_rfl) ((i4 Cy b a).trans (by rw[Az];rfl))
noncomputable def F(x:Unit):=DF
theorem rn x:H.u P_ x=F x:=Eq.trans (b:=BO x4) (by kernel_rfl) (by simp only[e4]<;>rfl)
def c:Con:=⟨H.p,H.r,F⟩
theorem ok:ConOk P_ gl 82 c:=co H func82 (.cons F98.ok .nil) rn
end F82
namespace F101
def H:Hd:=⟨[.agg [Sb,Si]],[Si],.d,⟨[],gl,false⟩,[],f101⟩
def F:=u2 Hr
theorem rn x:H.u P_ x=F x:=by kernel_rfl
def c:Con:=⟨H.p,H.r,F⟩
theorem ok:ConOk P_ gl 101 c:=co H func101 .nil rn
end F101
namespace F125
def PK(j4:Int->Int->UInt64->UInt64->Option Int)(a b:Int)(f g:UInt64):Option Int:=
both (
bo (
j4 a b f g)) [
j4 a b f g]
theorem pC: @PK= @HM:=by
  unfold PK HM
  repeat (refine funext λ_=>?_)
  repeat' first
    |with_reducible rfl
    |with_reducible refine Xq ?_ ?_
    |with_reducible refine Xg ?_ ?_ ?_
    |with_reducible refine Xu ?_ ?_ ?_ ?_
    |((with_reducible refine HZ ?_ ?_);focus (intro h;first|(subst h;rfl)|(simp only[h];rfl)|(simp[Db,Ac,h];done)))
    |with_reducible refine HK λx=>?_
    |with_reducible refine UN (λ_=>?_) (λ_=>?_)
    |(refine Nu (λh=>by simp only[h,HS,Jv,Jj,ite_self]) (λx h=>?_);(try simp only[h,Jv]))
    |(refine Sj (λh=>?_) (λh=>?_)<;>simp only[h,if_true,if_false,Bool.false_eq_true])
def OD(j3:Int->Int->UInt64->UInt64->Option Int)(a b:Int)(f g:UInt64):Option Int:=
both (
bo (
j3 a b f g)) [
j3 a b f g]
theorem pY: @OD= @HT:=by
  unfold OD HT
  repeat (refine funext λ_=>?_)
  repeat' first
    |with_reducible rfl
    |with_reducible refine Xq ?_ ?_
    |with_reducible refine Xg ?_ ?_ ?_
    |with_reducible refine Xu ?_ ?_ ?_ ?_
    |((with_reducible refine HZ ?_ ?_);focus (intro h;first|(subst h;rfl)|(simp only[h];rfl)|(simp[Db,Ac,h];done)))
    |with_reducible refine HK λx=>?_
    |with_reducible refine UN (λ_=>?_) (λ_=>?_)
    |(refine Nu (λh=>by simp only[h,HS,Jv,Jj,ite_self]) (λx h=>?_);(try simp only[h,Jv]))
    |(refine Sj (λh=>?_) (λh=>?_)<;>simp only[h,if_true,if_false,Bool.false_eq_true])
abbrev R_:=Int
def H:Hd:=⟨[.agg [Si,Si,Sq,Sq]],[Si],(.seq .d (.seq .d (.cut [1,3] [] (.mode false) (.cut [1,3] [] (.mode false) .d)))),⟨[],gl,false⟩,[],f125⟩
def x4(a b:Int)(f g:UInt64):Option R_:=H.e P_ [r,r,r,r] ⟨[(1,.ptr 0 []),(3,.ptr 1 [])],[.box 153 (.agg [vi a,vi b,vq f,vq g]),.box 153 (.agg [vi (Du (lC a (0:Int)) (24:Int)),vi (Du (lC b (0:Int)) (24:Int)),vq (Du f (68719476735:UInt64)),vq (Du g (68719476735:UInt64))])],[]⟩
def x3(a b:Int)(f g:UInt64):Option R_:=H.e P_ [r,r,r] ⟨[(1,.ptr 0 []),(3,.ptr 1 [])],[.box 153 (.agg [vi a,vi b,vq f,vq g]),.box 153 (.agg [vi (Du (lC a (0:Int)) (24:Int)),vi (Du (lC b (0:Int)) (24:Int)),vq f,vq g])],[]⟩
theorem e4:x4=UB:=by kernel_rfl
theorem e3:x3=VO:=Eq.trans (b:=PK x4) (by kernel_rfl) (by rw[pC];simp only[e4]<;>rfl)
def F:=u4 RI
theorem rn x:H.u P_ x=F x:=Eq.trans (b:=u4 (OD x3) x) (by kernel_rfl) (by unfold F;rw[pY];simp only[e3]<;>rfl)
def c:Con:=⟨H.p,H.r,F⟩
theorem ok:ConOk P_ gl 125 c:=co H func125 .nil rn
end F125
namespace F126
def H:Hd:=⟨[.agg [Si,Si,Sq,Sq],Su],[Si,Su],.d,⟨[],gl,false⟩,[],f126⟩
def F:=u5 HC
theorem rn x:H.u P_ x=F x:=by kernel_rfl
def c:Con:=⟨H.p,H.r,F⟩
theorem ok:ConOk P_ gl 126 c:=co H func126 .nil rn
end F126
namespace F97
def Mc(a:LB):Option (LB):=
R6 a (
some ([]:LB)) (
(Db ([]:LB) a).bind λb=>
some b)
theorem KR: @Mc= @Eb:=by
  unfold Mc Eb
  repeat (refine funext λ_=>?_)
  repeat' first
    |with_reducible rfl
    |with_reducible refine Xq ?_ ?_
    |with_reducible refine Xg ?_ ?_ ?_
    |with_reducible refine Xu ?_ ?_ ?_ ?_
    |((with_reducible refine HZ ?_ ?_);focus (intro h;first|(subst h;rfl)|(simp only[h];rfl)|(simp[Db,Ac,h];done)))
    |with_reducible refine HK λx=>?_
    |with_reducible refine UN (λ_=>?_) (λ_=>?_)
    |(refine Nu (λh=>by simp only[h,HS,Jv,Jj,ite_self]) (λx h=>?_);(try simp only[h,Jv]))
    |(refine Sj (λh=>?_) (λh=>?_)<;>simp only[h,if_true,if_false,Bool.false_eq_true])
def H:Hd:=⟨[Sb],[Ob 5],.d,⟨[],gl,false⟩,[],f97⟩
def F:=Eb
theorem rn x:H.u P_ x=F x:=Eq.trans (b:=Mc x) (by kernel_rfl) (by rw[KR];rfl)
def c:Con:=⟨H.p,H.r,F⟩
theorem ok:ConOk P_ gl 97 c:=co H func97 .nil rn
end F97
namespace F154
def H:Hd:=⟨[.agg [Sb,Si]],[.agg [Ob 5,Si]],.d,⟨[(97,F97.c)],gl,false⟩,[],f154⟩
def F:=u2 WX
theorem rn x:H.u P_ x=F x:=by kernel_rfl
def c:Con:=⟨H.p,H.r,F⟩
theorem ok:ConOk P_ gl 154 c:=co H func154 (.cons F97.ok .nil) rn
end F154
namespace F127
abbrev R_:=(LB×Int×Int)
abbrev K_:=S->Option R_
def H:Hd:=⟨[.agg [Sb,Si],Sq,Si],[.agg [Ob 5,Si],Si],(.seq .d (.seq .d (.seq .d (.cut [3,6] [] (.keep [1,2,3,6,40,41] true) .d)))),⟨[(101,F101.c),(154,F154.c)],gl,false⟩,[(137,(.blk (.loop [0,1,2] [] (.seq .d (.blk (.cut [0,1,2] [] .d (.seq .d (.cut [0,1,2,7] [] .d .d))))))))],f127⟩
def t15(b:UInt64)(a:Int)(m:UInt64)(h f:Int)(o:LB):S:=⟨[(0,.ptr 0 []),(1,vq m),(2,vi h)],[.box 119 (.agg [.own 2,vi f]),.box 119 (.agg [.nils,vi 0]),Ab 5 o],[[(1,vq b),(2,vi a),(3,.ptr 0 []),(6,.ptr 1 []),(40,vq b),(41,vi a)]]⟩
def z15:Nat->S->Option R_:=H.i P_ [r,r,r,l,(call 2 137),d]
def t22(b:UInt64)(a:Int)(n:UInt64)(k g:Int)(p:LB):S:=⟨[(0,.ptr 0 []),(1,vq n),(2,vi k)],[.box 119 (.agg [.own 2,vi g]),.box 119 (.agg [.nils,vi 0]),Ab 5 p],[[(1,vq b),(2,vi a),(3,.ptr 0 []),(6,.ptr 1 []),(40,vq b),(41,vi a)]]⟩
def z22:Nat->S->Option R_:=H.i P_ [r,r,r,l,(call 2 137),d]
def x21(f:Int)(o:LB):Option R_:=H.e P_ [r,r,r,r] ⟨[(3,.ptr 0 []),(6,.ptr 1 [])],[.box 119 (.agg [.own 2,vi f]),.box 119 (.agg [.nils,vi 0]),Ab 5 o],[]⟩
def x19(J7:K_)(b:UInt64)(a:Int)(m:UInt64)(h f:Int)(w:LB):Option R_:=H.e P_ [r,r,r,l,(call 2 137),d,(lp J7),r,d,r,r,r] ⟨[(0,.ptr 0 []),(1,vq m),(2,vi h),(7,vi (Du h (Ah (8:Int) (Di f (7:Int)))))],[.box 119 (.agg [.own 2,vi f]),.box 119 (.agg [.nils,vi 0]),Ab 5 w],[[(1,vq b),(2,vi a),(3,.ptr 0 []),(6,.ptr 1 []),(40,vq b),(41,vi a)]]⟩
def x18(J7:K_)(b:UInt64)(a:Int)(m:UInt64)(h f:Int)(u:LB):Option R_:=H.e P_ [r,r,r,l,(call 2 137),d,(lp J7),r,d,r] ⟨[(0,.ptr 0 []),(1,vq m),(2,vi h)],[.box 119 (.agg [.own 2,vi f]),.box 119 (.agg [.nils,vi 0]),Ab 5 u],[[(1,vq b),(2,vi a),(3,.ptr 0 []),(6,.ptr 1 []),(40,vq b),(41,vi a)]]⟩
def x15(b:UInt64)(a:Int)(m:UInt64)(h f:Int)(o:LB):Option R_:=H.e P_ [r,r,r,l,(call 2 137),d] (t15 b a m h f o)
def x28(g:Int)(p:LB):Option R_:=H.e P_ [r,r,r,r] ⟨[(3,.ptr 0 []),(6,.ptr 1 [])],[.box 119 (.agg [.own 2,vi g]),.box 119 (.agg [.nils,vi 0]),Ab 5 p],[]⟩
def x26(J8:K_)(b:UInt64)(a:Int)(n:UInt64)(k g:Int)(y:LB):Option R_:=H.e P_ [r,r,r,l,(call 2 137),d,(lp J8),r,d,r,r,r] ⟨[(0,.ptr 0 []),(1,vq n),(2,vi k),(7,vi (Du k (Ah (8:Int) (Di g (7:Int)))))],[.box 119 (.agg [.own 2,vi g]),.box 119 (.agg [.nils,vi 0]),Ab 5 y],[[(1,vq b),(2,vi a),(3,.ptr 0 []),(6,.ptr 1 []),(40,vq b),(41,vi a)]]⟩
def x25(J8:K_)(b:UInt64)(a:Int)(n:UInt64)(k g:Int)(v:LB):Option R_:=H.e P_ [r,r,r,l,(call 2 137),d,(lp J8),r,d,r] ⟨[(0,.ptr 0 []),(1,vq n),(2,vi k)],[.box 119 (.agg [.own 2,vi g]),.box 119 (.agg [.nils,vi 0]),Ab 5 v],[[(1,vq b),(2,vi a),(3,.ptr 0 []),(6,.ptr 1 []),(40,vq b),(41,vi a)]]⟩
def x22(b:UInt64)(a:Int)(n:UInt64)(k g:Int)(p:LB):Option R_:=H.e P_ [r,r,r,l,(call 2 137),d] (t22 b a n k g p)
theorem e21:x21=YY:=by kernel_rfl
theorem e19(J7:K_)(b:UInt64)(a:Int):x19 J7 b a=bJ (λm h f o=>J7 (t15 b a m h f o)) b a:=by kernel_rfl
theorem e18(J7:K_)(b:UInt64)(a:Int):x18 J7 b a=NL (λm h f o=>J7 (t15 b a m h f o)) b a:=Eq.trans (b:=aH (x19 J7 b a) b a) (by kernel_rfl) (by simp only[e19]<;>rfl)
theorem i15(b:UInt64)(a:Int):∀(q:Nat) (m:UInt64) (h f:Int) (o:LB),z15 q (t15 b a m h f o)=Nj b a q m h f o:=
 ind (λ_ _ _ _=>by kernel_rfl) λq ih m h f o=>Eq.trans (b:=NM (x18 (z15 q) b a) x21 b a m h f o) (by kernel_rfl) (by simp only[e18,e21,ih]<;>rfl)
theorem e15:x15=rA:=by funext b a m h f o;exact Eq.trans (by kernel_rfl) ((i15 b a Cy m h f o).trans (by rw[Az];rfl))
theorem e28:x28=qX:=by kernel_rfl
theorem e26(J8:K_)(b:UInt64)(a:Int):x26 J8 b a=pG (λn k g p=>J8 (t22 b a n k g p)) b a:=by kernel_rfl
theorem e25(J8:K_)(b:UInt64)(a:Int):x25 J8 b a=qB (λn k g p=>J8 (t22 b a n k g p)) b a:=Eq.trans (b:=oV (x26 J8 b a) b a) (by kernel_rfl) (by simp only[e26]<;>rfl)
theorem i22(b:UInt64)(a:Int):∀(q:Nat) (n:UInt64) (k g:Int) (p:LB),z22 q (t22 b a n k g p)=ZQ b a q n k g p:=
 ind (λ_ _ _ _=>by kernel_rfl) λq ih n k g p=>Eq.trans (b:=oI (x25 (z22 q) b a) x28 b a n k g p) (by kernel_rfl) (by simp only[e25,e28,ih]<;>rfl)
theorem e22:x22=pU:=by funext b a n k g p;exact Eq.trans (by kernel_rfl) ((i22 b a Cy n k g p).trans (by rw[Az];rfl))
def F:=u4 QY
theorem rn x:H.u P_ x=F x:=Eq.trans (b:=u4 (eU x15 x22) x) (by kernel_rfl) (by simp only[e15,e22]<;>rfl)
def c:Con:=⟨H.p,H.r,F⟩
theorem ok:ConOk P_ gl 127 c:=cr H func127 (.cons F101.ok (.cons F154.ok .nil)) (Fa.cons ent137 Fa.nil) rn
end F127
namespace F155
def H:Hd:=⟨[Su,Si],[Sz],.d,⟨[],gl,false⟩,[],f155⟩
def F:=u2 Vy
theorem rn x:H.u P_ x=F x:=by kernel_rfl
def c:Con:=⟨H.p,H.r,F⟩
theorem ok:ConOk P_ gl 155 c:=co H func155 .nil rn
end F155
namespace F169
def H:Hd:=⟨[Si],[Si,Si],.d,⟨[],gl,false⟩,[],f169⟩
def F:=aU
theorem rn x:H.u P_ x=F x:=by kernel_rfl
def c:Con:=⟨H.p,H.r,F⟩
theorem ok:ConOk P_ gl 169 c:=co H func169 .nil rn
end F169
namespace F156
def H:Hd:=⟨[.agg [Sb,Si],Si],[.agg [Ob 5,Si],Si],.d,⟨[(101,F101.c),(127,F127.c),(169,F169.c)],gl,false⟩,[],f156⟩
def F:=u3 TP
theorem rn x:H.u P_ x=F x:=by kernel_rfl
def c:Con:=⟨H.p,H.r,F⟩
theorem ok:ConOk P_ gl 156 c:=co H func156 (.cons F101.ok (.cons F127.ok (.cons F169.ok .nil))) rn
end F156
namespace F128
abbrev R_:=(LB×Int×Int)
def H:Hd:=⟨[.agg [Sb,Si],Su,Si],[.agg [Ob 5,Si],Si],(.seq .d (.seq .d (.seq .d (.seq .d (.cut [3,6,9,10,11] [] .d .d))))),⟨[(101,F101.c),(127,F127.c),(155,F155.c),(156,F156.c)],gl,false⟩,[],f128⟩
def x2(b:LB)(f h:Int)(k:UInt32)(m:Int):Option R_:=H.e P_ [r,r,r,r,r] ⟨[(3,.ptr 0 []),(6,.ptr 1 []),(9,vi h),(10,vu k),(11,vi m)],[.box 119 (.agg [vb b,vi f]),.box 119 (.agg [.nils,vi 0])],[]⟩
theorem e2:x2=HW:=by kernel_rfl
def F:=u4 ZU
theorem rn x:H.u P_ x=F x:=Eq.trans (b:=u4 (UG x2) x) (by kernel_rfl) (by simp only[e2]<;>rfl)
def c:Con:=⟨H.p,H.r,F⟩
theorem ok:ConOk P_ gl 128 c:=co H func128 (.cons F101.ok (.cons F127.ok (.cons F155.ok (.cons F156.ok .nil)))) rn
end F128
namespace F83
def LY(k u n:Int)(a:UInt64)(b:UInt32)(o:UInt64)(m:LB):Option (LB×Int×Int×Int×UInt64×UInt64×Int):=
(λaf:Option (LB×Int×Int×Int×UInt64×UInt64×Int)=>
both (
bo (
af)) [
af]) (
some (m,k,u,n,(Ae a (Ah (Ad b:UInt64) (Bt a (GI.toZ (4:UInt64)).toNat))),o,0))
theorem nL: @LY= @EJ:=by
  unfold LY EJ
  try simp only[vK,dT,iF]
  all_goals
    repeat (refine funext λ_=>?_)
    repeat' first
      |with_reducible rfl
      |with_reducible refine Xq ?_ ?_
      |with_reducible refine Xg ?_ ?_ ?_
      |with_reducible refine Xu ?_ ?_ ?_ ?_
      |((with_reducible refine HZ ?_ ?_);focus (intro h;first|(subst h;rfl)|(simp only[h];rfl)|(simp[Db,Ac,h];done)))
      |with_reducible refine HK λx=>?_
      |with_reducible refine UN (λ_=>?_) (λ_=>?_)
      |(refine Nu (λh=>by simp only[h,HS,Jv,Jj,ite_self]) (λx h=>?_);(try simp only[h,Jv]))
      |(refine Sj (λh=>?_) (λh=>?_)<;>simp only[h,if_true,if_false,Bool.false_eq_true])
abbrev R_:=(LB×Int×Int×Int×UInt64×UInt64×Int)
def H:Hd:=⟨[.agg [Sb,Si],.agg [Si,Si,Sq,Sq],Su],[.agg [Ob 5,Si],.agg [Si,Si,Sq,Sq],Si],(.seq .d (.cut [2,3,4,6,7] [] .d (.seq .d (.seq .d (.cut [2,3,4,6,7,11] [] .d (.seq .d (.cut [3,4,6,7] [] (.keep [2,3,4,6,7,65] true) (.seq (.mode false) .d)))))))),⟨[(101,F101.c),(125,F125.c),(126,F126.c),(127,F127.c),(128,F128.c)],gl,false⟩,[(129,(.seq .d (.seq .d (.seq .d (.blk (.cut [0,1,4] [] (.blk (.seq .d (.keep [0,1,4,6,18,19,20,21,22,23,24,25] true))) (.cut [] [] (.keep [0,1,4,27,28,29,30,31,32,33,34] true) .d))))))),(157,.d)],f83⟩
def x10(k u n:Int)(a:UInt64)(b:UInt32)(o:UInt64)(m:LB):Option R_:=H.e P_ [r,r,r,r,r,r,r] ⟨[(3,.ptr 0 []),(4,.ptr 1 []),(6,.ptr 2 []),(7,.ptr 3 [])],[.box 119 (.agg [.own 4,vi k]),.box 153 (.agg [vi u,vi n,vq (Ae a (Ah (Ad b:UInt64) (Bt a (GI.toZ (4:UInt64)).toNat))),vq o]),.box 119 (.agg [.nils,vi 0]),.box 153 (.agg [vi 0,vi 0,vq 0,vq 0]),Ab 5 m],[]⟩
def x9(b:UInt32)(k n:Int)(a o:UInt64)(m:LB)(u:Int):Option R_:=H.e P_ [r,r,r,r,r,r,l,(call 1 129),r,r,r,d,r,r] ⟨[],[.box 119 (.agg [.own 4,vi k]),.box 153 (.agg [vi u,vi n,vq (Ae a (Ah (Ad b:UInt64) (Bt a (GI.toZ (4:UInt64)).toNat))),vq o]),.box 119 (.agg [.nils,vi 0]),.box 153 (.agg [vi 0,vi 0,vq 0,vq 0]),Ab 5 m],[[(2,vu b),(3,.ptr 0 []),(4,.ptr 1 []),(6,.ptr 2 []),(7,.ptr 3 []),(65,vu b)]]⟩
def x8(b:UInt32)(f:Int)(a:UInt64)(k:Int)(m:LB)(n:Int)(o:UInt64):Option R_:=H.e P_ [r,r,r,r,r,r,l,(call 1 129),r,r,r,d,r] ⟨[(0,.ptr 0 []),(1,vu b),(4,.fn 157 [])],[.box 153 (.agg [vi f,vi n,vq a,vq o]),.box 119 (.agg [.own 4,vi k]),.box 119 (.agg [.nils,vi 0]),.box 153 (.agg [vi 0,vi 0,vq 0,vq 0]),Ab 5 m],[[(2,vu b),(3,.ptr 1 []),(4,.ptr 0 []),(6,.ptr 2 []),(7,.ptr 3 []),(65,vu b)]]⟩
def x7(b:UInt32)(f h:Int)(a g:UInt64)(y k:Int)(m:LB):Option R_:=H.e P_ [r,r,r,r,r] ⟨[(2,vu b),(3,.ptr 0 []),(4,.ptr 1 []),(6,.ptr 2 []),(7,.ptr 3 []),(11,vi y)],[.box 119 (.agg [.own 4,vi k]),.box 153 (.agg [vi f,vi h,vq a,vq g]),.box 119 (.agg [.nils,vi 0]),.box 153 (.agg [vi 0,vi 0,vq 0,vq 0]),Ab 5 m],[]⟩
def x6(b:UInt32)(v:LB)(w f h:Int)(a g:UInt64):Option R_:=H.e P_ [r,r] ⟨[(2,vu b),(3,.ptr 0 []),(4,.ptr 1 []),(6,.ptr 2 []),(7,.ptr 3 [])],[.box 119 (.agg [vb v,vi w]),.box 153 (.agg [vi f,vi h,vq a,vq g]),.box 119 (.agg [.nils,vi 0]),.box 153 (.agg [vi 0,vi 0,vq 0,vq 0])],[]⟩
theorem e10:x10=RW:=Eq.trans (b:=LY) (by kernel_rfl) (by rw[nL];rfl)
theorem e9:x9=VK:=Eq.trans (b:=VC x10) (by kernel_rfl) (by simp only[e10]<;>rfl)
theorem e8:x8=Xi:=Eq.trans (b:=UH x9) (by kernel_rfl) (by simp only[e9]<;>rfl)
theorem e7:x7=HV:=Eq.trans (b:=UD x8) (by kernel_rfl) (by simp only[e8]<;>rfl)
theorem e6:x6=UK:=Eq.trans (b:=VM x7) (by kernel_rfl) (by simp only[e7]<;>rfl)
def F:=u7 ZI
theorem rn x:H.u P_ x=F x:=Eq.trans (b:=u7 (VT x6) x) (by kernel_rfl) (by simp only[e6]<;>rfl)
def c:Con:=⟨H.p,H.r,F⟩
theorem ok:ConOk P_ gl 83 c:=cr H func83 (.cons F101.ok (.cons F125.ok (.cons F126.ok (.cons F127.ok (.cons F128.ok .nil))))) (Fa.cons ent129 (Fa.cons ent157 Fa.nil)) rn
end F83
namespace F89
abbrev R_:=(UInt32×Int)
abbrev K_:=S->Option R_
def H:Hd:=⟨[Su,Sb],[Su,Si],(.seq .d (.seq .d (.cut [0,1,6] [] (.keep [0,1,6,12] true) (.cut [0] [] (.seq .d (.blk (.loop [0,6,13,14,15] [] .d))) .d)))),⟨[],gl,false⟩,[(131,(.seq .d (.seq .d (.cut [1] [] (.seq .d (.blk (.loop [1,5] [] (.seq .d (.seq .d (.cut [1,5] [] (.blk (.seq .d (.seq .d (.cut [1,2,3,5] [] (.seq .d (.blk (.loop [1,2,3,5,10] [] .d))) .d)))) .d)))))) .d))))],f89⟩
def t28(a:LB)(b:LU)(h:UInt32)(m:Int):S:=⟨[(0,vu h),(6,.ptr 0 []),(13,vb a),(14,vi (Ac a)),(15,vi m)],[.box 252 (.val (.vec 256 (.int .u32)) b)],[]⟩
def z28:Nat->S->Option R_:=H.i P_ [r,r,r,l,r,d]
def t21(f:UInt32)(a:LB)(g:Int)(b:LU)(k:UInt32)(n:Int):S:=⟨[(1,.ptr 0 []),(2,vi g),(3,vu k),(5,vi g),(10,vi n)],[.box 252 (.val (.vec 256 (.int .u32)) b)],[[(0,vu f),(1,vb a)]]⟩
def z21(Dr:K_):Nat->S->Option R_:=H.i P_ [r,r,l,(call 0 131),r,r,l,r,d,(lp Dr),r,r,l,d,r,r,l,r,d]
def t16(f:UInt32)(a:LB)(g:Int)(b:LU):S:=⟨[(1,.ptr 0 []),(5,vi g)],[.box 252 (.val (.vec 256 (.int .u32)) b)],[[(0,vu f),(1,vb a)]]⟩
def z16:Nat->S->Option R_:=H.i P_ [r,r,l,(call 0 131),r,r,l,r,d]
def x30(h:UInt32):Option R_:=H.e P_ [r,r,r,r] ⟨[(0,vu h)],[],[]⟩
def x28(a:LB)(b:LU)(h:UInt32)(m:Int):Option R_:=H.e P_ [r,r,r,l,r,d] (t28 a b h m)
def x27(f:UInt32)(a:LB)(b:LU):Option R_:=H.e P_ [r,r,r] ⟨[(0,vu f),(1,vb a),(6,.ptr 0 [])],[.box 252 (.val (.vec 256 (.int .u32)) b)],[]⟩
def x26(f:UInt32)(a:LB)(b:LU):Option R_:=H.e P_ [r,r,l,(call 0 131),r,r,r] ⟨[(1,.ptr 0 [])],[.box 252 (.val (.vec 256 (.int .u32)) b)],[[(0,vu f),(1,vb a)]]⟩
def x24(Dr:K_)(f:UInt32)(a:LB)(g:Int)(o:LU):Option R_:=H.e P_ [r,r,l,(call 0 131),r,r,l,r,d,(lp Dr),r,r,r] ⟨[(1,.ptr 0 []),(5,vi g)],[.box 252 (.val (.vec 256 (.int .u32)) o)],[[(0,vu f),(1,vb a)]]⟩
def x23(Dr:K_)(f:UInt32)(a:LB)(g:Int)(k:UInt32)(b:LU):Option R_:=H.e P_ [r,r,l,(call 0 131),r,r,l,r,d,(lp Dr),r,r,l,d,r,r,r] ⟨[(1,.ptr 0 []),(2,vi g),(3,vu k),(5,vi g)],[.box 252 (.val (.vec 256 (.int .u32)) b)],[[(0,vu f),(1,vb a)]]⟩
def x21(Dr:K_)(f:UInt32)(a:LB)(g:Int)(b:LU)(k:UInt32)(n:Int):Option R_:=H.e P_ [r,r,l,(call 0 131),r,r,l,r,d,(lp Dr),r,r,l,d,r,r,l,r,d] (t21 f a g b k n)
def x16(f:UInt32)(a:LB)(g:Int)(b:LU):Option R_:=H.e P_ [r,r,l,(call 0 131),r,r,l,r,d] (t16 f a g b)
theorem e30:x30=PB:=by kernel_rfl
theorem i28(a:LB)(b:LU):∀(q:Nat) (h:UInt32) (m:Int),z28 q (t28 a b h m)=Ps a b q h m:=
 ind (λ_ _=>by kernel_rfl) λq ih h m=>Eq.trans (b:=DT x30 (λh m=>(z28 q) (t28 a b h m)) a b h m) (by kernel_rfl) (by simp only[e30,ih]<;>rfl)
theorem e28:x28=QE:=by funext a b h m;exact Eq.trans (by kernel_rfl) ((i28 a b Cy h m).trans (by rw[Az];rfl))
theorem e27:x27=PH:=Eq.trans (b:=PQ x28) (by kernel_rfl) (by simp only[e28]<;>rfl)
theorem e26:x26=CO:=Eq.trans (b:=PF x27) (by kernel_rfl) (by simp only[e27]<;>rfl)
theorem e24(Dr:K_)(f:UInt32)(a:LB):x24 Dr f a=RN (λg b=>Dr (t16 f a g b)) f a:=by kernel_rfl
theorem e23(Dr:K_)(f:UInt32)(a:LB):x23 Dr f a=CG (λg b=>Dr (t16 f a g b)) f a:=Eq.trans (b:=QC (x24 Dr f a) f a) (by kernel_rfl) (by simp only[e24]<;>rfl)
theorem i21(Dr:K_)(f:UInt32)(a:LB)(g:Int)(b:LU):∀(q:Nat) (k:UInt32) (n:Int),z21 Dr q (t21 f a g b k n)=Pg (λg b=>Dr (t16 f a g b)) f a g b q k n:=
 ind (λ_ _=>by kernel_rfl) λq ih k n=>Eq.trans (b:=BP (x23 Dr f a) (λk n=>(z21 Dr q) (t21 f a g b k n)) f a g b k n) (by kernel_rfl) (by simp only[e23,ih]<;>rfl)
theorem e21(Dr:K_)(f:UInt32)(a:LB):x21 Dr f a=OI (λg b=>Dr (t16 f a g b)) f a:=by funext g b k n;exact Eq.trans (by kernel_rfl) ((i21 Dr f a g b Cy k n).trans (by rw[Az];rfl))
theorem i16(f:UInt32)(a:LB):∀(q:Nat) (g:Int) (b:LU),z16 q (t16 f a g b)=Lr f a q g b:=
 ind (λ_ _=>by kernel_rfl) λq ih g b=>Eq.trans (b:=DV (x21 (z16 q) f a) x26 f a g b) (by kernel_rfl) (by simp only[e21,e26,ih]<;>rfl)
theorem e16:x16=OY:=by funext f a g b;exact Eq.trans (by kernel_rfl) ((i16 f a Cy g b).trans (by rw[Az];rfl))
def F:=u2 bF
theorem rn x:H.u P_ x=F x:=Eq.trans (b:=u2 (UU x16) x) (by kernel_rfl) (by simp only[e16]<;>rfl)
def c:Con:=⟨H.p,H.r,F⟩
theorem ok:ConOk P_ gl 89 c:=cr H func89 .nil (Fa.cons ent131 Fa.nil) rn
end F89
namespace F48
def H:Hd:=⟨[Sb],[Su,Si],.d,⟨[(89,F89.c)],gl,false⟩,[],f48⟩
def F:=Vo
theorem rn x:H.u P_ x=F x:=by kernel_rfl
def c:Con:=⟨H.p,H.r,F⟩
theorem ok:ConOk P_ gl 48 c:=co H func48 (.cons F89.ok .nil) rn
end F48
namespace F88
def H:Hd:=⟨[Sq,Si],[Sz],.d,⟨[],gl,false⟩,[],f88⟩
def F:=u2 wM
theorem rn x:H.u P_ x=F x:=by kernel_rfl
def c:Con:=⟨H.p,H.r,F⟩
theorem ok:ConOk P_ gl 88 c:=co H func88 .nil rn
end F88
namespace F47
abbrev R_:=(LB×Int)
def H:Hd:=⟨[Sq,Si],[Ob 5,Si],(.seq .d (.seq .d (.seq .d (.seq .d (.cut [6] [] (.seq .d (.blk (.loop [0,6,21,22] [] .d))) .d))))),⟨[(88,F88.c)],gl,false⟩,[],f47⟩
def t4(f:UInt64)(g:LB)(b:Int)(a:LB):S:=⟨[(0,vq f),(6,.own 0),(21,vi (Ac g)),(22,vi b)],[Ab 5 a],[]⟩
def z4:Nat->S->Option R_:=H.i P_ [r,r,r,r,l,r,d]
def x6(a:LB):Option R_:=H.e P_ [r,r,r,r,r] ⟨[(6,.own 0)],[Ab 5 a],[]⟩
def x4(f:UInt64)(g:LB)(b:Int)(a:LB):Option R_:=H.e P_ [r,r,r,r,l,r,d] (t4 f g b a)
theorem e6:x6=eJ:=by kernel_rfl
theorem i4(f:UInt64)(g:LB):∀(q:Nat) (b:Int) (a:LB),z4 q (t4 f g b a)=AI f g q b a:=
 ind (λ_ _=>by kernel_rfl) λq ih b a=>Eq.trans (b:=TA x6 (λb a=>(z4 q) (t4 f g b a)) f g b a) (by kernel_rfl) (by simp only[e6,ih]<;>rfl)
theorem e4:x4=gS:=by funext f g b a;exact Eq.trans (by kernel_rfl) ((i4 f g Cy b a).trans (by rw[Az];rfl))
def F:=u2 Ln
theorem rn x:H.u P_ x=F x:=Eq.trans (b:=u2 (gJ x4) x) (by kernel_rfl) (by simp only[e4]<;>rfl)
def c:Con:=⟨H.p,H.r,F⟩
theorem ok:ConOk P_ gl 47 c:=co H func47 (.cons F88.ok .nil) rn
end F47
namespace F85
abbrev R_:=LB
def H:Hd:=⟨[.lf (.list (.list (.int .u8))) none],[Ob 5],(.seq .d (.seq .d (.cut [0,3] [] (.seq .d (.blk (.loop [0,3,9,10,11] [] .d))) (.cut [0,6] [⟨6,[],.own 5 (.int .u8)⟩] (.keep [0,3,6,23,24] true) (.cut [6] [] (.seq .d (.blk (.loop [6,25,26,27] [] .d))) .d))))),⟨[],gl,true⟩,[(130,(.seq .d (.cut [0,1] [] .d .d)))],f85⟩
def t14(a:List LB)(g:Int)(f:LB):S:=⟨[(6,.own 0),(25,.val (.list (.list (.int .u8))) a),(26,vi (Ac a)),(27,vi g)],[Ab 5 f],[]⟩
def z14:Nat->S->Option R_:=H.i P_ [r,r,r,r,l,r,d]
def t9(a:List LB)(b h:Int):S:=⟨[(0,.val (.list (.list (.int .u8))) a),(3,vi b),(9,.val (.list (.list (.int .u8))) a),(10,vi (Ac a)),(11,vi h)],[],[]⟩
def z9:Nat->S->Option R_:=H.i P_ [r,r,l,r,d]
def x16(f:LB):Option R_:=H.e P_ [r,r,r,r,r] ⟨[(6,.own 0)],[Ab 5 f],[]⟩
def x14(a:List LB)(g:Int)(f:LB):Option R_:=H.e P_ [r,r,r,r,l,r,d] (t14 a g f)
def x13(a:List LB)(k:LB):Option R_:=H.e P_ [r,r,r,r] ⟨[(0,.val (.list (.list (.int .u8))) a),(6,.own 0)],[Ab 5 k],[]⟩
def x12(b:Int)(a:List LB):Option R_:=H.e P_ [r,r,r,l,(call 1 130),r,r] ⟨[(0,.nils),(1,vi b)],[],[[(0,.val (.list (.list (.int .u8))) a),(3,vi b),(23,vi b)]]⟩
def x11(a:List LB)(b:Int):Option R_:=H.e P_ [r,r,r] ⟨[(0,.val (.list (.list (.int .u8))) a),(3,vi b)],[],[]⟩
def x9(a:List LB)(b h:Int):Option R_:=H.e P_ [r,r,l,r,d] (t9 a b h)
theorem e16:x16=Tt:=by kernel_rfl
theorem i14(a:List LB):∀(q:Nat) (g:Int) (f:LB),z14 q (t14 a g f)=Dj a q g f:=
 ind (λ_ _=>by kernel_rfl) λq ih g f=>Eq.trans (b:=Et x16 (λg f=>(z14 q) (t14 a g f)) a g f) (by kernel_rfl) (by simp only[e16,ih]<;>rfl)
theorem e14:x14=Kv:=by funext a g f;exact Eq.trans (by kernel_rfl) ((i14 a Cy g f).trans (by rw[Az];rfl))
theorem e13:x13=He:=Eq.trans (b:=Kz x14) (by kernel_rfl) (by simp only[e14]<;>rfl)
theorem e12:x12=Le:=Eq.trans (b:=Ld x13) (by kernel_rfl) (by simp only[e13]<;>rfl)
theorem e11:x11=Lg:=Eq.trans (b:=La x12) (by kernel_rfl) (by simp only[e12]<;>rfl)
theorem i9(a:List LB):∀(q:Nat) (b h:Int),z9 q (t9 a b h)=Dq a q b h:=
 ind (λ_ _=>by kernel_rfl) λq ih b h=>Eq.trans (b:=Fi x11 (λb h=>(z9 q) (t9 a b h)) a b h) (by kernel_rfl) (by simp only[e11,ih]<;>rfl)
theorem e9:x9=Lt:=by funext a b h;exact Eq.trans (by kernel_rfl) ((i9 a Cy b h).trans (by rw[Az];rfl))
def F:=Jy
theorem rn x:H.u P_ x=F x:=Eq.trans (b:=Mg x9 x) (by kernel_rfl) (by simp only[e9]<;>rfl)
def c:Con:=⟨H.p,H.r,F⟩
theorem ok:ConOk P_ gl 85 c:=cr H func85 .nil (Fa.cons ent130 Fa.nil) rn
end F85
namespace F44
abbrev R_:=(LB×Int)
abbrev K_:=S->Option R_
def H:Hd:=⟨[.agg [Si,Si],.lf (.vec 16 (.int .i32)) none,Sw],[Ob 5,Si],(.seq .d (.seq .d (.seq .d (.seq .d (.seq .d (.cut [11] [] (.seq .d (.blk (.loop [3,10,11,30,31,32] [⟨11,[0],.own 5 (.int .u8)⟩] (.seq .d (.seq .d (.cut [3,10,11,30,31,32] [] (.blk (.seq .d (.seq .d (.seq .d (.seq .d (.keep [3,10,11,14,30,31,32,59] true)))))) .d)))))) .d)))))),⟨[(47,F47.c),(48,F48.c),(81,F81.c),(82,F82.c),(83,F83.c),(85,F85.c)],gl,false⟩,[(84,(.seq .d (.seq .d (.blk (.loop [0,3,7,8] [] (.seq .d (.seq .d (.seq (.blk (.seq .d (.cut [0,3,4,7,8] [] .d (.seq .d (.cut [0,3,7,8] [] .d .d))))) .d))))))))],f44⟩
def t44(a:LU)(b f h g:Int)(k:List (Int×Int×UInt64×UInt64×Unit))(m:LB)(o n:Int)(v:LB):S:=⟨[(0,.ptr 0 []),(3,.ptr 1 []),(7,vi h),(8,vi o)],[.box 119 (.agg [.own 7,vi n]),.box 119 (.agg [.own 6,vi h]),.box 48 (.agg [vi b,vi f]),.box 154 (.val (.vec 6 (.cons (.int .i64) (.cons (.int .i64) (.cons (.int .u64) (.cons (.int .u64) .nil))))) k),.box 119 (.agg [.own 6,vi h]),Av 101 a,Ab 5 m,Ab 5 v],[[(3,.ptr 2 []),(10,.ptr 3 []),(11,.ptr 0 []),(14,.ptr 4 []),(30,.own 5),(31,vi (Ac a)),(32,vi g),(59,.agg [.own 6,vi h])]]⟩
def z44(Gf:K_):Nat->S->Option R_:=H.i P_ [r,r,r,r,r,l,r,d,(lp Gf),r,r,l,d,r,r,r,r,(call 1 84),r,r,d]
def t27(a:LU)(b f g:Int)(w:List (Int×Int×UInt64×UInt64×Unit))(u:Int)(p:LB):S:=⟨[(3,.ptr 0 []),(10,.ptr 1 []),(11,.ptr 2 []),(30,.own 3),(31,vi (Ac a)),(32,vi g)],[.box 48 (.agg [vi b,vi f]),.box 154 (.val (.vec 6 (.cons (.int .i64) (.cons (.int .i64) (.cons (.int .u64) (.cons (.int .u64) .nil))))) w),.box 119 (.agg [.own 4,vi u]),Av 101 a,Ab 5 p],[]⟩
def z27:Nat->S->Option R_:=H.i P_ [r,r,r,r,r,l,r,d]
def x52(u:Int)(p:LB):Option R_:=H.e P_ [r,r,r,r,r,r] ⟨[(11,.ptr 0 [])],[.box 119 (.agg [.own 1,vi u]),Ab 5 p],[]⟩
def x50(Gf:K_)(a:LU)(b f g:Int)(k:List (Int×Int×UInt64×UInt64×Unit))(n:Int)(v:LB):Option R_:=H.e P_ [r,r,r,r,r,l,r,d,(lp Gf),r,r,r] ⟨[(3,.ptr 0 []),(10,.ptr 1 []),(11,.ptr 2 []),(30,.own 3),(31,vi (Ac a)),(32,vi g)],[.box 48 (.agg [vi b,vi f]),.box 154 (.val (.vec 6 (.cons (.int .i64) (.cons (.int .i64) (.cons (.int .u64) (.cons (.int .u64) .nil))))) k),.box 119 (.agg [.own 4,vi n]),Av 101 a,Ab 5 v],[]⟩
def x48(Gf VW:K_)(h:Int)(a:LU)(g b f:Int)(k:List (Int×Int×UInt64×UInt64×Unit))(m:LB)(o n:Int)(aa:LB):Option R_:=H.e P_ [r,r,r,r,r,l,r,d,(lp Gf),r,r,l,d,r,r,r,r,(call 1 84),r,r,d,(lp VW),r,r,l,d,r,r,r,r] ⟨[(0,.ptr 0 []),(3,.ptr 1 []),(7,vi h),(8,vi o)],[.box 119 (.agg [.own 7,vi n]),.box 119 (.agg [.own 6,vi h]),.box 48 (.agg [vi b,vi f]),.box 154 (.val (.vec 6 (.cons (.int .i64) (.cons (.int .i64) (.cons (.int .u64) (.cons (.int .u64) .nil))))) k),.box 119 (.agg [.own 6,vi h]),Av 101 a,Ab 5 m,Ab 5 aa],[[(3,.ptr 2 []),(10,.ptr 3 []),(11,.ptr 0 []),(14,.ptr 4 []),(30,.own 5),(31,vi (Ac a)),(32,vi g),(59,.agg [.own 6,vi h])]]⟩
def x47(Gf VW:K_)(h:Int)(a:LU)(g b f:Int)(k:List (Int×Int×UInt64×UInt64×Unit))(m:LB)(o n:Int)(y:LB):Option R_:=H.e P_ [r,r,r,r,r,l,r,d,(lp Gf),r,r,l,d,r,r,r,r,(call 1 84),r,r,d,(lp VW),r,r,l,d,r,r] ⟨[(0,.ptr 0 []),(3,.ptr 1 []),(4,vi o),(7,vi h),(8,vi o)],[.box 119 (.agg [.own 7,vi n]),.box 119 (.agg [.own 6,vi h]),.box 48 (.agg [vi b,vi f]),.box 154 (.val (.vec 6 (.cons (.int .i64) (.cons (.int .i64) (.cons (.int .u64) (.cons (.int .u64) .nil))))) k),.box 119 (.agg [.own 6,vi h]),Av 101 a,Ab 5 m,Ab 5 y],[[(3,.ptr 2 []),(10,.ptr 3 []),(11,.ptr 0 []),(14,.ptr 4 []),(30,.own 5),(31,vi (Ac a)),(32,vi g),(59,.agg [.own 6,vi h])]]⟩
def x44(Gf:K_)(a:LU)(b f h g:Int)(k:List (Int×Int×UInt64×UInt64×Unit))(m:LB)(o n:Int)(v:LB):Option R_:=H.e P_ [r,r,r,r,r,l,r,d,(lp Gf),r,r,l,d,r,r,r,r,(call 1 84),r,r,d] (t44 a b f h g k m o n v)
def x27(a:LU)(b f g:Int)(w:List (Int×Int×UInt64×UInt64×Unit))(u:Int)(p:LB):Option R_:=H.e P_ [r,r,r,r,r,l,r,d] (t27 a b f g w u p)
theorem e52:x52=Yv:=by kernel_rfl
theorem e50(Gf:K_)(a:LU)(b f:Int):x50 Gf a b f=Zd (λg w u p=>Gf (t27 a b f g w u p)) a b f:=by kernel_rfl
theorem e48(Gf VW:K_)(a:LU)(b f h g:Int)(k:List (Int×Int×UInt64×UInt64×Unit))(m:LB):x48 Gf VW h a g b f k m=Ys (λo n v=>VW (t44 a b f h g k m o n v)) h a g b f k m:=by kernel_rfl
theorem e47(Gf VW:K_)(a:LU)(b f h g:Int)(k:List (Int×Int×UInt64×UInt64×Unit))(m:LB):x47 Gf VW h a g b f k m=Qv (λo n v=>VW (t44 a b f h g k m o n v)) h a g b f k m:=Eq.trans (b:=Yp (x48 Gf VW h a g b f k m) h a g b f k m) (by kernel_rfl) (by simp only[e48]<;>rfl)
theorem i44(Gf:K_)(a:LU)(b f h g:Int)(k:List (Int×Int×UInt64×UInt64×Unit))(m:LB):∀(q:Nat) (o n:Int) (v:LB),z44 Gf q (t44 a b f h g k m o n v)=Fl (λg w u p=>Gf (t27 a b f g w u p)) a b f h g k m q o n v:=
 ind (λ_ _ _=>by kernel_rfl) λq ih o n v=>Eq.trans (b:=Ro (x47 Gf (z44 Gf q) h a g b f k m) (x50 Gf a b f) a b f h g k m o n v) (by kernel_rfl) (by simp only[e47,e50,ih]<;>rfl)
theorem e44(Gf:K_)(a:LU)(b f:Int):x44 Gf a b f=QG (λg w u p=>Gf (t27 a b f g w u p)) a b f:=by funext h g k m o n v;exact Eq.trans (by kernel_rfl) ((i44 Gf a b f h g k m Cy o n v).trans (by rw[Az];rfl))
theorem i27(a:LU)(b f:Int):∀(q:Nat) (g:Int) (w:List (Int×Int×UInt64×UInt64×Unit)) (u:Int) (p:LB),z27 q (t27 a b f g w u p)=Gu a b f q g w u p:=
 ind (λ_ _ _ _=>by kernel_rfl) λq ih g w u p=>Eq.trans (b:=Rc (x44 (z27 q) a b f) x52 a b f g w u p) (by kernel_rfl) (by simp only[e44,e52,ih]<;>rfl)
theorem e27:x27=Yn:=by funext a b f g w u p;exact Eq.trans (by kernel_rfl) ((i27 a b f Cy g w u p).trans (by rw[Az];rfl))
def F:=u4 Qe
theorem rn x:H.u P_ x=F x:=Eq.trans (b:=u4 (BL x27) x) (by kernel_rfl) (by simp only[e27]<;>rfl)
def c:Con:=⟨H.p,H.r,F⟩
theorem ok:ConOk P_ gl 44 c:=cr H func44 (.cons F47.ok (.cons F48.ok (.cons F81.ok (.cons F82.ok (.cons F83.ok (.cons F85.ok .nil)))))) (Fa.cons ent84 Fa.nil) rn
end F44
theorem wQ:ConOk Tryz.prog gl 21 UQ:=zI F34.ok F31.ok F80.ok F44.ok F45.ok
namespace F86
abbrev R_:=Bool
def H:Hd:=⟨[.agg [Si,Si,Si,Si,Si]],[Sz],(.seq .d (.cut [1] [] .d .d)),⟨[],gl,false⟩,[],f86⟩
def x2(b f a g h:Int):Option R_:=H.e P_ [r,r] ⟨[(1,.ptr 0 [])],[.box 52 (.agg [vi b,vi f,vi a,vi g,vi h])],[]⟩
theorem e2:x2=Vt:=by kernel_rfl
def F:=u5 Xf
theorem rn x:H.u P_ x=F x:=Eq.trans (b:=u5 (GD x2) x) (by kernel_rfl) (by simp only[e2]<;>rfl)
def c:Con:=⟨H.p,H.r,F⟩
theorem ok:ConOk P_ gl 86 c:=co H func86 .nil rn
end F86
namespace F87
def H:Hd:=⟨[.agg [Si,Si,Si,Si,Si]],[Sz],.d,⟨[(110,F110.c)],gl,false⟩,[],f87⟩
def F:=u5 KH
theorem rn x:H.u P_ x=F x:=by kernel_rfl
def c:Con:=⟨H.p,H.r,F⟩
theorem ok:ConOk P_ gl 87 c:=co H func87 (.cons F110.ok .nil) rn
end F87
namespace F46
def H:Hd:=⟨[.agg [Si,Si,Si,Si,Si]],[Si],.d,⟨[(86,F86.c),(87,F87.c)],gl,false⟩,[],f46⟩
def F:=u5 Qn
theorem rn x:H.u P_ x=F x:=by kernel_rfl
def c:Con:=⟨H.p,H.r,F⟩
theorem ok:ConOk P_ gl 46 c:=co H func46 (.cons F86.ok (.cons F87.ok .nil)) rn
end F46
namespace F22
abbrev R_:=(LB×Int)
def H:Hd:=⟨[.agg [Si,Si,Si,Si,Si]],[Ob 5,Si],(.seq .d (.seq .d (.seq .d (.cut [5] [] (.seq .d (.blk (.loop [5,31,32] [] .d))) .d)))),⟨[(46,F46.c),(47,F47.c),(48,F48.c)],gl,false⟩,[],f22⟩
def t4(b f g h k m:Int)(a:LB):S:=⟨[(5,.own 0),(31,.val (.vec 5 (.int .i64)) ([b,f,g,h,k]:LI)),(32,vi m)],[Ab 5 a],[]⟩
def z4:Nat->S->Option R_:=H.i P_ [r,r,r,l,r,d]
def x6(a:LB):Option R_:=H.e P_ [r,r,r,r] ⟨[(5,.own 0)],[Ab 5 a],[]⟩
def x4(b f g h k m:Int)(a:LB):Option R_:=H.e P_ [r,r,r,l,r,d] (t4 b f g h k m a)
theorem e6:x6=Yj:=by kernel_rfl
theorem i4(b f g h k:Int):∀(q:Nat) (m:Int) (a:LB),z4 q (t4 b f g h k m a)=Ke b f g h k q m a:=
 ind (λ_ _=>by kernel_rfl) λq ih m a=>Eq.trans (b:=Yh x6 (λm a=>(z4 q) (t4 b f g h k m a)) b f g h k m a) (by kernel_rfl) (by simp only[e6,ih]<;>rfl)
theorem e4:x4=LK:=by funext b f g h k m a;exact Eq.trans (by kernel_rfl) ((i4 b f g h k Cy m a).trans (by rw[Az];rfl))
def F:=u5 NQ
theorem rn x:H.u P_ x=F x:=Eq.trans (b:=u5 (MC x4) x) (by kernel_rfl) (by simp only[e4]<;>rfl)
def c:Con:=⟨H.p,H.r,F⟩
theorem ok:ConOk P_ gl 22 c:=co H func22 (.cons F46.ok (.cons F47.ok (.cons F48.ok .nil))) rn
end F22
namespace F49
def H:Hd:=⟨[Ss],[Sq,Si],.d,⟨[(57,F57.c)],gl,false⟩,[],f49⟩
def F:=tA
theorem rn x:H.u P_ x=F x:=by kernel_rfl
def c:Con:=⟨H.p,H.r,F⟩
theorem ok:ConOk P_ gl 49 c:=co H func49 (.cons F57.ok .nil) rn
end F49
namespace F23
def H:Hd:=⟨[Ss],[Ob 5,Si],.d,⟨[(47,F47.c),(49,F49.c)],gl,false⟩,[],f23⟩
def F:=DD
theorem rn x:H.u P_ x=F x:=by kernel_rfl
def c:Con:=⟨H.p,H.r,F⟩
theorem ok:ConOk P_ gl 23 c:=co H func23 (.cons F47.ok (.cons F49.ok .nil)) rn
end F23
namespace F50
abbrev R_:=Int
def H:Hd:=⟨[Sl],[Si],(.seq .d (.seq .d (.seq .d (.cut [] [] (.seq .d (.blk (.loop [3,14,15,16] [] .d))) .d)))),⟨[],gl,false⟩,[],f50⟩
def t4(a:LI)(f b:Int):S:=⟨[(3,vi f),(14,vl a),(15,vi (Ac a)),(16,vi b)],[],[]⟩
def z4:Nat->S->Option R_:=H.i P_ [r,r,r,l,r,d]
def x6:Option R_:=H.e P_ [r,r,r,r] ⟨[],[],[]⟩
def x4(a:LI)(f b:Int):Option R_:=H.e P_ [r,r,r,l,r,d] (t4 a f b)
theorem e6:x6=jO:=by kernel_rfl
theorem i4(a:LI):∀(q:Nat) (f b:Int),z4 q (t4 a f b)=Pu a q f b:=
 ind (λ_ _=>by kernel_rfl) λq ih f b=>Eq.trans (b:=EF x6 (λf b=>(z4 q) (t4 a f b)) a f b) (by kernel_rfl) (by simp only[e6,ih]<;>rfl)
theorem e4:x4=QR:=by funext a f b;exact Eq.trans (by kernel_rfl) ((i4 a Cy f b).trans (by rw[Az];rfl))
def F:=Qk
theorem rn x:H.u P_ x=F x:=Eq.trans (b:=DN x4 x) (by kernel_rfl) (by simp only[e4]<;>rfl)
def c:Con:=⟨H.p,H.r,F⟩
theorem ok:ConOk P_ gl 50 c:=co H func50 .nil rn
end F50
namespace F24
abbrev R_:=(LB×Int)
abbrev K_:=S->Option R_
def H:Hd:=⟨[Sl],[Ob 5,Si],(.seq .d (.seq .d (.seq .d (.seq .d (.cut [5,6] [] (.seq .d (.blk (.loop [5,6,17,18,19] [⟨5,[],.own 5 (.int .u8)⟩,⟨6,[0],.own 5 (.int .u8)⟩] (.seq .d (.seq .d (.cut [5,6,17,18,19] [] (.blk (.seq .d (.keep [5,6,8,17,18,19,23,24,25] true))) .d)))))) (.seq .d (.cut [5] [] (.keep [5,6,9,33,34,35] true) .d))))))),⟨[(47,F47.c),(48,F48.c),(50,F50.c)],gl,false⟩,[(51,.d)],f24⟩
def t8(a:LI)(f:Int)(b:LB):S:=⟨[(5,.ptr 0 []),(6,.fn 51 [.ptr 0 []]),(17,vl a),(18,vi (Ac a)),(19,vi f)],[.box 28 (.own 1),Ab 5 b],[]⟩
def z8:Nat->S->Option R_:=H.i P_ [r,r,r,r,l,r,d]
def x14(g:LB):Option R_:=H.e P_ [r,r,r,r,r,r,r] ⟨[(5,.ptr 0 [])],[.box 28 (.own 1),Ab 5 g],[]⟩
def x13(b:LB):Option R_:=H.e P_ [r,r,r,r,r] ⟨[(5,.ptr 0 []),(6,.fn 51 [.ptr 0 []])],[.box 28 (.own 1),Ab 5 b],[]⟩
def x11(kn8:K_)(a:LI)(f:Int)(h:LB):Option R_:=H.e P_ [r,r,r,r,l,r,d,(lp kn8),r,r,r] ⟨[(5,.ptr 0 []),(6,.fn 51 [.ptr 0 []]),(17,vl a),(18,vi (Ac a)),(19,vi f)],[.box 28 (.own 1),Ab 5 h],[]⟩
def x8(a:LI)(f:Int)(b:LB):Option R_:=H.e P_ [r,r,r,r,l,r,d] (t8 a f b)
theorem e14:x14=cK:=by kernel_rfl
theorem e13:x13=KZ:=Eq.trans (b:=LC x14) (by kernel_rfl) (by simp only[e14]<;>rfl)
theorem e11(kn8:K_)(a:LI):x11 kn8 a=LJ (λf b=>kn8 (t8 a f b)) a:=by kernel_rfl
theorem i8(a:LI):∀(q:Nat) (f:Int) (b:LB),z8 q (t8 a f b)=Pc a q f b:=
 ind (λ_ _=>by kernel_rfl) λq ih f b=>Eq.trans (b:=EE (x11 (z8 q) a) x13 a f b) (by kernel_rfl) (by simp only[e11,e13,ih]<;>rfl)
theorem e8:x8=iV:=by funext a f b;exact Eq.trans (by kernel_rfl) ((i8 a Cy f b).trans (by rw[Az];rfl))
def F:=TT
theorem rn x:H.u P_ x=F x:=Eq.trans (b:=PD x8 x) (by kernel_rfl) (by simp only[e8]<;>rfl)
def c:Con:=⟨H.p,H.r,F⟩
theorem ok:ConOk P_ gl 24 c:=cr H func24 (.cons F47.ok (.cons F48.ok (.cons F50.ok .nil))) (Fa.cons ent51 Fa.nil) rn
end F24
namespace F26
def H:Hd:=⟨[Sb],[Si],.d,⟨[],gl,false⟩,[],f26⟩
def F:=UO
theorem rn x:H.u P_ x=F x:=by kernel_rfl
def c:Con:=⟨H.p,H.r,F⟩
theorem ok:ConOk P_ gl 26 c:=co H func26 .nil rn
end F26
namespace F27
abbrev R_:=LB
def H:Hd:=⟨[.lf (.list (.list (.int .u8))) none],[Ob 5],(.seq .d (.seq .d (.cut [3] [] (.seq .d (.blk (.loop [3,6,7,8] [⟨3,[],.own 5 (.int .u8)⟩] .d))) .d))),⟨[],gl,false⟩,[],f27⟩
def t4(b:List LB)(f:Int)(a:LB):S:=⟨[(3,.own 0),(6,.val (.list (.list (.int .u8))) b),(7,vi (Ac b)),(8,vi f)],[Ab 5 a],[]⟩
def z4:Nat->S->Option R_:=H.i P_ [r,r,l,r,d]
def x6(a:LB):Option R_:=H.e P_ [r,r,r] ⟨[(3,.own 0)],[Ab 5 a],[]⟩
def x4(b:List LB)(f:Int)(a:LB):Option R_:=H.e P_ [r,r,l,r,d] (t4 b f a)
theorem e6:x6=iO:=by kernel_rfl
theorem i4(b:List LB):∀(q:Nat) (f:Int) (a:LB),z4 q (t4 b f a)=Qf b q f a:=
 ind (λ_ _=>by kernel_rfl) λq ih f a=>Eq.trans (b:=DI x6 (λf a=>(z4 q) (t4 b f a)) b f a) (by kernel_rfl) (by simp only[e6,ih]<;>rfl)
theorem e4:x4=gU:=by funext b f a;exact Eq.trans (by kernel_rfl) ((i4 b Cy f a).trans (by rw[Az];rfl))
def F:=iY
theorem rn x:H.u P_ x=F x:=Eq.trans (b:=fI x4 x) (by kernel_rfl) (by simp only[e4]<;>rfl)
def c:Con:=⟨H.p,H.r,F⟩
theorem ok:ConOk P_ gl 27 c:=co H func27 .nil rn
end F27
namespace F8
abbrev R_:=(LB×Int)
abbrev K_:=S->Option R_
def H:Hd:=⟨[.agg [Si,Si,Si,Sw],Ss],[Ob 5,Si],(.seq .d (.seq .d (.seq .d (.seq .d (.seq .d (.seq .d (.seq .d (.seq .d (.cut [8,9,10] [⟨10,[],.own 5 (.int .u8)⟩] .d (.cut [7,8,9,10,11] [] (.keep [7,8,9,10,11,46,48,49,50,51] true) .d)))))))))),⟨[(20,F20.c),(21,UQ),(22,F22.c),(23,F23.c),(24,F24.c),(26,F26.c),(27,F27.c)],gl,false⟩,[(25,(.seq .d (.seq .d (.cut [5] [] (.seq .d (.blk (.loop [1,5,11,12,13] [] (.seq .d (.seq .d (.cut [1,5,11,12,13] [] .d .d)))))) .d))))],f8⟩
def t9(a:List LB)(b f:LB)(g:Int)(h:LI):S:=⟨[(1,.fn 26 []),(5,.own 0),(11,.own 1),(12,vi (Ac a)),(13,vi g)],[Ai 3 h,.arr 28 (.list (.int .u8)) a,Ab 5 b,Ab 5 f],[[(8,.own 1),(9,.own 2),(10,.own 3)]]⟩
def z9:Nat->S->Option R_:=H.i P_ [r,r,r,r,r,r,r,r,r,l,(call 1 25),r,r,l,r,d]
def x14(k:Int)(a:List LB)(b f n:LB):Option R_:=H.e P_ [r,r,r,r,r,r,r,r,r,r] ⟨[(7,vi k),(8,.own 0),(9,.own 1),(10,.own 2),(11,.own 3)],[.arr 28 (.list (.int .u8)) a,Ab 5 b,Ab 5 f,Ab 5 n],[]⟩
def x13(h:LI)(a:List LB)(b f:LB):Option R_:=H.e P_ [r,r,r,r,r,r,r,r,r,l,(call 1 25),r,r,r] ⟨[(5,.own 0)],[Ai 3 h,.arr 28 (.list (.int .u8)) a,Ab 5 b,Ab 5 f],[[(8,.own 1),(9,.own 2),(10,.own 3)]]⟩
def x11(kn9:K_)(a:List LB)(b f:LB)(g:Int)(m:LI):Option R_:=H.e P_ [r,r,r,r,r,r,r,r,r,l,(call 1 25),r,r,l,r,d,(lp kn9),r,r,r] ⟨[(1,.fn 26 []),(5,.own 0),(11,.own 1),(12,vi (Ac a)),(13,vi g)],[Ai 3 m,.arr 28 (.list (.int .u8)) a,Ab 5 b,Ab 5 f],[[(8,.own 1),(9,.own 2),(10,.own 3)]]⟩
def x9(a:List LB)(b f:LB)(g:Int)(h:LI):Option R_:=H.e P_ [r,r,r,r,r,r,r,r,r,l,(call 1 25),r,r,l,r,d] (t9 a b f g h)
def x8(a:List LB)(b f:LB):Option R_:=H.e P_ [r,r,r,r,r,r,r,r,r] ⟨[(8,.own 0),(9,.own 1),(10,.own 2)],[.arr 28 (.list (.int .u8)) a,Ab 5 b,Ab 5 f],[]⟩
theorem e14:x14=LZ:=by kernel_rfl
theorem e13:x13=Ry:=Eq.trans (b:=KX x14) (by kernel_rfl) (by simp only[e14]<;>rfl)
theorem e11(kn9:K_)(a:List LB)(b f:LB):x11 kn9 a b f=LH (λg h=>kn9 (t9 a b f g h)) a b f:=by kernel_rfl
theorem i9(a:List LB)(b f:LB):∀(q:Nat) (g:Int) (h:LI),z9 q (t9 a b f g h)=Qd a b f q g h:=
 ind (λ_ _=>by kernel_rfl) λq ih g h=>Eq.trans (b:=DA (x11 (z9 q) a b f) x13 a b f g h) (by kernel_rfl) (by simp only[e11,e13,ih]<;>rfl)
theorem e9:x9=iA:=by funext a b f g h;exact Eq.trans (by kernel_rfl) ((i9 a b f Cy g h).trans (by rw[Az];rfl))
theorem e8:x8=CK:=Eq.trans (b:=OJ x9) (by kernel_rfl) (by simp only[e9]<;>rfl)
def F:=u5 KL
theorem rn x:H.u P_ x=F x:=Eq.trans (b:=u5 (OX x8) x) (by kernel_rfl) (by simp only[e8]<;>rfl)
def c:Con:=⟨H.p,H.r,F⟩
theorem ok:ConOk P_ gl 8 c:=cr H func8 (.cons F20.ok (.cons wQ (.cons F22.ok (.cons F23.ok (.cons F24.ok (.cons F26.ok (.cons F27.ok .nil))))))) (Fa.cons ent25 Fa.nil) rn
end F8
namespace F15
def H:Hd:=⟨[Ss],[Ob 5],.d,⟨[(8,F8.c),(38,F38.c)],gl,false⟩,[],f15⟩
def F:=Nl
theorem rn x:H.u P_ x=F x:=by kernel_rfl
def c:Con:=⟨H.p,H.r,F⟩
theorem ok:ConOk P_ gl 15 c:=co H func15 (.cons F8.ok (.cons F38.ok .nil)) rn
end F15
namespace F93
def H:Hd:=⟨[Sb,Sb],[Sz],.d,⟨[],gl,false⟩,[],f93⟩
def F:=u2 Hc
theorem rn x:H.u P_ x=F x:=by kernel_rfl
def c:Con:=⟨H.p,H.r,F⟩
theorem ok:ConOk P_ gl 93 c:=co H func93 .nil rn
end F93
namespace F107
def H:Hd:=⟨[Sb,Sb],[Sz],.d,⟨[(93,F93.c)],gl,false⟩,[],f107⟩
def F:=u2 Kh
theorem rn x:H.u P_ x=F x:=by kernel_rfl
def c:Con:=⟨H.p,H.r,F⟩
theorem ok:ConOk P_ gl 107 c:=co H func107 (.cons F93.ok .nil) rn
end F107
namespace F170
abbrev R_:=(Int×Int)
def H:Hd:=⟨[Sb],[Si,Si],(.seq .d (.seq .d (.seq .d (.cut [4] [] (.seq .d (.blk (.loop [4,10,11,12] [] .d))) .d)))),⟨[],gl,false⟩,[],f170⟩
def t4(a:LB)(b f:Int):S:=⟨[(4,vi b),(10,vb a),(11,vi (Ac a)),(12,vi f)],[],[]⟩
def z4:Nat->S->Option R_:=H.i P_ [r,r,r,l,r,d]
def x6(b:Int):Option R_:=H.e P_ [r,r,r,r] ⟨[(4,vi b)],[],[]⟩
def x4(a:LB)(b f:Int):Option R_:=H.e P_ [r,r,r,l,r,d] (t4 a b f)
theorem e6:x6=XS:=by kernel_rfl
theorem i4(a:LB):∀(q:Nat) (b f:Int),z4 q (t4 a b f)=Li a q b f:=
 ind (λ_ _=>by kernel_rfl) λq ih b f=>Eq.trans (b:=Vq x6 (λb f=>(z4 q) (t4 a b f)) a b f) (by kernel_rfl) (by simp only[e6,ih]<;>rfl)
theorem e4:x4=GA:=by funext a b f;exact Eq.trans (by kernel_rfl) ((i4 a Cy b f).trans (by rw[Az];rfl))
def F:=HP
theorem rn x:H.u P_ x=F x:=Eq.trans (b:=HG x4 x) (by kernel_rfl) (by simp only[e4]<;>rfl)
def c:Con:=⟨H.p,H.r,F⟩
theorem ok:ConOk P_ gl 170 c:=co H func170 .nil rn
end F170
namespace F158
def GP(j5:LB->UInt8->UInt8->Option (Int×Int))(a:LB):Option (Int×Int):=
(Kh a ([(73:UInt8),(68:UInt8),(51:UInt8)]:LB)).bind λn=>
if(!n)then
some (0,6)
else
if(Cc (Ac a) 10)then
some (0,24)
else
(Aj a 3).bind λf=>
(Aj a 5).bind λb=>
(λo:Option (Int×Int)=>
(λp:Option (Int×Int)=>
both (
both (
bo (
j5 a f b)) [
o,
o]) [
bo2 (
bo (
j5 a f b)),
p,
p]) (
both (
o) [
bo (
j5 a f b),
both (
bo (
j5 a f b)) [
j5 a f b]])) (
both (
j5 a f b) [
bo (
j5 a f b)])
theorem kY: @GP= @Yb:=by
  unfold GP Yb
  try simp only[vK,dT,iF]
  all_goals
    repeat (refine funext λ_=>?_)
    repeat' first
      |with_reducible rfl
      |with_reducible refine Xq ?_ ?_
      |with_reducible refine Xg ?_ ?_ ?_
      |with_reducible refine Xu ?_ ?_ ?_ ?_
      |((with_reducible refine HZ ?_ ?_);focus (intro h;first|(subst h;rfl)|(simp only[h];rfl)|(simp[Db,Ac,h];done)))
      |with_reducible refine HK λx=>?_
      |with_reducible refine UN (λ_=>?_) (λ_=>?_)
      |(refine Nu (λh=>by simp only[h,HS,Jv,Jj,ite_self]) (λx h=>?_);(try simp only[h,Jv]))
      |(refine Sj (λh=>?_) (λh=>?_)<;>simp only[h,if_true,if_false,Bool.false_eq_true])
abbrev R_:=(Int×Int)
def H:Hd:=⟨[Sb],[Si,Si],(.seq .d (.seq .d (.seq .d (.cut [0,4,5] [] (.mode false) (.seq .d (.seq .d (.cut [0,5,6] [] (.cut [0,5,6,43] [] (.keep [0,5,6,7,8,31,32,33,34,35,36,37,38,39,40,41,42,43] true) .d) (.seq .d (.cut [0,5,6] [] .d .d))))))))),⟨[(93,F93.c),(107,F107.c),(170,F170.c)],gl,false⟩,[(171,.d)],f158⟩
def x8(a:LB)(b:UInt8)(h:Int):Option R_:=H.e P_ [r,r,r,r,r,r,r,r,r] ⟨[(0,vb a),(5,.ptr 0 []),(6,vi h)],[.box 5 (vc b)],[]⟩
def x7(a:LB)(g:Int)(b:UInt8):Option R_:=H.e P_ [r,r,r,r,r,r,r] ⟨[(0,vb a),(5,.ptr 0 []),(6,vi g)],[.box 5 (vc b)],[]⟩
def x6(a:LB)(g:Int)(b:UInt8)(m:Bool):Option R_:=H.e P_ [r,r,r,r,r,r,l,r] ⟨[(0,vb a),(5,.ptr 0 []),(6,vi g),(43,vt m)],[.box 5 (vc b)],[]⟩
def x5(a:LB)(f b:UInt8):Option R_:=H.e P_ [r,r,r,r] ⟨[(0,vb a),(4,.ptr 0 []),(5,.ptr 1 [])],[.box 5 (vc f),.box 5 (vc b)],[]⟩
theorem e8:x8=Ya:=by kernel_rfl
theorem e7:x7=Yk:=Eq.trans (b:=LO x8) (by kernel_rfl) (by simp only[e8]<;>rfl)
theorem e6:x6=KV:=Eq.trans (b:=KU x7) (by kernel_rfl) (by simp only[e7]<;>rfl)
theorem e5:x5=LG:=Eq.trans (b:=MB x6) (by kernel_rfl) (by simp only[e6]<;>rfl)
def F:=ND
theorem rn x:H.u P_ x=F x:=Eq.trans (b:=GP x5 x) (by kernel_rfl) (by unfold F;rw[kY];simp only[e5]<;>rfl)
def c:Con:=⟨H.p,H.r,F⟩
theorem ok:ConOk P_ gl 158 c:=cr H func158 (.cons F93.ok (.cons F107.ok (.cons F170.ok .nil))) (Fa.cons ent171 Fa.nil) rn
end F158
namespace F96
abbrev R_:=(UInt64×Int)
def H:Hd:=⟨[Sb],[Sq,Si],(.seq .d (.seq .d (.seq .d (.cut [4] [] (.seq .d (.blk (.loop [4,15,16,17] [] .d))) .d)))),⟨[],gl,false⟩,[],f96⟩
def t4(a:LB)(b:UInt64)(f:Int):S:=⟨[(4,vq b),(15,vb a),(16,vi (Ac a)),(17,vi f)],[],[]⟩
def z4:Nat->S->Option R_:=H.i P_ [r,r,r,l,r,d]
def x6(b:UInt64):Option R_:=H.e P_ [r,r,r,r] ⟨[(4,vq b)],[],[]⟩
def x4(a:LB)(b:UInt64)(f:Int):Option R_:=H.e P_ [r,r,r,l,r,d] (t4 a b f)
theorem e6:x6=uN:=by kernel_rfl
theorem i4(a:LB):∀(q:Nat) (b:UInt64) (f:Int),z4 q (t4 a b f)=Zn a q b f:=
 ind (λ_ _=>by kernel_rfl) λq ih b f=>Eq.trans (b:=TF x6 (λb f=>(z4 q) (t4 a b f)) a b f) (by kernel_rfl) (by simp only[e6,ih]<;>rfl)
theorem e4:x4=hH:=by funext a b f;exact Eq.trans (by kernel_rfl) ((i4 a Cy b f).trans (by rw[Az];rfl))
def F:=fL
theorem rn x:H.u P_ x=F x:=Eq.trans (b:=jK x4 x) (by kernel_rfl) (by simp only[e4]<;>rfl)
def c:Con:=⟨H.p,H.r,F⟩
theorem ok:ConOk P_ gl 96 c:=co H func96 .nil rn
end F96
namespace F92
def H:Hd:=⟨[Sb,Si,Si],[Sq,Si],.d,⟨[(96,F96.c)],gl,false⟩,[],f92⟩
def F:=u3 XK
theorem rn x:H.u P_ x=F x:=by kernel_rfl
def c:Con:=⟨H.p,H.r,F⟩
theorem ok:ConOk P_ gl 92 c:=co H func92 (.cons F96.ok .nil) rn
end F92
namespace F109
abbrev R_:=LB
def H:Hd:=⟨[Si,Si,Sq],[Ob 5],(.seq .d (.seq .d (.cut [7] [] (.seq .d (.blk (.loop [7,20,21,22] [] .d))) .d))),⟨[(47,F47.c)],gl,false⟩,[],f109⟩
def t4(a b:Int)(f:UInt64)(h:Int)(g:LB):S:=⟨[(7,.own 0),(20,.own 1),(21,vi (Ac ([(2000:UInt64),(Ad (Ae a (32:Int)):UInt64),(Ad b:UInt64),f,(0:UInt64),(0:UInt64)]:LQ))),(22,vi h)],[Ab 5 g,.arr 100 (.int .u64) ([(2000:UInt64),(Ad (Ae a (32:Int)):UInt64),(Ad b:UInt64),f,(0:UInt64),(0:UInt64)]:LQ)],[]⟩
def z4:Nat->S->Option R_:=H.i P_ [r,r,l,r,d]
def x6(g:LB):Option R_:=H.e P_ [r,r,r] ⟨[(7,.own 0)],[Ab 5 g],[]⟩
def x4(a b:Int)(f:UInt64)(h:Int)(g:LB):Option R_:=H.e P_ [r,r,l,r,d] (t4 a b f h g)
theorem e6:x6=nF:=by kernel_rfl
theorem i4(a b:Int)(f:UInt64):∀(q:Nat) (h:Int) (g:LB),z4 q (t4 a b f h g)=Zi a b f q h g:=
 ind (λ_ _=>by kernel_rfl) λq ih h g=>Eq.trans (b:=ZS x6 (λh g=>(z4 q) (t4 a b f h g)) a b f h g) (by kernel_rfl) (by simp only[e6,ih]<;>rfl)
theorem e4:x4=mZ:=by funext a b f h g;exact Eq.trans (by kernel_rfl) ((i4 a b f Cy h g).trans (by rw[Az];rfl))
def F:=u3 jY
theorem rn x:H.u P_ x=F x:=Eq.trans (b:=u3 (nV x4) x) (by kernel_rfl) (by simp only[e4]<;>rfl)
def c:Con:=⟨H.p,H.r,F⟩
theorem ok:ConOk P_ gl 109 c:=co H func109 (.cons F47.ok .nil) rn
end F109
namespace F108
def H:Hd:=⟨[Sb,Sq],[.agg [Si,Si],Sz],.d,⟨[(92,F92.c),(93,F93.c),(109,F109.c)],gl,false⟩,[],f108⟩
def F:=u2 NZ
theorem rn x:H.u P_ x=F x:=by kernel_rfl
def c:Con:=⟨H.p,H.r,F⟩
theorem ok:ConOk P_ gl 108 c:=co H func108 (.cons F92.ok (.cons F93.ok (.cons F109.ok .nil))) rn
end F108
namespace F159
def H:Hd:=⟨[Sb],[Si,Si],.d,⟨[(93,F93.c),(107,F107.c),(108,F108.c),(109,F109.c)],gl,false⟩,[],f159⟩
def F:=kD
theorem rn x:H.u P_ x=F x:=by kernel_rfl
def c:Con:=⟨H.p,H.r,F⟩
theorem ok:ConOk P_ gl 159 c:=co H func159 (.cons F93.ok (.cons F107.ok (.cons F108.ok (.cons F109.ok .nil)))) rn
end F159
namespace F133
def H:Hd:=⟨[Sb],[Si,Si],.d,⟨[(158,F158.c),(159,F159.c)],gl,false⟩,[],f133⟩
def F:=Ul
theorem rn x:H.u P_ x=F x:=by kernel_rfl
def c:Con:=⟨H.p,H.r,F⟩
theorem ok:ConOk P_ gl 133 c:=co H func133 (.cons F158.ok (.cons F159.ok .nil)) rn
end F133
theorem G0:ConOk Tryz.prog gl 52 VU:=C2 ent52 F133.ok
namespace F134
def H:Hd:=⟨[Ss,Ss],[Sz],.d,⟨[],gl,false⟩,[],f134⟩
def F:=u2 Ja
theorem rn x:H.u P_ x=F x:=by kernel_rfl
def c:Con:=⟨H.p,H.r,F⟩
theorem ok:ConOk P_ gl 134 c:=co H func134 .nil rn
end F134
namespace F91
def H:Hd:=⟨[Ss,Ss],[Sz],.d,⟨[(134,F134.c)],gl,false⟩,[],f91⟩
def F:=u2 Tr
theorem rn x:H.u P_ x=F x:=by kernel_rfl
def c:Con:=⟨H.p,H.r,F⟩
theorem ok:ConOk P_ gl 91 c:=co H func91 (.cons F134.ok .nil) rn
end F91
namespace F53
abbrev R_:=(Int×Int×Int×Int×Int×Int)
def H:Hd:=⟨[Sb],[.agg [Si,Si,Si,Si,Si],Si],(.seq .d (.seq .d (.seq .d (.seq .d (.seq .d (.seq .d (.seq .d (.cut [2,8] [] (.seq .d (.blk (.loop [0,2,8,9,44,45] [] .d))) .d)))))))),⟨[(48,F48.c),(86,F86.c),(87,F87.c),(91,F91.c),(92,F92.c)],gl,false⟩,[],f53⟩
def t4(b:LB)(g f:Int)(a:LI):S:=⟨[(0,vb b),(2,.ptr 0 []),(8,.ptr 1 []),(9,vi g),(44,.val (.vec 5 (.int .i64)) ([(2:Int),(2:Int),(2:Int),(4:Int),(4:Int)]:LI)),(45,vi f)],[.box 52 (.agg [vi 0,vi 0,vi 0,vi 0,vi 0]),.box 98 (.val (.vec 5 (.int .i64)) a)],[]⟩
def z4:Nat->S->Option R_:=H.i P_ [r,r,r,r,r,r,r,l,r,d]
def x6(a:LI):Option R_:=H.e P_ [r,r,r,r,r,r,r,r] ⟨[(2,.ptr 0 []),(8,.ptr 1 [])],[.box 52 (.agg [vi 0,vi 0,vi 0,vi 0,vi 0]),.box 98 (.val (.vec 5 (.int .i64)) a)],[]⟩
def x4(b:LB)(g f:Int)(a:LI):Option R_:=H.e P_ [r,r,r,r,r,r,r,l,r,d] (t4 b g f a)
theorem e6:x6=BI:=by kernel_rfl
theorem i4(b:LB):∀(q:Nat) (g f:Int) (a:LI),z4 q (t4 b g f a)=Lq b q g f a:=
 ind (λ_ _ _=>by kernel_rfl) λq ih g f a=>Eq.trans (b:=BK x6 (λg f a=>(z4 q) (t4 b g f a)) b g f a) (by kernel_rfl) (by simp only[e6,ih]<;>rfl)
theorem e4:x4=CF:=by funext b g f a;exact Eq.trans (by kernel_rfl) ((i4 b Cy g f a).trans (by rw[Az];rfl))
def F:=IZ
theorem rn x:H.u P_ x=F x:=Eq.trans (b:=RC x4 x) (by kernel_rfl) (by simp only[e4]<;>rfl)
def c:Con:=⟨H.p,H.r,F⟩
theorem ok:ConOk P_ gl 53 c:=co H func53 (.cons F48.ok (.cons F86.ok (.cons F87.ok (.cons F91.ok (.cons F92.ok .nil))))) rn
end F53
namespace F54
def H:Hd:=⟨[.agg [Si,Si,Si,Si,Si]],[Ol 3,Si],.d,⟨[(46,F46.c),(80,F80.c)],gl,false⟩,[],f54⟩
def F:=u5 Xj
theorem rn x:H.u P_ x=F x:=by kernel_rfl
def c:Con:=⟨H.p,H.r,F⟩
theorem ok:ConOk P_ gl 54 c:=co H func54 (.cons F46.ok (.cons F80.ok .nil)) rn
end F54
namespace F28
def H:Hd:=⟨[Sb],[.agg [.agg [Si,Si,Si,Si,Si],.agg [Si,Si,Si,Si,Si],Ol 3],Si],.d,⟨[(52,VU),(53,F53.c),(54,F54.c)],gl,false⟩,[],f28⟩
def F:=Ng
theorem rn x:H.u P_ x=F x:=by kernel_rfl
def c:Con:=⟨H.p,H.r,F⟩
theorem ok:ConOk P_ gl 28 c:=co H func28 (.cons G0 (.cons F53.ok (.cons F54.ok .nil))) rn
end F28
namespace F55
def H:Hd:=⟨[Sb,Ss],[Sz,Si],.d,⟨[(23,F23.c),(93,F93.c)],gl,false⟩,[],f55⟩
def F:=u2 Vw
theorem rn x:H.u P_ x=F x:=by kernel_rfl
def c:Con:=⟨H.p,H.r,F⟩
theorem ok:ConOk P_ gl 55 c:=co H func55 (.cons F23.ok (.cons F93.ok .nil)) rn
end F55
namespace F56
abbrev R_:=(LI×Int)
def H:Hd:=⟨[Sb,Si],[Ol 3,Si],(.seq .d (.seq .d (.seq .d (.seq .d (.seq .d (.seq .d (.cut [10] [] (.seq .d (.blk (.loop [0,10,48,49] [] .d))) .d))))))),⟨[(48,F48.c),(50,F50.c),(92,F92.c)],gl,false⟩,[],f56⟩
def t4(b:LB)(f:LI)(g:Int)(a:LI):S:=⟨[(0,vb b),(10,.own 0),(48,vi (Ac f)),(49,vi g)],[Ai 3 a],[]⟩
def z4:Nat->S->Option R_:=H.i P_ [r,r,r,r,r,r,l,r,d]
def x6(a:LI):Option R_:=H.e P_ [r,r,r,r,r,r,r] ⟨[(10,.own 0)],[Ai 3 a],[]⟩
def x4(b:LB)(f:LI)(g:Int)(a:LI):Option R_:=H.e P_ [r,r,r,r,r,r,l,r,d] (t4 b f g a)
theorem e6:x6=HL:=by kernel_rfl
theorem i4(b:LB)(f:LI):∀(q:Nat) (g:Int) (a:LI),z4 q (t4 b f g a)=Se b f q g a:=
 ind (λ_ _=>by kernel_rfl) λq ih g a=>Eq.trans (b:=HO x6 (λg a=>(z4 q) (t4 b f g a)) b f g a) (by kernel_rfl) (by simp only[e6,ih]<;>rfl)
theorem e4:x4=UX:=by funext b f g a;exact Eq.trans (by kernel_rfl) ((i4 b f Cy g a).trans (by rw[Az];rfl))
def F:=u2 GV
theorem rn x:H.u P_ x=F x:=Eq.trans (b:=u2 (VS x4) x) (by kernel_rfl) (by simp only[e4]<;>rfl)
def c:Con:=⟨H.p,H.r,F⟩
theorem ok:ConOk P_ gl 56 c:=co H func56 (.cons F48.ok (.cons F50.ok (.cons F92.ok .nil))) rn
end F56
namespace F60
def H:Hd:=⟨[Sb],[Sb,Si],.d,⟨[(48,F48.c),(96,F96.c)],gl,false⟩,[],f60⟩
def F:=CW
theorem rn x:H.u P_ x=F x:=by kernel_rfl
def c:Con:=⟨H.p,H.r,F⟩
theorem ok:ConOk P_ gl 60 c:=co H func60 (.cons F48.ok (.cons F96.ok .nil)) rn
end F60
namespace F61
def H:Hd:=⟨[Sb],[.agg [Ob 5,Si],Si],.d,⟨[(97,F97.c)],gl,false⟩,[],f61⟩
def F:=Z7
theorem rn x:H.u P_ x=F x:=by kernel_rfl
def c:Con:=⟨H.p,H.r,F⟩
theorem ok:ConOk P_ gl 61 c:=co H func61 (.cons F97.ok .nil) rn
end F61
namespace F102
abbrev R_:=UInt64
def H:Hd:=⟨[.agg [Sb,Si],Si,Si],[Sq],(.seq .d (.seq .d (.cut [7] [] (.blk (.loop [1,2,3,7,8] [] .d)) .d))),⟨[],gl,false⟩,[],f102⟩
def t4(b f:Int)(h:LB)(k:Int)(g:UInt64)(a:Int):S:=⟨[(1,vi b),(2,vi f),(3,.ptr 0 []),(7,vq g),(8,vi a)],[.box 119 (.agg [vb h,vi k])],[]⟩
def z4:Nat->S->Option R_:=H.i P_ [r,r,l,d]
def x6(g:UInt64):Option R_:=H.e P_ [r,r,r] ⟨[(7,vq g)],[],[]⟩
def x4(b f:Int)(h:LB)(k:Int)(g:UInt64)(a:Int):Option R_:=H.e P_ [r,r,l,d] (t4 b f h k g a)
theorem e6:x6=vB:=by kernel_rfl
theorem i4(b f:Int)(h:LB)(k:Int):∀(q:Nat) (g:UInt64) (a:Int),z4 q (t4 b f h k g a)=JI b f h k q g a:=
 ind (λ_ _=>by kernel_rfl) λq ih g a=>Eq.trans (b:=gP x6 (λg a=>(z4 q) (t4 b f h k g a)) b f h k g a) (by kernel_rfl) (by simp only[e6,ih]<;>rfl)
theorem e4:x4=uU:=by funext b f h k g a;exact Eq.trans (by kernel_rfl) ((i4 b f h k Cy g a).trans (by rw[Az];rfl))
def F:=u4 qO
theorem rn x:H.u P_ x=F x:=Eq.trans (b:=u4 (uB x4) x) (by kernel_rfl) (by simp only[e4]<;>rfl)
def c:Con:=⟨H.p,H.r,F⟩
theorem ok:ConOk P_ gl 102 c:=co H func102 .nil rn
end F102
namespace F99
abbrev R_:=(LB×Int×Int)
abbrev K_:=S->Option R_
def H:Hd:=⟨[.agg [Sb,Si],Si,Si],[.agg [Ob 5,Si],Si],(.seq .d (.seq .d (.seq .d (.seq .d (.cut [6,8] [] (.seq .d (.blk (.loop [2,3,6,8,9] [⟨8,[0],.own 5 (.int .u8)⟩] (.seq .d (.cut [2,3,6,8,9] [] (.blk (.seq .d (.keep [2,3,6,8,9,10,39,40,41,42,43] true))) .d))))) .d))))),⟨[(101,F101.c),(102,F102.c)],gl,false⟩,[(137,(.blk (.loop [0,1,2] [] (.seq .d (.blk (.cut [0,1,2] [] .d (.seq .d (.cut [0,1,2,7] [] .d .d))))))))],f99⟩
def t44(a:Int)(g:LB)(f b:Int)(k n:UInt64)(m h:Int)(u:LB):S:=⟨[(0,.ptr 0 []),(1,vq n),(2,vi m)],[.box 119 (.agg [.own 3,vi h]),.box 119 (.agg [vb g,vi f]),.box 119 (.agg [.nils,vi 0]),Ab 5 u],[[(2,vi a),(3,.ptr 1 []),(6,.ptr 2 []),(8,.ptr 0 []),(9,vi b),(10,vi (Du (64:Int) (Ah a b))),(39,.agg [vb g,vi f]),(40,vi b),(41,vi (Du (64:Int) (Ah a b))),(42,vq k),(43,vi (Du (64:Int) (Ah a b)))]]⟩
def z44(Gf:K_):Nat->S->Option R_:=H.i P_ [r,r,r,r,l,r,d,(lp Gf),r,l,d,r,(call 5 137),d]
def t27(a:Int)(g:LB)(f b o:Int)(p:LB):S:=⟨[(2,vi a),(3,.ptr 0 []),(6,.ptr 1 []),(8,.ptr 2 []),(9,vi b)],[.box 119 (.agg [vb g,vi f]),.box 119 (.agg [.nils,vi 0]),.box 119 (.agg [.own 3,vi o]),Ab 5 p],[]⟩
def z27:Nat->S->Option R_:=H.i P_ [r,r,r,r,l,r,d]
def x52(o:Int)(p:LB):Option R_:=H.e P_ [r,r,r,r,r] ⟨[(6,.ptr 0 []),(8,.ptr 1 [])],[.box 119 (.agg [.nils,vi 0]),.box 119 (.agg [.own 2,vi o]),Ab 5 p],[]⟩
def x50(Gf:K_)(a:Int)(g:LB)(f b h:Int)(u:LB):Option R_:=H.e P_ [r,r,r,r,l,r,d,(lp Gf),r,r] ⟨[(2,vi a),(3,.ptr 0 []),(6,.ptr 1 []),(8,.ptr 2 []),(9,vi b)],[.box 119 (.agg [vb g,vi f]),.box 119 (.agg [.nils,vi 0]),.box 119 (.agg [.own 3,vi h]),Ab 5 u],[]⟩
def x48(Gf VW:K_)(a b:Int)(g:LB)(f:Int)(k n:UInt64)(m h:Int)(w:LB):Option R_:=H.e P_ [r,r,r,r,l,r,d,(lp Gf),r,l,d,r,(call 5 137),d,(lp VW),r,d,r,r,r] ⟨[(0,.ptr 0 []),(1,vq n),(2,vi m),(7,vi (Du m (Ah (8:Int) (Di h (7:Int)))))],[.box 119 (.agg [.own 3,vi h]),.box 119 (.agg [vb g,vi f]),.box 119 (.agg [.nils,vi 0]),Ab 5 w],[[(2,vi a),(3,.ptr 1 []),(6,.ptr 2 []),(8,.ptr 0 []),(9,vi b),(10,vi (Du (64:Int) (Ah a b))),(39,.agg [vb g,vi f]),(40,vi b),(41,vi (Du (64:Int) (Ah a b))),(42,vq k),(43,vi (Du (64:Int) (Ah a b)))]]⟩
def x47(Gf VW:K_)(a b:Int)(g:LB)(f:Int)(k n:UInt64)(m h:Int)(v:LB):Option R_:=H.e P_ [r,r,r,r,l,r,d,(lp Gf),r,l,d,r,(call 5 137),d,(lp VW),r,d,r] ⟨[(0,.ptr 0 []),(1,vq n),(2,vi m)],[.box 119 (.agg [.own 3,vi h]),.box 119 (.agg [vb g,vi f]),.box 119 (.agg [.nils,vi 0]),Ab 5 v],[[(2,vi a),(3,.ptr 1 []),(6,.ptr 2 []),(8,.ptr 0 []),(9,vi b),(10,vi (Du (64:Int) (Ah a b))),(39,.agg [vb g,vi f]),(40,vi b),(41,vi (Du (64:Int) (Ah a b))),(42,vq k),(43,vi (Du (64:Int) (Ah a b)))]]⟩
def x44(Gf:K_)(a:Int)(g:LB)(f b:Int)(k n:UInt64)(m h:Int)(u:LB):Option R_:=H.e P_ [r,r,r,r,l,r,d,(lp Gf),r,l,d,r,(call 5 137),d] (t44 a g f b k n m h u)
def x27(a:Int)(g:LB)(f b o:Int)(p:LB):Option R_:=H.e P_ [r,r,r,r,l,r,d] (t27 a g f b o p)
theorem e52:x52=ZA:=by kernel_rfl
theorem e50(Gf:K_)(a:Int)(g:LB)(f:Int):x50 Gf a g f=NC (λb o p=>Gf (t27 a g f b o p)) a g f:=by kernel_rfl
theorem e48(Gf VW:K_)(a:Int)(g:LB)(f b:Int)(k:UInt64):x48 Gf VW a b g f k=aN (λn m h u=>VW (t44 a g f b k n m h u)) a b g f k:=by kernel_rfl
theorem e47(Gf VW:K_)(a:Int)(g:LB)(f b:Int)(k:UInt64):x47 Gf VW a b g f k=NN (λn m h u=>VW (t44 a g f b k n m h u)) a b g f k:=Eq.trans (b:=bN (x48 Gf VW a b g f k) a b g f k) (by kernel_rfl) (by simp only[e48]<;>rfl)
theorem i44(Gf:K_)(a:Int)(g:LB)(f b:Int)(k:UInt64):∀(q:Nat) (n:UInt64) (m h:Int) (u:LB),z44 Gf q (t44 a g f b k n m h u)=Nk (λb o p=>Gf (t27 a g f b o p)) a g f b k q n m h u:=
 ind (λ_ _ _ _=>by kernel_rfl) λq ih n m h u=>Eq.trans (b:=NK (x47 Gf (z44 Gf q) a b g f k) (x50 Gf a g f) a g f b k n m h u) (by kernel_rfl) (by simp only[e47,e50,ih]<;>rfl)
theorem e44(Gf:K_)(a:Int)(g:LB)(f:Int):x44 Gf a g f=aQ (λb o p=>Gf (t27 a g f b o p)) a g f:=by funext b k n m h u;exact Eq.trans (by kernel_rfl) ((i44 Gf a g f b k Cy n m h u).trans (by rw[Az];rfl))
theorem i27(a:Int)(g:LB)(f:Int):∀(q:Nat) (b o:Int) (p:LB),z27 q (t27 a g f b o p)=Vm a g f q b o p:=
 ind (λ_ _ _=>by kernel_rfl) λq ih b o p=>Eq.trans (b:=aO (x44 (z27 q) a g f) x52 a g f b o p) (by kernel_rfl) (by simp only[e44,e52,ih]<;>rfl)
theorem e27:x27=YK:=by funext a g f b o p;exact Eq.trans (by kernel_rfl) ((i27 a g f Cy b o p).trans (by rw[Az];rfl))
def F:=u4 gL
theorem rn x:H.u P_ x=F x:=Eq.trans (b:=u4 (gV x27) x) (by kernel_rfl) (by simp only[e27]<;>rfl)
def c:Con:=⟨H.p,H.r,F⟩
theorem ok:ConOk P_ gl 99 c:=cr H func99 (.cons F101.ok (.cons F102.ok .nil)) (Fa.cons ent137 Fa.nil) rn
end F99
namespace F63
def H:Hd:=⟨[.agg [Sb,Si],Si,Si],[Sq,Si],.d,⟨[(101,F101.c),(102,F102.c)],gl,false⟩,[],f63⟩
def F:=u4 DJ
theorem rn x:H.u P_ x=F x:=by kernel_rfl
def c:Con:=⟨H.p,H.r,F⟩
theorem ok:ConOk P_ gl 63 c:=co H func63 (.cons F101.ok (.cons F102.ok .nil)) rn
end F63
namespace F173
def H:Hd:=⟨[Sq],[Si],.d,⟨[],gl,false⟩,[],f173⟩
def F:=Fx
theorem rn x:H.u P_ x=F x:=by kernel_rfl
def c:Con:=⟨H.p,H.r,F⟩
theorem ok:ConOk P_ gl 173 c:=co H func173 .nil rn
end F173
namespace F160
def SH(j6:Int->UInt64->Int->LB->Int->Option (Int×Int×Int))(g:LB)(b a:Int):Option (Int×Int×Int):=
(Hr g b).bind λm=>
if(Bm m 0)then
some (0,0,m)
else
if(Cc a 0)then
some (0,0,2)
else
if(Ll a b)then
some (0,0,24)
else
(λn:Option (Int×Int×Int)=>
(λo:Option (Int×Int×Int)=>
bo2 (
o)) (
bo (
n))) (
(DJ g b a (Du 48 (Ah b a))).bind λ(k,h)=>
j6 h k a g b)
theorem oL: @SH= @Xw:=by
  unfold SH Xw;simp only[vK,dT,iF]
abbrev R_:=(Int×Int×Int)
def H:Hd:=⟨[.agg [Sb,Si],Si],[Si,Si,Si],(.seq .d (.seq .d (.seq .d (.seq .d (.seq .d (.cut [3,5,6,8,9] [] (.keep [2,3,5,6,8,9,22,23,24,25,26,27,28,29] false) (.seq .d (.seq .d (.cut [] [] (.blk (.seq (.blk (.seq (.blk (.cut [] [] (.cut [3,4,5] [] (.cut [3,4,5,36] [] (.keep [3,4,5,8,36,37,38,39,40] true) .d) .d) .d)) .d)) .d)) .d))))))))),⟨[(63,F63.c),(101,F101.c),(173,F173.c)],gl,false⟩,[(172,.d)],f160⟩
def x10:Option R_:=H.e P_ [r,r,r,r,r,r,r,r,r] ⟨[],[],[]⟩
def x9:Option R_:=H.e P_ [r,r,r,r,r,r,r,r,l,d,l,d,l,d,r] ⟨[],[],[]⟩
def x8(f a:Int):Option R_:=H.e P_ [r,r,r,r,r,r,r,r,l,d,l,d,l,d,l,r] ⟨[(3,.ptr 0 []),(4,vi f),(5,vi 0)],[.box 3 (vi a)],[]⟩
def x7(f b a:Int):Option R_:=H.e P_ [r,r,r,r,r,r,r,r,l,d,l,d,l,d,l,l,r] ⟨[(3,.ptr 0 []),(4,vi f),(5,vi 0),(36,vt (Cc f (Du (48:Int) (Ah b a))))],[.box 3 (vi a)],[]⟩
def x6(h:Int)(k:UInt64)(a:Int)(g:LB)(b:Int):Option R_:=H.e P_ [r,r,r,r,r,r] ⟨[(3,.ptr 0 []),(5,vi 0),(6,vi h),(8,.fn 172 [.ptr 1 [],.ptr 0 []]),(9,vq k)],[.box 3 (vi a),.box 119 (.agg [vb g,vi b])],[]⟩
theorem e10:x10=fU:=by kernel_rfl
theorem e9:x9=lP:=Eq.trans (b:=mH x10) (by kernel_rfl) (by simp only[e10]<;>rfl)
theorem e8:x8=VB:=Eq.trans (b:=US x9) (by kernel_rfl) (by simp only[e9]<;>rfl)
theorem e7:x7=VH:=Eq.trans (b:=UW x8) (by kernel_rfl) (by simp only[e8]<;>rfl)
theorem e6:x6=UP:=Eq.trans (b:=VE x7) (by kernel_rfl) (by simp only[e7]<;>rfl)
def F:=u3 HA
theorem rn x:H.u P_ x=F x:=Eq.trans (b:=u3 (SH x6) x) (by kernel_rfl) (by unfold F;rw[oL];simp only[e6]<;>rfl)
def c:Con:=⟨H.p,H.r,F⟩
theorem ok:ConOk P_ gl 160 c:=cr H func160 (.cons F63.ok (.cons F101.ok (.cons F173.ok .nil))) (Fa.cons ent172 Fa.nil) rn
end F160
namespace F138
abbrev R_:=(UInt32×Int×Int)
def H:Hd:=⟨[.agg [Sb,Si],Si,Si],[Su,Si,Si],(.seq .d (.seq .d (.seq .d (.seq .d (.seq .d (.seq .d (.cut [2,3,7,10,11] [] .d .d))))))),⟨[(63,F63.c),(101,F101.c),(155,F155.c),(160,F160.c)],gl,false⟩,[],f138⟩
def x2(a b f:Int)(g:LB)(h k:Int):Option R_:=H.e P_ [r,r,r,r,r,r,r] ⟨[(2,vi a),(3,.ptr 0 []),(7,vi b),(10,vi f),(11,vi k)],[.box 119 (.agg [vb g,vi h])],[]⟩
theorem e2:x2=NT:=by kernel_rfl
def F:=u4 kH
theorem rn x:H.u P_ x=F x:=Eq.trans (b:=u4 (aE x2) x) (by kernel_rfl) (by simp only[e2]<;>rfl)
def c:Con:=⟨H.p,H.r,F⟩
theorem ok:ConOk P_ gl 138 c:=co H func138 (.cons F63.ok (.cons F101.ok (.cons F155.ok (.cons F160.ok .nil)))) rn
end F138
namespace F100
abbrev R_:=(UInt32×Int×Int×Int×UInt64×UInt64×Int)
def H:Hd:=⟨[.agg [Sb,Si],Si,.agg [Si,Si,Sq,Sq]],[Su,Si,.agg [Si,Si,Sq,Sq],Si],(.seq .d (.cut [1,3,5,8] [] .d (.seq .d (.seq .d (.cut [5,6,7,8] [] .d (.cut [5,6,7,8] [] (.keep [5,6,7,8,81] true) .d)))))),⟨[(63,F63.c),(101,F101.c),(125,F125.c),(126,F126.c),(138,F138.c)],gl,false⟩,[(129,(.seq .d (.seq .d (.seq .d (.blk (.cut [0,1,4] [] (.blk (.seq .d (.keep [0,1,4,6,18,19,20,21,22,23,24,25] true))) (.cut [] [] (.keep [0,1,4,27,28,29,30,31,32,33,34] true) .d))))))),(157,.d)],f100⟩
def x10(f:UInt32)(k w m:Int)(a n:UInt64):Option R_:=H.e P_ [r,r,r,r,r,r] ⟨[(5,.ptr 0 []),(6,vu f),(7,vi k),(8,.ptr 1 [])],[.box 153 (.agg [vi w,vi m,vq (Ae a (Ah (Ad f:UInt64) (Bt a (GI.toZ (4:UInt64)).toNat))),vq n]),.box 153 (.agg [vi 0,vi 0,vq 0,vq 0])],[]⟩
def x9(f:UInt32)(k m:Int)(a n:UInt64)(w:Int):Option R_:=H.e P_ [r,r,r,r,r,l,(call 1 129),r,r,r,d,r,r] ⟨[],[.box 153 (.agg [vi w,vi m,vq (Ae a (Ah (Ad f:UInt64) (Bt a (GI.toZ (4:UInt64)).toNat))),vq n]),.box 153 (.agg [vi 0,vi 0,vq 0,vq 0])],[[(5,.ptr 0 []),(6,vu f),(7,vi k),(8,.ptr 1 []),(81,vu f)]]⟩
def x8(f:UInt32)(k b:Int)(a:UInt64)(m:Int)(n:UInt64):Option R_:=H.e P_ [r,r,r,r,r,l,(call 1 129),r,r,r,d,r] ⟨[(0,.ptr 0 []),(1,vu f),(4,.fn 157 [])],[.box 153 (.agg [vi b,vi m,vq a,vq n]),.box 153 (.agg [vi 0,vi 0,vq 0,vq 0])],[[(5,.ptr 0 []),(6,vu f),(7,vi k),(8,.ptr 1 []),(81,vu f)]]⟩
def x7(b h:Int)(a g:UInt64)(f:UInt32)(k:Int):Option R_:=H.e P_ [r,r,r,r,r] ⟨[(5,.ptr 0 []),(6,vu f),(7,vi k),(8,.ptr 1 [])],[.box 153 (.agg [vi b,vi h,vq a,vq g]),.box 153 (.agg [vi 0,vi 0,vq 0,vq 0])],[]⟩
def x6(p:Int)(u:LB)(v b h:Int)(a g:UInt64):Option R_:=H.e P_ [r,r] ⟨[(1,vi p),(3,.ptr 0 []),(5,.ptr 1 []),(8,.ptr 2 [])],[.box 119 (.agg [vb u,vi v]),.box 153 (.agg [vi b,vi h,vq a,vq g]),.box 153 (.agg [vi 0,vi 0,vq 0,vq 0])],[]⟩
theorem e10:x10=UT:=by kernel_rfl
theorem e9:x9=YO:=Eq.trans (b:=aT x10) (by kernel_rfl) (by simp only[e10]<;>rfl)
theorem e8:x8=EB:=Eq.trans (b:=bH x9) (by kernel_rfl) (by simp only[e9]<;>rfl)
theorem e7:x7=NJ:=Eq.trans (b:=ZB x8) (by kernel_rfl) (by simp only[e8]<;>rfl)
theorem e6:x6=bL:=Eq.trans (b:=ZH x7) (by kernel_rfl) (by simp only[e7]<;>rfl)
def F:=u7 GQ
theorem rn x:H.u P_ x=F x:=Eq.trans (b:=u7 (bQ x6) x) (by kernel_rfl) (by simp only[e6]<;>rfl)
def c:Con:=⟨H.p,H.r,F⟩
theorem ok:ConOk P_ gl 100 c:=cr H func100 (.cons F63.ok (.cons F101.ok (.cons F125.ok (.cons F126.ok (.cons F138.ok .nil))))) (Fa.cons ent129 (Fa.cons ent157 Fa.nil)) rn
end F100
namespace F62
def Wm(j21:Int->Int->Int->UInt32->Int-> (List (Int×Int×UInt64×UInt64×Unit))->LU->Int->Int->UInt64->UInt64->Option (LU×Int×Int))(j24:Int->LU->Option (LU×Int×Int))(a f:Int)(g:LB)(b k h:Int)(n:List (Int×Int×UInt64×UInt64×Unit))(m:LU):Option (LU×Int×Int):=
if(Cc h (Bd f a))then
(gL g b k (Du (Ae k 81) b)).bind λ(ah,ae,af)=>
if(Bm af 0)then
some (([]:LU),0,af)
else
(Ik (Bm a 0)).bind λ_=>
(Aj n (Gc h a)).bind λ_=>
(λai:Option (LU×Int×Int)=>
both (
both (
(Aj n (Gc h a)).bind λp=>
(λao:Option (LU×Int×Int)=>
bo (
ao)) (
(GQ ah ae 0 p.1 p.2.1 p.2.2.1 p.2.2.2.1).bind λ(w,v,aa,ab,ac,ad,y)=>
j21 k h y w v n m aa ab ac ad)) [
ai]) [
(Aj n (Gc h a)).bind λp=>
(λaj:Option (LU×Int×Int)=>
both (
bo (
aj)) [
aj]) (
(GQ ah ae 0 p.1 p.2.1 p.2.2.1 p.2.2.2.1).bind λ(w,v,aa,ab,ac,ad,y)=>
j21 k h y w v n m aa ab ac ad),
bo (
ai)]) (
(Aj n (Gc h a)).bind λp=>
(GQ ah ae 0 p.1 p.2.1 p.2.2.1 p.2.2.2.1).bind λ(w,v,aa,ab,ac,ad,y)=>
j21 k h y w v n m aa ab ac ad)
else
j24 k m
theorem bI: @Wm= @Rp:=by
  unfold Wm Rp
  try simp only[vK,dT,iF]
  all_goals
    repeat (refine funext λ_=>?_)
    repeat' first
      |with_reducible rfl
      |with_reducible refine Xq ?_ ?_
      |with_reducible refine Xg ?_ ?_ ?_
      |with_reducible refine Xu ?_ ?_ ?_ ?_
      |((with_reducible refine HZ ?_ ?_);focus (intro h;first|(subst h;rfl)|(simp only[h];rfl)|(simp[Db,Ac,h];done)))
      |with_reducible refine HK λx=>?_
      |with_reducible refine UN (λ_=>?_) (λ_=>?_)
      |(refine Nu (λh=>by simp only[h,HS,Jv,Jj,ite_self]) (λx h=>?_);(try simp only[h,Jv]))
      |(refine Sj (λh=>?_) (λh=>?_)<;>simp only[h,if_true,if_false,Bool.false_eq_true])
abbrev R_:=(LU×Int×Int)
abbrev K_:=S->Option R_
def H:Hd:=⟨[Si,Si,.agg [Sb,Si]],[Ov 101,Si,Si],(.seq .d (.seq .d (.cut [0,1,5,9] [] (.seq .d (.blk (.loop [0,1,5,9,19] [] .d))) (.seq .d (.seq .d (.cut [11,12] [] (.seq .d (.blk (.loop [0,5,9,11,12,28,29] [⟨11,[],.own 101 (.int .u32)⟩] (.seq .d (.seq .d (.seq (.blk (.seq .d (.seq .d (.seq .d (.cut [0,5,9,11,12,13,15,16,17,18,28,29] [] (.mode false) (.seq .d (.cut [0,5,9,11,12,16,28,29] [] .d .d))))))) .d)))))) .d)))))),⟨[(98,F98.c),(99,F99.c),(100,F100.c)],gl,false⟩,[],f62⟩
def t16(a f:Int)(g:LB)(b k h:Int)(n:List (Int×Int×UInt64×UInt64×Unit))(m:LU):S:=⟨[(0,vi a),(5,.ptr 0 []),(9,.ptr 1 []),(11,.own 2),(12,vi k),(28,vi (Bd f a)),(29,vi h)],[.box 119 (.agg [vb g,vi b]),.box 154 (.val (.vec 6 (.cons (.int .i64) (.cons (.int .i64) (.cons (.int .u64) (.cons (.int .u64) .nil))))) n),Av 101 m],[]⟩
def z16:Nat->S->Option R_:=H.i P_ [r,r,r,r,r,l,r,d]
def t13(a f:Int)(g:LB)(b u:Int)(o:List (Int×Int×UInt64×UInt64×Unit)):S:=⟨[(0,vi a),(1,vi f),(5,.ptr 0 []),(9,.ptr 1 []),(19,vi u)],[.box 119 (.agg [vb g,vi b]),.box 154 (.val (.vec 6 (.cons (.int .i64) (.cons (.int .i64) (.cons (.int .u64) (.cons (.int .u64) .nil))))) o)],[]⟩
def z13:Nat->S->Option R_:=H.i P_ [r,r,l,r,d]
def x24(k:Int)(m:LU):Option R_:=H.e P_ [r,r,r,r,r,r] ⟨[(11,.own 0),(12,vi k)],[Av 101 m],[]⟩
def x22(Dr:K_)(a f:Int)(g:LB)(b k v:Int)(w:UInt32)(h:Int)(ag:List (Int×Int×UInt64×UInt64×Unit))(m:LU):Option R_:=H.e P_ [r,r,r,r,r,l,r,d,(lp Dr),r,r,l,d,r,r,r,r,r,r] ⟨[(0,vi a),(5,.ptr 0 []),(9,.ptr 1 []),(11,.own 2),(12,vi (Ae k v)),(16,vu w),(28,vi (Bd f a)),(29,vi h)],[.box 119 (.agg [vb g,vi b]),.box 154 (.val (.vec 6 (.cons (.int .i64) (.cons (.int .i64) (.cons (.int .u64) (.cons (.int .u64) .nil))))) ag),Av 101 m],[]⟩
def x21(Dr:K_)(a f:Int)(g:LB)(b k h y:Int)(w:UInt32)(v:Int)(n:List (Int×Int×UInt64×UInt64×Unit))(m:LU)(aa ab:Int)(ac ad:UInt64):Option R_:=H.e P_ [r,r,r,r,r,l,r,d,(lp Dr),r,r,l,d,r,r,r,r] ⟨[(0,vi a),(5,.ptr 0 []),(9,.ptr 1 []),(11,.own 2),(12,vi k),(13,vi h),(15,vi y),(16,vu w),(17,vi v),(18,.ptr 3 []),(28,vi (Bd f a)),(29,vi h)],[.box 119 (.agg [vb g,vi b]),.box 154 (.val (.vec 6 (.cons (.int .i64) (.cons (.int .i64) (.cons (.int .u64) (.cons (.int .u64) .nil))))) n),Av 101 m,.box 153 (.agg [vi aa,vi ab,vq ac,vq ad])],[]⟩
def x16(a f:Int)(g:LB)(b k h:Int)(n:List (Int×Int×UInt64×UInt64×Unit))(m:LU):Option R_:=H.e P_ [r,r,r,r,r,l,r,d] (t16 a f g b k h n m)
def x15(a f:Int)(g:LB)(b:Int)(o:List (Int×Int×UInt64×UInt64×Unit)):Option R_:=H.e P_ [r,r,r] ⟨[(0,vi a),(1,vi f),(5,.ptr 0 []),(9,.ptr 1 [])],[.box 119 (.agg [vb g,vi b]),.box 154 (.val (.vec 6 (.cons (.int .i64) (.cons (.int .i64) (.cons (.int .u64) (.cons (.int .u64) .nil))))) o)],[]⟩
def x13(a f:Int)(g:LB)(b u:Int)(o:List (Int×Int×UInt64×UInt64×Unit)):Option R_:=H.e P_ [r,r,l,r,d] (t13 a f g b u o)
theorem e24:x24=RJ:=by kernel_rfl
theorem e22(Dr:K_)(a f:Int)(g:LB)(b:Int):x22 Dr a f g b=Yo (λk h n m=>Dr (t16 a f g b k h n m)) a f g b:=by kernel_rfl
theorem e21(Dr:K_)(a f:Int)(g:LB)(b:Int):x21 Dr a f g b=Qz (λk h n m=>Dr (t16 a f g b k h n m)) a f g b:=Eq.trans (b:=Qy (x22 Dr a f g b) a f g b) (by kernel_rfl) (by simp only[e22]<;>rfl)
theorem i16(a f:Int)(g:LB)(b:Int):∀(q:Nat) (k h:Int) (n:List (Int×Int×UInt64×UInt64×Unit)) (m:LU),z16 q (t16 a f g b k h n m)=Lo a f g b q k h n m:=
 ind (λ_ _ _ _=>by kernel_rfl) λq ih k h n m=>Eq.trans (b:=Wm (x21 (z16 q) a f g b) x24 a f g b k h n m) (by kernel_rfl) (by rw[bI];simp only[e21,e24,ih]<;>rfl)
theorem e16:x16=RZ:=by funext a f g b k h n m;exact Eq.trans (by kernel_rfl) ((i16 a f g b Cy k h n m).trans (by rw[Az];rfl))
theorem e15:x15=Yl:=Eq.trans (b:=OH x16) (by kernel_rfl) (by simp only[e16]<;>rfl)
theorem i13(a f:Int)(g:LB)(b:Int):∀(q:Nat) (u:Int) (o:List (Int×Int×UInt64×UInt64×Unit)),z13 q (t13 a f g b u o)=Yq a f g b q u o:=
 ind (λ_ _=>by kernel_rfl) λq ih u o=>Eq.trans (b:=OR x15 (λu o=>(z13 q) (t13 a f g b u o)) a f g b u o) (by kernel_rfl) (by simp only[e15,ih]<;>rfl)
theorem e13:x13=Rq:=by funext a f g b u o;exact Eq.trans (by kernel_rfl) ((i13 a f g b Cy u o).trans (by rw[Az];rfl))
def F:=u4 CV
theorem rn x:H.u P_ x=F x:=Eq.trans (b:=u4 (CU x13) x) (by kernel_rfl) (by simp only[e13]<;>rfl)
def c:Con:=⟨H.p,H.r,F⟩
theorem ok:ConOk P_ gl 62 c:=co H func62 (.cons F98.ok (.cons F99.ok (.cons F100.ok .nil))) rn
end F62
namespace F105
def H:Hd:=⟨[Su],[Sx],.d,⟨[],gl,false⟩,[],f105⟩
def F:=Vv
theorem rn x:H.u P_ x=F x:=by kernel_rfl
def c:Con:=⟨H.p,H.r,F⟩
theorem ok:ConOk P_ gl 105 c:=co H func105 .nil rn
end F105
namespace F142
def H:Hd:=⟨[.agg [Si,.lf (.vec 16 (.int .i32)) none,.lf (.vec 16 (.int .i32)) none],Sx],[Sx,.agg [Si,.lf (.vec 16 (.int .i32)) none,.lf (.vec 16 (.int .i32)) none],Si],.d,⟨[(163,F163.c),(164,F164.c)],gl,false⟩,[],f142⟩
def F:=u4 jA
theorem rn x:H.u P_ x=F x:=by kernel_rfl
def c:Con:=⟨H.p,H.r,F⟩
theorem ok:ConOk P_ gl 142 c:=co H func142 (.cons F163.ok (.cons F164.ok .nil)) rn
end F142
namespace F104
def PX(a:Int)(b:Int32)(f:Int)(g h:LX)(o:Int32):Option (Int32×Int×Int32×Int×LX×LX×Int):=
(Um a b f g h).bind λk=>
if(Bm k 0)then
some (0,0,0,0,(List.replicate 16 (0:Int32)),(List.replicate 16 (0:Int32)),k)
else
(Uo a b).bind λ(m,y)=>
(jA f g h o).bind λ(n,p,u,v,w)=>
(λaa:Option (Int32×Int×Int32×Int×LX×LX×Int)=>
bo (
aa)) (
some ((Ae n m),a,(Ae n m),p,u,v,w))
theorem pF: @PX= @Kk:=by
  unfold PX Kk;simp only[vK,dT,iF]
def H:Hd:=⟨[.agg [Si,Sx,.agg [Si,.lf (.vec 16 (.int .i32)) none,.lf (.vec 16 (.int .i32)) none]],Sx],[Sx,.agg [Si,Sx,.agg [Si,.lf (.vec 16 (.int .i32)) none,.lf (.vec 16 (.int .i32)) none]],Si],(.seq .d (.seq .d (.seq .d (.seq .d (.seq (.mode false) .d))))),⟨[(140,F140.c),(141,F141.c),(142,F142.c)],gl,false⟩,[],f104⟩
def F:=u6 Kk
theorem rn x:H.u P_ x=F x:=Eq.trans (b:=u6 PX x) (by kernel_rfl) (by rw[pF];rfl)
def c:Con:=⟨H.p,H.r,F⟩
theorem ok:ConOk P_ gl 104 c:=co H func104 (.cons F140.ok (.cons F141.ok (.cons F142.ok .nil))) rn
end F104
namespace F106
abbrev R_:=(LX×Int)
abbrev K_:=S->Option R_
def H:Hd:=⟨[Si,Sw],[Ow 21,Si],(.seq .d (.seq .d (.seq .d (.cut [7] [] (.seq .d (.blk (.loop [0,7,8] [] (.seq .d (.cut [0,7,8] [] (.blk (.keep [0,7,8,24,25,26,27,28,29] true)) .d))))) .d)))),⟨[(143,F143.c),(144,F144.c)],gl,true⟩,[(145,(.seq .d (.cut [0,2] [] .d (.seq .d (.blk (.loop [0,3] [] .d))))))],f106⟩
def t18(b a g:Int)(h:LX):S:=⟨[(0,.view true 0 [] (.int .i32) a ((Ae a b)-a)),(3,vi g)],[Aw 21 h],[[(0,vi b),(7,.own 0),(8,vi a),(24,.own 0),(25,vi a),(26,vi a),(27,vi b),(28,vi (Ae a b)),(29,.view true 0 [] (.int .i32) a ((Ae a b)-a))]]⟩
def z18(Mj:K_):Nat->S->Option R_:=H.i P_ [r,r,r,l,r,d,(lp Mj),r,l,d,(call 6 145),r,r,r,d]
def t12(b a:Int)(f:LX):S:=⟨[(0,vi b),(7,.own 0),(8,vi a)],[Aw 21 f],[]⟩
def z12:Nat->S->Option R_:=H.i P_ [r,r,r,l,r,d]
def x22(f:LX):Option R_:=H.e P_ [r,r,r,r] ⟨[(7,.own 0)],[Aw 21 f],[]⟩
def x20(Mj:K_)(b a:Int)(h:LX):Option R_:=H.e P_ [r,r,r,l,r,d,(lp Mj),r,r] ⟨[(0,vi b),(7,.own 0),(8,vi a)],[Aw 21 h],[]⟩
def x18(Mj:K_)(b a g:Int)(h:LX):Option R_:=H.e P_ [r,r,r,l,r,d,(lp Mj),r,l,d,(call 6 145),r,r,r,d] (t18 b a g h)
def x17(Mj:K_)(b a:Int)(k:LX):Option R_:=H.e P_ [r,r,r,l,r,d,(lp Mj),r,l,d,(call 6 145),r,r] ⟨[(0,.view true 0 [] (.int .i32) a ((Ae a b)-a)),(2,vi (Ah ((Ae a b)-a) (1:Int)))],[Aw 21 k],[[(0,vi b),(7,.own 0),(8,vi a),(24,.own 0),(25,vi a),(26,vi a),(27,vi b),(28,vi (Ae a b)),(29,.view true 0 [] (.int .i32) a ((Ae a b)-a))]]⟩
def x12(b a:Int)(f:LX):Option R_:=H.e P_ [r,r,r,l,r,d] (t12 b a f)
theorem e22:x22=oZ:=by kernel_rfl
theorem e20(Mj:K_)(b:Int):x20 Mj b=aB (λa f=>Mj (t12 b a f)) b:=by kernel_rfl
theorem i18(Mj:K_)(b a:Int):∀(q:Nat) (g:Int) (h:LX),z18 Mj q (t18 b a g h)=Vu (λa f=>Mj (t12 b a f)) b a q g h:=
 ind (λ_ _=>by kernel_rfl) λq ih g h=>Eq.trans (b:=NG (x20 Mj b) (λg h=>(z18 Mj q) (t18 b a g h)) b a g h) (by kernel_rfl) (by simp only[e20,ih]<;>rfl)
theorem e18(Mj:K_)(b:Int):x18 Mj b=YZ (λa f=>Mj (t12 b a f)) b:=by funext a g h;exact Eq.trans (by kernel_rfl) ((i18 Mj b a Cy g h).trans (by rw[Az];rfl))
theorem e17(Mj:K_)(b:Int):x17 Mj b=NS (λa f=>Mj (t12 b a f)) b:=Eq.trans (b:=YM (x18 Mj b) b) (by kernel_rfl) (by simp only[e18]<;>rfl)
theorem i12(b:Int):∀(q:Nat) (a:Int) (f:LX),z12 q (t12 b a f)=Rb b q a f:=
 ind (λ_ _=>by kernel_rfl) λq ih a f=>Eq.trans (b:=YU (x17 (z12 q) b) x22 b a f) (by kernel_rfl) (by simp only[e17,e22,ih]<;>rfl)
theorem e12:x12=aI:=by funext b a f;exact Eq.trans (by kernel_rfl) ((i12 b Cy a f).trans (by rw[Az];rfl))
def F:=u2 pK
theorem rn x:H.u P_ x=F x:=Eq.trans (b:=u2 (jE x12) x) (by kernel_rfl) (by simp only[e12]<;>rfl)
def c:Con:=⟨H.p,H.r,F⟩
theorem ok:ConOk P_ gl 106 c:=cr H func106 (.cons F143.ok (.cons F144.ok .nil)) (Fa.cons ent145 Fa.nil) rn
end F106
namespace F64
def Uv(j16:Int->Int32->Int-> (List (Int×Int32×(Int×LX×LX×Unit)×Unit))->LX->Int->Int32->Int->LX->LX->Option (LX×Int))(j18:Int->Int->LX->Option (LX×Int))(f:LU)(a b g:Int)(h:List (Int×Int32×(Int×LX×LX×Unit)×Unit))(k:LX):Option (LX×Int):=
if(Cc g (Ac f))then
(Aj f g).bind λag=>
(Ik (Bm a 0)).bind λ_=>
(Aj h (Gc g a)).bind λ_=>
both (
(Aj h (Gc g a)).bind λm=>
both (
(Vv ag).bind λae=>
(λao:Option (LX×Int)=>
bo (
ao)) (
(Kk m.1 m.2.1 m.2.2.1.1 m.2.2.1.2.1 m.2.2.1.2.2.1 ae).bind λ(w,y,v,aa,ab,ac,u)=>
j16 g w u h k y v aa ab ac)) [
(Vv ag).bind λae=>
(Kk m.1 m.2.1 m.2.2.1.1 m.2.2.1.2.1 m.2.2.1.2.2.1 ae).bind λ(w,y,v,aa,ab,ac,u)=>
j16 g w u h k y v aa ab ac]) [
(Vv ag).bind λaf=>
both (
(Aj h (Gc g a)).bind λad=>
(λap:Option (LX×Int)=>
bo (
ap)) (
(Kk ad.1 ad.2.1 ad.2.2.1.1 ad.2.2.1.2.1 ad.2.2.1.2.2.1 af).bind λ(w,y,v,aa,ab,ac,u)=>
j16 g w u h k y v aa ab ac)) [
(Aj h (Gc g a)).bind λad=>
(Kk ad.1 ad.2.1 ad.2.2.1.1 ad.2.2.1.2.1 ad.2.2.1.2.2.1 af).bind λ(w,y,v,aa,ab,ac,u)=>
j16 g w u h k y v aa ab ac],
both (
(Aj h (Gc g a)).bind λm=>
(Vv ag).bind λae=>
(Kk m.1 m.2.1 m.2.2.1.1 m.2.2.1.2.1 m.2.2.1.2.2.1 ae).bind λ(w,y,v,aa,ab,ac,u)=>
j16 g w u h k y v aa ab ac) [
(Vv ag).bind λaf=>
(Aj h (Gc g a)).bind λad=>
(Kk ad.1 ad.2.1 ad.2.2.1.1 ad.2.2.1.2.1 ad.2.2.1.2.2.1 af).bind λ(w,y,v,aa,ab,ac,u)=>
j16 g w u h k y v aa ab ac]]
else
j18 a b k
theorem WA: @Uv= @Kq:=by
  unfold Uv Kq
  try simp only[vK,dT,iF]
  all_goals
    repeat (refine funext λ_=>?_)
    repeat' first
      |with_reducible rfl
      |with_reducible refine Xq ?_ ?_
      |with_reducible refine Xg ?_ ?_ ?_
      |with_reducible refine Xu ?_ ?_ ?_ ?_
      |((with_reducible refine HZ ?_ ?_);focus (intro h;first|(subst h;rfl)|(simp only[h];rfl)|(simp[Db,Ac,h];done)))
      |with_reducible refine HK λx=>?_
      |with_reducible refine UN (λ_=>?_) (λ_=>?_)
      |(refine Nu (λh=>by simp only[h,HS,Jv,Jj,ite_self]) (λx h=>?_);(try simp only[h,Jv]))
      |(refine Sj (λh=>?_) (λh=>?_)<;>simp only[h,if_true,if_false,Bool.false_eq_true])
abbrev R_:=(LX×Int)
abbrev K_:=S->Option R_
def H:Hd:=⟨[.agg [Si,Si],.lf (.vec 16 (.int .i32)) none,Sv],[Ow 21,Si],(.seq .d (.seq .d (.cut [2,3,8] [] (.seq .d (.blk (.loop [2,3,4,8,20] [] .d))) (.seq .d (.cut [3,10] [] (.seq .d (.blk (.loop [3,8,10,33,34,35] [⟨10,[],.own 21 (.int .i32)⟩] (.seq .d (.seq .d (.seq (.blk (.seq .d (.seq .d (.cut [3,8,10,13,14,15,16,33,34,35] [] (.mode false) .d)))) .d)))))) .d))))),⟨[(68,F68.c),(103,F103.c),(104,F104.c),(105,F105.c),(106,F106.c)],gl,false⟩,[],f64⟩
def t13(f:LU)(a b g:Int)(h:List (Int×Int32×(Int×LX×LX×Unit)×Unit))(k:LX):S:=⟨[(3,.ptr 0 []),(8,.ptr 1 []),(10,.own 2),(33,vv f),(34,vi (Ac f)),(35,vi g)],[.box 48 (.agg [vi a,vi b]),.box 183 (.val (.vec 6 (.cons (.int .i64) (.cons (.int .i32) (.cons (.cons (.int .i64) (.cons (.vec 16 (.int .i32)) (.cons (.vec 16 (.int .i32)) .nil))) .nil)))) h),Aw 21 k],[]⟩
def z13:Nat->S->Option R_:=H.i P_ [r,r,r,r,l,r,d]
def t10(f:LU)(a b:Int)(o:LX)(p:Int)(n:List (Int×Int32×(Int×LX×LX×Unit)×Unit)):S:=⟨[(2,vv f),(3,.ptr 0 []),(4,.ptr 1 []),(8,.ptr 2 []),(20,vi p)],[.box 48 (.agg [vi a,vi b]),.box 71 (.val (.vec 16 (.int .i32)) o),.box 183 (.val (.vec 6 (.cons (.int .i64) (.cons (.int .i32) (.cons (.cons (.int .i64) (.cons (.vec 16 (.int .i32)) (.cons (.vec 16 (.int .i32)) .nil))) .nil)))) n)],[]⟩
def z10:Nat->S->Option R_:=H.i P_ [r,r,l,r,d]
def x18(a b:Int)(k:LX):Option R_:=H.e P_ [r,r,r,r,r] ⟨[(3,.ptr 0 []),(10,.own 1)],[.box 48 (.agg [vi a,vi b]),Aw 21 k],[]⟩
def x16(Ar3:K_)(a:Int)(f:LU)(b g:Int)(w:Int32)(u:Int)(h:List (Int×Int32×(Int×LX×LX×Unit)×Unit))(k:LX)(y:Int)(v:Int32)(aa:Int)(ab ac:LX):Option R_:=H.e P_ [r,r,r,r,l,r,d,(lp Ar3),r,r,l,d,r,r,r] ⟨[(3,.ptr 0 []),(8,.ptr 1 []),(10,.own 2),(13,.ptr 1 [.idx (Gc g a) 35]),(14,vx w),(15,.ptr 3 []),(16,vi u),(33,vv f),(34,vi (Ac f)),(35,vi g)],[.box 48 (.agg [vi a,vi b]),.box 183 (.val (.vec 6 (.cons (.int .i64) (.cons (.int .i32) (.cons (.cons (.int .i64) (.cons (.vec 16 (.int .i32)) (.cons (.vec 16 (.int .i32)) .nil))) .nil)))) h),Aw 21 k,.box 182 (.agg [vi y,vx v,.agg [vi aa,.val (.vec 16 (.int .i32)) ab,.val (.vec 16 (.int .i32)) ac]])],[]⟩
def x13(f:LU)(a b g:Int)(h:List (Int×Int32×(Int×LX×LX×Unit)×Unit))(k:LX):Option R_:=H.e P_ [r,r,r,r,l,r,d] (t13 f a b g h k)
def x12(f:LU)(a b:Int)(n:List (Int×Int32×(Int×LX×LX×Unit)×Unit)):Option R_:=H.e P_ [r,r,r] ⟨[(2,vv f),(3,.ptr 0 []),(8,.ptr 1 [])],[.box 48 (.agg [vi a,vi b]),.box 183 (.val (.vec 6 (.cons (.int .i64) (.cons (.int .i32) (.cons (.cons (.int .i64) (.cons (.vec 16 (.int .i32)) (.cons (.vec 16 (.int .i32)) .nil))) .nil)))) n)],[]⟩
def x10(f:LU)(a b:Int)(o:LX)(p:Int)(n:List (Int×Int32×(Int×LX×LX×Unit)×Unit)):Option R_:=H.e P_ [r,r,l,r,d] (t10 f a b o p n)
theorem e18:x18=Kr:=by kernel_rfl
theorem e16(Ar3:K_)(f:LU)(a b:Int):x16 Ar3 a f b=Wr (λg h k=>Ar3 (t13 f a b g h k)) a f b:=by kernel_rfl
theorem i13(f:LU)(a b:Int):∀(q:Nat) (g:Int) (h:List (Int×Int32×(Int×LX×LX×Unit)×Unit)) (k:LX),z13 q (t13 f a b g h k)=Hv f a b q g h k:=
 ind (λ_ _ _=>by kernel_rfl) λq ih g h k=>Eq.trans (b:=Uv (x16 (z13 q) a f b) x18 f a b g h k) (by kernel_rfl) (by rw[WA];simp only[e16,e18,ih]<;>rfl)
theorem e13:x13=NB:=by funext f a b g h k;exact Eq.trans (by kernel_rfl) ((i13 f a b Cy g h k).trans (by rw[Az];rfl))
theorem e12:x12=Xc:=Eq.trans (b:=MW x13) (by kernel_rfl) (by simp only[e13]<;>rfl)
theorem i10(f:LU)(a b:Int)(o:LX):∀(q:Nat) (p:Int) (n:List (Int×Int32×(Int×LX×LX×Unit)×Unit)),z10 q (t10 f a b o p n)=Wz f a b o q p n:=
 ind (λ_ _=>by kernel_rfl) λq ih p n=>Eq.trans (b:=MZ x12 (λp n=>(z10 q) (t10 f a b o p n)) f a b o p n) (by kernel_rfl) (by simp only[e12,ih]<;>rfl)
theorem e10:x10=Ox:=by funext f a b o p n;exact Eq.trans (by kernel_rfl) ((i10 f a b o Cy p n).trans (by rw[Az];rfl))
def F:=u4 Rv
theorem rn x:H.u P_ x=F x:=Eq.trans (b:=u4 (Zc x10) x) (by kernel_rfl) (by simp only[e10]<;>rfl)
def c:Con:=⟨H.p,H.r,F⟩
theorem ok:ConOk P_ gl 64 c:=co H func64 (.cons F68.ok (.cons F103.ok (.cons F104.ok (.cons F105.ok (.cons F106.ok .nil))))) rn
end F64
namespace F32
def H:Hd:=⟨[.agg [Si,Si],.lf (.vec 16 (.int .i32)) none,Si,Sb],[Ow 21,Si],.d,⟨[(59,F59.c),(60,F60.c),(61,F61.c),(62,F62.c),(63,F63.c),(64,F64.c)],gl,false⟩,[],f32⟩
def F:=u5 Lm
theorem rn x:H.u P_ x=F x:=by kernel_rfl
def c:Con:=⟨H.p,H.r,F⟩
theorem ok:ConOk P_ gl 32 c:=co H func32 (.cons F59.ok (.cons F60.ok (.cons F61.ok (.cons F62.ok (.cons F63.ok (.cons F64.ok .nil)))))) rn
end F32
namespace F66
abbrev R_:=(Int×Int)
def H:Hd:=⟨[Sb],[Si,Si],(.seq .d (.seq .d (.cut [0,4] [] .d .d))),⟨[(93,F93.c),(107,F107.c),(108,F108.c),(109,F109.c)],gl,false⟩,[],f66⟩
def x2(a:LB):Option R_:=H.e P_ [r,r,r] ⟨[(0,vb a),(4,vi (Ah (Ac a) (32:Int)))],[],[]⟩
theorem e2:x2=dV:=by kernel_rfl
def F:=pD
theorem rn x:H.u P_ x=F x:=Eq.trans (b:=gM x2 x) (by kernel_rfl) (by simp only[e2]<;>rfl)
def c:Con:=⟨H.p,H.r,F⟩
theorem ok:ConOk P_ gl 66 c:=co H func66 (.cons F93.ok (.cons F107.ok (.cons F108.ok (.cons F109.ok .nil)))) rn
end F66
namespace F33
abbrev R_:=(Int×Int)
abbrev K_:=S->Option R_
def H:Hd:=⟨[Sb],[Si,Si],(.seq .d (.seq .d (.seq .d (.seq .d (.cut [5] [] (.blk (.loop [1,4,5] [] (.seq .d (.cut [1,4,5] [] (.blk (.cut [1,4,5,6] [] (.keep [1,4,5,6,16,17] true) .d)) .d)))) .d))))),⟨[(66,F66.c)],gl,false⟩,[(65,.d)],f33⟩
def t8(a:Int)(b:LB):S:=⟨[(1,.ptr 0 []),(4,.fn 65 [.ptr 0 []]),(5,vi a)],[.box 28 (vb b)],[]⟩
def z8:Nat->S->Option R_:=H.i P_ [r,r,r,r,l,d]
def x14(a:Int):Option R_:=H.e P_ [r,r,r,r,r] ⟨[(5,vi a)],[],[]⟩
def x12(kn8:K_)(a:Int)(g:LB):Option R_:=H.e P_ [r,r,r,r,l,d,(lp kn8),r,r] ⟨[(1,.ptr 0 []),(4,.fn 65 [.ptr 0 []]),(5,vi a)],[.box 28 (vb g)],[]⟩
def x11(kn8:K_)(a f:Int)(b:LB):Option R_:=H.e P_ [r,r,r,r,l,d,(lp kn8),r,l,d,r] ⟨[(1,.ptr 0 []),(4,.fn 65 [.ptr 0 []]),(5,vi a),(6,vi f)],[.box 28 (vb b)],[]⟩
def x8(a:Int)(b:LB):Option R_:=H.e P_ [r,r,r,r,l,d] (t8 a b)
theorem e14:x14=XW:=by kernel_rfl
theorem e12(kn8:K_):x12 kn8=HJ (λa b=>kn8 (t8 a b)):=by kernel_rfl
theorem e11(kn8:K_):x11 kn8=GU (λa b=>kn8 (t8 a b)):=Eq.trans (b:=HH (x12 kn8)) (by kernel_rfl) (by simp only[e12]<;>rfl)
theorem i8:∀(q:Nat) (a:Int) (b:LB),z8 q (t8 a b)=Ru q a b:=
 ind (λ_ _=>by kernel_rfl) λq ih a b=>Eq.trans (b:=MA (x11 (z8 q)) x14 a b) (by kernel_rfl) (by simp only[e11,e14,ih]<;>rfl)
theorem e8:x8=cI:=by funext a b;exact Eq.trans (by kernel_rfl) ((i8 Cy a b).trans (by rw[Az];rfl))
def F:=NI
theorem rn x:H.u P_ x=F x:=Eq.trans (b:=LV x8 x) (by kernel_rfl) (by simp only[e8]<;>rfl)
def c:Con:=⟨H.p,H.r,F⟩
theorem ok:ConOk P_ gl 33 c:=cr H func33 (.cons F66.ok .nil) (Fa.cons ent65 Fa.nil) rn
end F33
namespace F9
abbrev R_:=(Int×Int×Int×LX×Int)
abbrev K_:=S->Option R_
def H:Hd:=⟨[Sb,Ss],[.agg [Si,Si,Si,Ow 21],Si],(.seq .d (.seq .d (.seq .d (.seq .d (.cut [0,1,4,6] [] (.cut [0,1,4,6,8] [] (.keep [0,1,4,6,8,34,35,36] true) .d) (.cut [0,1,4,6,7,9] [⟨9,[],.own 3 (.int .i64)⟩] (.keep [0,1,4,6,7,9,41,42,43,44,45] true) (.seq .d (.seq .d (.seq .d (.seq .d (.seq .d (.cut [0,4,10,14] [] (.seq .d (.blk (.loop [0,4,6,10,11,12,14,75,76,77] [⟨10,[3],.own 21 (.int .i32)⟩] (.seq .d (.seq .d (.seq (.blk (.seq .d (.seq .d (.cut [0,4,6,10,11,12,14,16,17,18,75,76,77] [] .d .d)))) .d)))))) .d)))))))))))),⟨[(28,F28.c),(31,F31.c),(32,F32.c),(33,F33.c),(55,F55.c),(56,F56.c)],gl,false⟩,[(29,.d),(30,(.seq .d (.seq .d (.cut [0,6,7] [] .d (.seq .d (.seq .d (.seq .d (.cut [6] [] (.seq .d (.blk (.loop [0,6,60,61,62] [] .d))) .d))))))))],f9⟩
def t21(a:LB)(w:LI)(m b f h o p n g y ab:Int)(ac:LX)(k:LI)(aa ae:Int)(ad:LX):S:=⟨[(0,vb a),(4,.ptr 0 []),(6,.ptr 1 []),(10,.ptr 2 []),(11,.ptr 3 []),(12,.ptr 4 []),(14,vi aa),(75,.own 5),(76,vi (Ac w)),(77,vi ae)],[.box 24 (.agg [vi 0,vi 0,vi 0,.nils]),.box 66 (.agg [.agg [vi m,vi b,vi f,vi h,vi o],.agg [vi p,vi n,vi g,vi y,vi ab],.own 6]),.box 24 (.agg [vi b,vi f,vi h,.own 7]),.box 48 (.agg [vi b,vi f]),.box 71 (.val (.vec 16 (.int .i32)) ac),Ai 3 w,Ai 3 k,Aw 21 ad],[]⟩
def z21:Nat->S->Option R_:=H.i P_ [r,r,r,r,r,r,r,r,r,r,r,l,r,d]
def t17(v:LI)(a u:LB)(m b f h o p n g:Int)(k:LI)(ag af:Int):S:=⟨[(0,.ptr 0 []),(6,.own 1),(60,.own 1),(61,vi (Ac v)),(62,vi ag)],[.box 66 (.agg [.agg [vi m,vi b,vi f,vi h,vi o],.agg [vi p,vi n,vi g,vi (Ae (Ae g (Bd (4:Int) (Ac v))) (4:Int)),vi af],.own 3]),Ai 3 v,.box 24 (.agg [vi 0,vi 0,vi 0,.nils]),Ai 3 k],[[(0,vb a),(1,vs u),(4,.ptr 2 []),(6,.ptr 0 []),(42,vb a)]]⟩
def z17:Nat->S->Option R_:=H.i P_ [r,r,r,r,r,l,(call 1 30),r,r,r,r,r,r,l,r,d]
def x26(a:LB)(aa b f h:Int)(ad:LX):Option R_:=H.e P_ [r,r,r,r,r,r,r,r,r,r,r,r] ⟨[(0,vb a),(4,.ptr 0 []),(10,.ptr 1 []),(14,vi aa)],[.box 24 (.agg [vi 0,vi 0,vi 0,.nils]),.box 24 (.agg [vi b,vi f,vi h,.own 2]),Aw 21 ad],[]⟩
def x24(Ar4:K_)(a:LB)(w:LI)(m b f h o p n g y ab:Int)(ac:LX)(k:LI)(aa aj ak ae:Int)(am ad:LX):Option R_:=H.e P_ [r,r,r,r,r,r,r,r,r,r,r,l,r,d,(lp Ar4),r,r,l,d,r,r,r] ⟨[(0,vb a),(4,.ptr 0 []),(6,.ptr 1 []),(10,.ptr 2 []),(11,.ptr 3 []),(12,.ptr 4 []),(14,vi aa),(16,vi aj),(17,.own 5),(18,vi ak),(75,.own 6),(76,vi (Ac w)),(77,vi ae)],[.box 24 (.agg [vi 0,vi 0,vi 0,.nils]),.box 66 (.agg [.agg [vi m,vi b,vi f,vi h,vi o],.agg [vi p,vi n,vi g,vi y,vi ab],.own 7]),.box 24 (.agg [vi b,vi f,vi h,.own 8]),.box 48 (.agg [vi b,vi f]),.box 71 (.val (.vec 16 (.int .i32)) ac),Aw 21 am,Ai 3 w,Ai 3 k,Aw 21 ad],[]⟩
def x21(a:LB)(w:LI)(m b f h o p n g y ab:Int)(ac:LX)(k:LI)(aa ae:Int)(ad:LX):Option R_:=H.e P_ [r,r,r,r,r,r,r,r,r,r,r,l,r,d] (t21 a w m b f h o p n g y ab ac k aa ae ad)
def x20(a u:LB)(m b f h o p n g:Int)(k:LI)(an y ab:Int)(w:LI):Option R_:=H.e P_ [r,r,r,r,r,r] ⟨[(0,vb a),(1,vs u),(4,.ptr 0 []),(6,.ptr 1 []),(7,vi an),(9,.own 2)],[.box 24 (.agg [vi 0,vi 0,vi 0,.nils]),.box 66 (.agg [.agg [vi m,vi b,vi f,vi h,vi o],.agg [vi p,vi n,vi g,vi y,vi ab],.own 3]),Ai 3 w,Ai 3 k],[]⟩
def x19(a u:LB)(v:LI)(m b f h o p n g af:Int)(k:LI):Option R_:=H.e P_ [r,r,r,r,r,l,(call 1 30),r,r,r,r,r,r,r] ⟨[(6,.own 0)],[Ai 3 v,.box 24 (.agg [vi 0,vi 0,vi 0,.nils]),.box 66 (.agg [.agg [vi m,vi b,vi f,vi h,vi o],.agg [vi p,vi n,vi g,vi (Ae (Ae g (Bd (4:Int) (Ac v))) (4:Int)),vi af],.own 3]),Ai 3 k],[[(0,vb a),(1,vs u),(4,.ptr 1 []),(6,.ptr 2 []),(42,vb a)]]⟩
def x17(v:LI)(a u:LB)(m b f h o p n g:Int)(k:LI)(ag af:Int):Option R_:=H.e P_ [r,r,r,r,r,l,(call 1 30),r,r,r,r,r,r,l,r,d] (t17 v a u m b f h o p n g k ag af)
def x16(al:Int)(a u:LB)(m b f h o p n g ah ai:Int)(v k:LI):Option R_:=H.e P_ [r,r,r,r,r,l,(call 1 30),r,r,r] ⟨[(0,.ptr 0 []),(6,.own 1),(7,vi al)],[.box 66 (.agg [.agg [vi m,vi b,vi f,vi h,vi o],.agg [vi p,vi n,vi g,vi ah,vi ai],.own 3]),Ai 3 v,.box 24 (.agg [vi 0,vi 0,vi 0,.nils]),Ai 3 k],[[(0,vb a),(1,vs u),(4,.ptr 2 []),(6,.ptr 0 []),(42,vb a)]]⟩
def x15(a u:LB)(m b f h o p n g ah ai:Int)(k:LI):Option R_:=H.e P_ [r,r,r,r,r] ⟨[(0,vb a),(1,vs u),(4,.ptr 0 []),(6,.ptr 1 [])],[.box 24 (.agg [vi 0,vi 0,vi 0,.nils]),.box 66 (.agg [.agg [vi m,vi b,vi f,vi h,vi o],.agg [vi p,vi n,vi g,vi ah,vi ai],.own 2]),Ai 3 k],[]⟩
def x14(a u:LB)(m b f h o p n g ah ai:Int)(k:LI)(ao:Int):Option R_:=H.e P_ [r,r,r,r,l,r] ⟨[(0,vb a),(1,vs u),(4,.ptr 0 []),(6,.ptr 1 []),(8,vi ao)],[.box 24 (.agg [vi 0,vi 0,vi 0,.nils]),.box 66 (.agg [.agg [vi m,vi b,vi f,vi h,vi o],.agg [vi p,vi n,vi g,vi ah,vi ai],.own 2]),Ai 3 k],[]⟩
theorem e26:x26=PW:=by kernel_rfl
theorem e24(Ar4:K_)(a:LB)(w:LI)(m b f h o p n g y ab:Int)(ac:LX)(k:LI):x24 Ar4 a w m b f h o p n g y ab ac k=PR (λaa ae ad=>Ar4 (t21 a w m b f h o p n g y ab ac k aa ae ad)) a w m b f h o p n g y ab ac k:=by kernel_rfl
theorem i21(a:LB)(w:LI)(m b f h o p n g y ab:Int)(ac:LX)(k:LI):∀(q:Nat) (aa ae:Int) (ad:LX),z21 q (t21 a w m b f h o p n g y ab ac k aa ae ad)=Pq a w m b f h o p n g y ab ac k q aa ae ad:=
 ind (λ_ _ _=>by kernel_rfl) λq ih aa ae ad=>Eq.trans (b:=DK (x24 (z21 q) a w m b f h o p n g y ab ac k) x26 a w m b f h o p n g y ab ac k aa ae ad) (by kernel_rfl) (by simp only[e24,e26,ih]<;>rfl)
theorem e21:x21=fT:=by funext a w m b f h o p n g y ab ac k aa ae ad;exact Eq.trans (by kernel_rfl) ((i21 a w m b f h o p n g y ab ac k Cy aa ae ad).trans (by rw[Az];rfl))
theorem e20:x20=Ly:=Eq.trans (b:=CY x21) (by kernel_rfl) (by simp only[e21]<;>rfl)
theorem e19:x19=CE:=Eq.trans (b:=OS x20) (by kernel_rfl) (by simp only[e20]<;>rfl)
theorem i17(v:LI)(a u:LB)(m b f h o p n g:Int)(k:LI):∀(q:Nat) (ag af:Int),z17 q (t17 v a u m b f h o p n g k ag af)=Pe v a u m b f h o p n g k q ag af:=
 ind (λ_ _=>by kernel_rfl) λq ih ag af=>Eq.trans (b:=CN x19 (λag af=>(z17 q) (t17 v a u m b f h o p n g k ag af)) v a u m b f h o p n g k ag af) (by kernel_rfl) (by simp only[e19,ih]<;>rfl)
theorem e17:x17=OG:=by funext v a u m b f h o p n g k ag af;exact Eq.trans (by kernel_rfl) ((i17 v a u m b f h o p n g k Cy ag af).trans (by rw[Az];rfl))
theorem e16:x16=AS:=Eq.trans (b:=BJ x20 x17) (by kernel_rfl) (by simp only[e20,e17]<;>rfl)
theorem e15:x15=Uw:=Eq.trans (b:=QO x20 x16) (by kernel_rfl) (by simp only[e20,e16]<;>rfl)
theorem e14:x14=Pr:=Eq.trans (b:=DC x15) (by kernel_rfl) (by simp only[e15]<;>rfl)
def F:=u2 Kj
theorem rn x:H.u P_ x=F x:=Eq.trans (b:=u2 (UI x14) x) (by kernel_rfl) (by simp only[e14]<;>rfl)
def c:Con:=⟨H.p,H.r,F⟩
theorem ok:ConOk P_ gl 9 c:=cr H func9 (.cons F28.ok (.cons F31.ok (.cons F32.ok (.cons F33.ok (.cons F55.ok (.cons F56.ok .nil)))))) (Fa.cons ent29 (Fa.cons ent30 Fa.nil)) rn
end F9
namespace F111
def H:Hd:=⟨[.agg [Si,Si,Si]],[Si],.d,⟨[],gl,false⟩,[],f111⟩
def F:=u3 jH
theorem rn x:H.u P_ x=F x:=by kernel_rfl
def c:Con:=⟨H.p,H.r,F⟩
theorem ok:ConOk P_ gl 111 c:=co H func111 .nil rn
end F111
namespace F69
def H:Hd:=⟨[.agg [Si,Si,Si]],[Sz,Si],.d,⟨[(111,F111.c)],gl,false⟩,[],f69⟩
def F:=u3 mD
theorem rn x:H.u P_ x=F x:=by kernel_rfl
def c:Con:=⟨H.p,H.r,F⟩
theorem ok:ConOk P_ gl 69 c:=co H func69 (.cons F111.ok .nil) rn
end F69
namespace F70
abbrev R_:=LB
def H:Hd:=⟨[.agg [Si,Si,Si],Sz,Sq],[Ob 5],(.seq .d (.seq .d (.seq .d (.seq .d (.cut [1,8,9] [] .d (.seq .d (.cut [1,10] [] (.seq .d (.blk (.loop [1,8,10,44,45] [⟨10,[],.own 5 (.int .u8)⟩] .d))) .d))))))),⟨[(47,F47.c)],gl,false⟩,[],f70⟩
def t6(a:Bool)(g:Int)(f:LQ)(h:Int)(b:LB):S:=⟨[(1,vt a),(8,.ptr 0 []),(10,.own 1),(44,vi g),(45,vi h)],[.box 198 (.val (.vec 9 (.int .u64)) f),Ab 5 b],[]⟩
def z6:Nat->S->Option R_:=H.i P_ [r,r,r,r,r,r,l,r,d]
def x8(a:Bool)(b:LB):Option R_:=H.e P_ [r,r,r,r,r,r,r] ⟨[(1,vt a),(10,.own 0)],[Ab 5 b],[]⟩
def x6(a:Bool)(g:Int)(f:LQ)(h:Int)(b:LB):Option R_:=H.e P_ [r,r,r,r,r,r,l,r,d] (t6 a g f h b)
def x5(a:Bool)(g:Int)(f:LQ):Option R_:=H.e P_ [r,r,r,r,r] ⟨[(1,vt a),(8,.ptr 0 []),(9,vi g)],[.box 198 (.val (.vec 9 (.int .u64)) f)],[]⟩
theorem e8:x8=XM:=by kernel_rfl
theorem i6(a:Bool)(g:Int)(f:LQ):∀(q:Nat) (h:Int) (b:LB),z6 q (t6 a g f h b)=GN a g f q h b:=
 ind (λ_ _=>by kernel_rfl) λq ih h b=>Eq.trans (b:=VZ x8 (λh b=>(z6 q) (t6 a g f h b)) a g f h b) (by kernel_rfl) (by simp only[e8,ih]<;>rfl)
theorem e6:x6=WB:=by funext a g f h b;exact Eq.trans (by kernel_rfl) ((i6 a g f Cy h b).trans (by rw[Az];rfl))
theorem e5:x5=YA:=Eq.trans (b:=XP x6) (by kernel_rfl) (by simp only[e6]<;>rfl)
def F:=u5 mK
theorem rn x:H.u P_ x=F x:=Eq.trans (b:=u5 (WK x5) x) (by kernel_rfl) (by simp only[e5]<;>rfl)
def c:Con:=⟨H.p,H.r,F⟩
theorem ok:ConOk P_ gl 70 c:=co H func70 (.cons F47.ok .nil) rn
end F70
namespace F35
def H:Hd:=⟨[.agg [Si,Si,Si]],[Ob 5,Si],.d,⟨[(69,F69.c),(70,F70.c)],gl,false⟩,[],f35⟩
def F:=u3 jI
theorem rn x:H.u P_ x=F x:=by kernel_rfl
def c:Con:=⟨H.p,H.r,F⟩
theorem ok:ConOk P_ gl 35 c:=co H func35 (.cons F69.ok (.cons F70.ok .nil)) rn
end F35
namespace F36
abbrev R_:=(LB×Int)
abbrev K_:=S->Option R_
def H:Hd:=⟨[Si,Sw],[Ob 5,Si],(.seq .d (.seq .d (.seq .d (.cut [7] [] (.seq .d (.blk (.loop [0,7,17,18,19] [⟨7,[],.own 5 (.int .u8)⟩] (.seq .d (.seq .d (.cut [0,7,17,18,19] [] (.blk (.seq .d (.cut [0,7,9,17,18,19] [] .d (.seq .d (.blk (.loop [0,7,9,17,18,19,28,29] [] .d)))))) .d)))))) .d)))),⟨[(68,F68.c)],gl,false⟩,[],f36⟩
def t26(b:Int)(a:LX)(k:Int32)(f m:Int)(h:LB):S:=⟨[(0,vi b),(7,.own 0),(9,vx k),(17,vw a),(18,vi (Ac a)),(19,vi f),(28,vi (Bz b (8:Int))),(29,vi m)],[Ab 5 h],[]⟩
def z26(Dr:K_):Nat->S->Option R_:=H.i P_ [r,r,r,l,r,d,(lp Dr),r,r,l,d,r,r,r,d]
def t16(b:Int)(a:LX)(f:Int)(g:LB):S:=⟨[(0,vi b),(7,.own 0),(17,vw a),(18,vi (Ac a)),(19,vi f)],[Ab 5 g],[]⟩
def z16:Nat->S->Option R_:=H.i P_ [r,r,r,l,r,d]
def x30(g:LB):Option R_:=H.e P_ [r,r,r,r] ⟨[(7,.own 0)],[Ab 5 g],[]⟩
def x28(Dr:K_)(b:Int)(a:LX)(f:Int)(h:LB):Option R_:=H.e P_ [r,r,r,l,r,d,(lp Dr),r,r,r] ⟨[(0,vi b),(7,.own 0),(17,vw a),(18,vi (Ac a)),(19,vi f)],[Ab 5 h],[]⟩
def x26(Dr:K_)(b:Int)(a:LX)(k:Int32)(f m:Int)(h:LB):Option R_:=H.e P_ [r,r,r,l,r,d,(lp Dr),r,r,l,d,r,r,r,d] (t26 b a k f m h)
def x25(Dr:K_)(b:Int)(a:LX)(f:Int)(g:LB)(k:Int32):Option R_:=H.e P_ [r,r,r,l,r,d,(lp Dr),r,r,l,d,r,r] ⟨[(0,vi b),(7,.own 0),(9,vx k),(17,vw a),(18,vi (Ac a)),(19,vi f)],[Ab 5 g],[]⟩
def x16(b:Int)(a:LX)(f:Int)(g:LB):Option R_:=H.e P_ [r,r,r,l,r,d] (t16 b a f g)
theorem e30:x30=cQ:=by kernel_rfl
theorem e28(Dr:K_)(b:Int)(a:LX):x28 Dr b a=LN (λf g=>Dr (t16 b a f g)) b a:=by kernel_rfl
theorem i26(Dr:K_)(b:Int)(a:LX)(k:Int32)(f:Int):∀(q:Nat) (m:Int) (h:LB),z26 Dr q (t26 b a k f m h)=Ib (λf g=>Dr (t16 b a f g)) b a k f q m h:=
 ind (λ_ _=>by kernel_rfl) λq ih m h=>Eq.trans (b:=Xz (x28 Dr b a) (λm h=>(z26 Dr q) (t26 b a k f m h)) b a k f m h) (by kernel_rfl) (by simp only[e28,ih]<;>rfl)
theorem e26(Dr:K_)(b:Int)(a:LX):x26 Dr b a=ME (λf g=>Dr (t16 b a f g)) b a:=by funext k f m h;exact Eq.trans (by kernel_rfl) ((i26 Dr b a k f Cy m h).trans (by rw[Az];rfl))
theorem e25(Dr:K_)(b:Int)(a:LX):x25 Dr b a=Km (λf g=>Dr (t16 b a f g)) b a:=Eq.trans (b:=KT (x26 Dr b a) b a) (by kernel_rfl) (by simp only[e26]<;>rfl)
theorem i16(b:Int)(a:LX):∀(q:Nat) (f:Int) (g:LB),z16 q (t16 b a f g)=Fq b a q f g:=
 ind (λ_ _=>by kernel_rfl) λq ih f g=>Eq.trans (b:=Yf (x25 (z16 q) b a) x30 b a f g) (by kernel_rfl) (by simp only[e25,e30,ih]<;>rfl)
theorem e16:x16=cJ:=by funext b a f g;exact Eq.trans (by kernel_rfl) ((i16 b a Cy f g).trans (by rw[Az];rfl))
def F:=u2 KM
theorem rn x:H.u P_ x=F x:=Eq.trans (b:=u2 (QW x16) x) (by kernel_rfl) (by simp only[e16]<;>rfl)
def c:Con:=⟨H.p,H.r,F⟩
theorem ok:ConOk P_ gl 36 c:=co H func36 (.cons F68.ok .nil) rn
end F36
namespace F112
abbrev R_:=Bool
def H:Hd:=⟨[Ss],[Sz],(.seq .d (.cut [0] [] (.seq .d (.blk (.loop [0,6,7,8] [] .d))) .d)),⟨[],gl,false⟩,[],f112⟩
def t4(a:LB)(b:Int):S:=⟨[(0,vs a),(6,.own 0),(7,vi (Ac a)),(8,vi b)],[Ab 5 a],[]⟩
def z4:Nat->S->Option R_:=H.i P_ [r,l,r,d]
def x6(a:LB):Option R_:=H.e P_ [r,r] ⟨[(0,vs a)],[],[]⟩
def x4(a:LB)(b:Int):Option R_:=H.e P_ [r,l,r,d] (t4 a b)
theorem e6:x6=iG:=by kernel_rfl
theorem i4(a:LB):∀(q:Nat) (b:Int),z4 q (t4 a b)=RF a q b:=
 ind (λ_=>by kernel_rfl) λq ih b=>Eq.trans (b:=gN x6 (λb=>(z4 q) (t4 a b)) a b) (by kernel_rfl) (by simp only[e6,ih]<;>rfl)
theorem e4:x4=fQ:=by funext a b;exact Eq.trans (by kernel_rfl) ((i4 a Cy b).trans (by rw[Az];rfl))
def F:=eT
theorem rn x:H.u P_ x=F x:=Eq.trans (b:=iR x4 x) (by kernel_rfl) (by simp only[e4]<;>rfl)
def c:Con:=⟨H.p,H.r,F⟩
theorem ok:ConOk P_ gl 112 c:=co H func112 .nil rn
end F112
namespace F75
abbrev R_:=Int
def H:Hd:=⟨[.lf (.list (.cons .str (.cons (.list (.int .u8)) .nil))) none],[Si],(.seq .d (.seq .d (.cut [3] [] (.seq .d (.blk (.loop [3,6,7,8] [] .d))) .d))),⟨[],gl,false⟩,[],f75⟩
def t4(b:List (LB×LB×Unit))(a f:Int):S:=⟨[(3,vi a),(6,.val (.list (.cons .str (.cons (.list (.int .u8)) .nil))) b),(7,vi (Ac b)),(8,vi f)],[],[]⟩
def z4:Nat->S->Option R_:=H.i P_ [r,r,l,r,d]
def x6(a:Int):Option R_:=H.e P_ [r,r,r] ⟨[(3,vi a)],[],[]⟩
def x4(b:List (LB×LB×Unit))(a f:Int):Option R_:=H.e P_ [r,r,l,r,d] (t4 b a f)
theorem e6:x6=pL:=by kernel_rfl
theorem i4(b:List (LB×LB×Unit)):∀(q:Nat) (a f:Int),z4 q (t4 b a f)=YW b q a f:=
 ind (λ_ _=>by kernel_rfl) λq ih a f=>Eq.trans (b:=pT x6 (λa f=>(z4 q) (t4 b a f)) b a f) (by kernel_rfl) (by simp only[e6,ih]<;>rfl)
theorem e4:x4=oT:=by funext b a f;exact Eq.trans (by kernel_rfl) ((i4 b Cy a f).trans (by rw[Az];rfl))
def F:=WN
theorem rn x:H.u P_ x=F x:=Eq.trans (b:=pW x4 x) (by kernel_rfl) (by simp only[e4]<;>rfl)
def c:Con:=⟨H.p,H.r,F⟩
theorem ok:ConOk P_ gl 75 c:=co H func75 .nil rn
end F75
namespace F114
def H:Hd:=⟨[.agg [Ss,Sb]],[Sz],.d,⟨[(112,F112.c)],gl,false⟩,[],f114⟩
def F:=u2 ZP
theorem rn x:H.u P_ x=F x:=by kernel_rfl
def c:Con:=⟨H.p,H.r,F⟩
theorem ok:ConOk P_ gl 114 c:=co H func114 (.cons F112.ok .nil) rn
end F114
namespace F71
abbrev R_:=Int
abbrev K_:=S->Option R_
def H:Hd:=⟨[Ss,.lf (.list (.cons .str (.cons (.list (.int .u8)) .nil))) none],[Si],(.seq .d (.seq .d (.cut [] [] (.cut [20] [] (.keep [17,19,20] true) .d) .d))),⟨[(75,F75.c),(112,F112.c),(114,F114.c)],gl,false⟩,[(113,(.seq .d (.cut [4] [] (.keep [4,7,8] true) .d))),(146,(.seq .d (.cut [] [] (.seq .d (.blk (.loop [0,1,7,8] [] (.seq .d (.seq .d (.cut [0,1,7,8] [] (.blk (.seq .d (.cut [0,1,5,7,8,16] [] .d .d))) .d)))))) .d)))],f71⟩
def t19(a:List (LB×LB×Unit))(b:Int):S:=⟨[(0,.val (.list (.cons .str (.cons (.list (.int .u8)) .nil))) a),(1,.fn 114 []),(7,vi (Ac a)),(8,vi b)],[],[[(4,vt false)],[(17,.cst (.bool false))]]⟩
def z19:Nat->S->Option R_:=H.i P_ [r,r,l,l,(call 11 113),r,l,(call 2 146),r,l,r,d]
def t27(a:List (LB×LB×Unit))(f:Int):S:=⟨[(0,.val (.list (.cons .str (.cons (.list (.int .u8)) .nil))) a),(1,.fn 114 []),(7,vi (Ac a)),(8,vi f)],[],[[(4,vt false)],[(17,.cst (.bool false))]]⟩
def z27:Nat->S->Option R_:=H.i P_ [r,r,l,l,(call 11 113),r,l,(call 2 146),r,l,r,d]
def x36:Option R_:=H.e P_ [r,r,r] ⟨[],[],[]⟩
def x35(k:Bool):Option R_:=H.e P_ [r,r,l,r] ⟨[(20,vt k)],[],[]⟩
def x26(m:Bool):Option R_:=H.e P_ [r,r,l,l,(call 11 113),r,r] ⟨[(4,vt m)],[],[[(17,.cst (.bool false))]]⟩
def x25:Option R_:=H.e P_ [r,r,l,l,(call 11 113),r,l,(call 2 146),r,r] ⟨[],[],[[(4,vt false)],[(17,.cst (.bool false))]]⟩
def x23(J9:K_)(a:List (LB×LB×Unit))(b:Int):Option R_:=H.e P_ [r,r,l,l,(call 11 113),r,l,(call 2 146),r,l,r,d,(lp J9),r,r,r] ⟨[(0,.val (.list (.cons .str (.cons (.list (.int .u8)) .nil))) a),(1,.fn 114 []),(7,vi (Ac a)),(8,vi b)],[],[[(4,vt false)],[(17,.cst (.bool false))]]⟩
def x22(J9:K_)(a:List (LB×LB×Unit))(b:Int)(g:Bool):Option R_:=H.e P_ [r,r,l,l,(call 11 113),r,l,(call 2 146),r,l,r,d,(lp J9),r,r,l,d,r,r] ⟨[(0,.val (.list (.cons .str (.cons (.list (.int .u8)) .nil))) a),(1,.fn 114 []),(5,vi b),(7,vi (Ac a)),(8,vi b),(16,vt g)],[],[[(4,vt false)],[(17,.cst (.bool false))]]⟩
def x19(a:List (LB×LB×Unit))(b:Int):Option R_:=H.e P_ [r,r,l,l,(call 11 113),r,l,(call 2 146),r,l,r,d] (t19 a b)
def x34(n:Bool):Option R_:=H.e P_ [r,r,l,l,(call 11 113),r,r] ⟨[(4,vt n)],[],[[(17,.cst (.bool false))]]⟩
def x33:Option R_:=H.e P_ [r,r,l,l,(call 11 113),r,l,(call 2 146),r,r] ⟨[],[],[[(4,vt false)],[(17,.cst (.bool false))]]⟩
def x31(Gf:K_)(a:List (LB×LB×Unit))(f:Int):Option R_:=H.e P_ [r,r,l,l,(call 11 113),r,l,(call 2 146),r,l,r,d,(lp Gf),r,r,r] ⟨[(0,.val (.list (.cons .str (.cons (.list (.int .u8)) .nil))) a),(1,.fn 114 []),(7,vi (Ac a)),(8,vi f)],[],[[(4,vt false)],[(17,.cst (.bool false))]]⟩
def x30(Gf:K_)(a:List (LB×LB×Unit))(f:Int)(h:Bool):Option R_:=H.e P_ [r,r,l,l,(call 11 113),r,l,(call 2 146),r,l,r,d,(lp Gf),r,r,l,d,r,r] ⟨[(0,.val (.list (.cons .str (.cons (.list (.int .u8)) .nil))) a),(1,.fn 114 []),(5,vi f),(7,vi (Ac a)),(8,vi f),(16,vt h)],[],[[(4,vt false)],[(17,.cst (.bool false))]]⟩
def x27(a:List (LB×LB×Unit))(f:Int):Option R_:=H.e P_ [r,r,l,l,(call 11 113),r,l,(call 2 146),r,l,r,d] (t27 a f)
theorem e36:x36=jN:=by kernel_rfl
theorem e35:x35=DX:=Eq.trans (b:=gY x36) (by kernel_rfl) (by simp only[e36]<;>rfl)
theorem e26:x26=QN:=Eq.trans (b:=fN x35) (by kernel_rfl) (by simp only[e35]<;>rfl)
theorem e25:x25=jC:=Eq.trans (b:=gC x26) (by kernel_rfl) (by simp only[e26]<;>rfl)
theorem e23(J9:K_)(a:List (LB×LB×Unit)):x23 J9 a=fC (λb=>J9 (t19 a b)) a:=by kernel_rfl
theorem e22(J9:K_)(a:List (LB×LB×Unit)):x22 J9 a=iZ (λb=>J9 (t19 a b)) a:=Eq.trans (b:=jM x26 (x23 J9 a) a) (by kernel_rfl) (by simp only[e26,e23]<;>rfl)
theorem i19(a:List (LB×LB×Unit)):∀(q:Nat) (b:Int),z19 q (t19 a b)=QA a q b:=
 ind (λ_=>by kernel_rfl) λq ih b=>Eq.trans (b:=iM (x22 (z19 q) a) x25 a b) (by kernel_rfl) (by simp only[e22,e25,ih]<;>rfl)
theorem e19:x19=fX:=by funext a b;exact Eq.trans (by kernel_rfl) ((i19 a Cy b).trans (by rw[Az];rfl))
theorem e34:x34=PZ:=Eq.trans (b:=fZ x35) (by kernel_rfl) (by simp only[e35]<;>rfl)
theorem e33:x33=iI:=Eq.trans (b:=fO x34) (by kernel_rfl) (by simp only[e34]<;>rfl)
theorem e31(Gf:K_)(a:List (LB×LB×Unit)):x31 Gf a=fD (λf=>Gf (t27 a f)) a:=by kernel_rfl
theorem e30(Gf:K_)(a:List (LB×LB×Unit)):x30 Gf a=iP (λf=>Gf (t27 a f)) a:=Eq.trans (b:=gA x34 (x31 Gf a) a) (by kernel_rfl) (by simp only[e34,e31]<;>rfl)
theorem i27(a:List (LB×LB×Unit)):∀(q:Nat) (f:Int),z27 q (t27 a f)=QB a q f:=
 ind (λ_=>by kernel_rfl) λq ih f=>Eq.trans (b:=iN (x30 (z27 q) a) x33 a f) (by kernel_rfl) (by simp only[e30,e33,ih]<;>rfl)
theorem e27:x27=gT:=by funext a f;exact Eq.trans (by kernel_rfl) ((i27 a Cy f).trans (by rw[Az];rfl))
def F:=u2 GK
theorem rn x:H.u P_ x=F x:=Eq.trans (b:=u2 (UF x35 x19 x27) x) (by kernel_rfl) (by simp only[e35,e19,e27]<;>rfl)
def c:Con:=⟨H.p,H.r,F⟩
theorem ok:ConOk P_ gl 71 c:=cr H func71 (.cons F75.ok (.cons F112.ok (.cons F114.ok .nil))) (Fa.cons ent113 (Fa.cons ent146 Fa.nil)) rn
end F71
theorem J1:ConOk Tryz.prog gl 37 aA:=J3 ent37 F71.ok F75.ok F47.ok
namespace F11
def H:Hd:=⟨[.agg [Si,Si,Si,Sw]],[Ob 5,Si],.d,⟨[(34,F34.c),(35,F35.c),(36,F36.c),(37,aA)],gl,false⟩,[],f11⟩
def F:=u4 P5
theorem rn x:H.u P_ x=F x:=by kernel_rfl
def c:Con:=⟨H.p,H.r,F⟩
theorem ok:ConOk P_ gl 11 c:=co H func11 (.cons F34.ok (.cons F35.ok (.cons F36.ok (.cons J1 .nil)))) rn
end F11
namespace F10
def H:Hd:=⟨[Sb,Ss],[Ob 5,Si],.d,⟨[(9,F9.c),(11,F11.c)],gl,false⟩,[],f10⟩
def F:=u2 K2
theorem rn x:H.u P_ x=F x:=by kernel_rfl
def c:Con:=⟨H.p,H.r,F⟩
theorem ok:ConOk P_ gl 10 c:=co H func10 (.cons F9.ok (.cons F11.ok .nil)) rn
end F10
namespace F13
def H:Hd:=⟨[Sb,Ss],[Si],.d,⟨[(9,F9.c)],gl,false⟩,[],f13⟩
def F:=u2 Ql
theorem rn x:H.u P_ x=F x:=by kernel_rfl
def c:Con:=⟨H.p,H.r,F⟩
theorem ok:ConOk P_ gl 13 c:=co H func13 (.cons F9.ok .nil) rn
end F13
namespace F16
def H:Hd:=⟨[Sb,Ss,Si],[Sz],.d,⟨[(9,F9.c),(10,F10.c),(13,F13.c)],gl,false⟩,[],f16⟩
def F:=u3 Ci
theorem rn x:H.u P_ x=F x:=by kernel_rfl
def c:Con:=⟨H.p,H.r,F⟩
theorem ok:ConOk P_ gl 16 c:=co H func16 (.cons F9.ok (.cons F10.ok (.cons F13.ok .nil))) rn
end F16
theorem cT:ConOk Tryz.prog gl 5 Nt:=dK ent5 F15.ok F16.ok
namespace F6
def H:Hd:=⟨[.agg [Si,Si,Si,Sw]],[Sz],.d,⟨[],gl,false⟩,[],f6⟩
def F:=u4 Ym
theorem rn x:H.u P_ x=F x:=by kernel_rfl
def c:Con:=⟨H.p,H.r,F⟩
theorem ok:ConOk P_ gl 6 c:=co H func6 .nil rn
end F6
namespace F18
def H:Hd:=⟨[.agg [Si,Si,Si,Sw]],[.agg [Si,Si]],.d,⟨[],gl,false⟩,[],f18⟩
def F:=u4 Gq
theorem rn x:H.u P_ x=F x:=by kernel_rfl
def c:Con:=⟨H.p,H.r,F⟩
theorem ok:ConOk P_ gl 18 c:=co H func18 .nil rn
end F18
namespace F77
def H:Hd:=⟨[Si],[Si],.d,⟨[],gl,false⟩,[],f77⟩
def F:=Ht
theorem rn x:H.u P_ x=F x:=by kernel_rfl
def c:Con:=⟨H.p,H.r,F⟩
theorem ok:ConOk P_ gl 77 c:=co H func77 .nil rn
end F77
namespace F39
def H:Hd:=⟨[.agg [Si,Si]],[Si],.d,⟨[(77,F77.c)],gl,false⟩,[],f39⟩
def F:=u2 Cq
theorem rn x:H.u P_ x=F x:=by kernel_rfl
def c:Con:=⟨H.p,H.r,F⟩
theorem ok:ConOk P_ gl 39 c:=co H func39 (.cons F77.ok .nil) rn
end F39
namespace F40
abbrev R_:=Int
def H:Hd:=⟨[Si,Sw],[Si],(.seq .d (.seq .d (.seq .d (.seq .d (.cut [] [] (.seq .d (.blk (.loop [1,5,6] [] .d))) .d))))),⟨[(77,F77.c)],gl,false⟩,[],f40⟩
def t4(a:LX)(b f:Int):S:=⟨[(1,vw a),(5,vi b),(6,vi f)],[],[]⟩
def z4:Nat->S->Option R_:=H.i P_ [r,r,r,r,l,r,d]
def x6:Option R_:=H.e P_ [r,r,r,r,r] ⟨[],[],[]⟩
def x4(a:LX)(b f:Int):Option R_:=H.e P_ [r,r,r,r,l,r,d] (t4 a b f)
theorem e6:x6=ER:=by kernel_rfl
theorem i4(a:LX)(b:Int):∀(q:Nat) (f:Int),z4 q (t4 a b f)=Ax a b q f:=
 ind (λ_=>by kernel_rfl) λq ih f=>Eq.trans (b:=Ca x6 (λf=>(z4 q) (t4 a b f)) a b f) (by kernel_rfl) (by simp only[e6,ih]<;>rfl)
theorem e4:x4=FT:=by funext a b f;exact Eq.trans (by kernel_rfl) ((i4 a b Cy f).trans (by rw[Az];rfl))
def F:=u2 Ao
theorem rn x:H.u P_ x=F x:=Eq.trans (b:=u2 (Cr x4) x) (by kernel_rfl) (by simp only[e4]<;>rfl)
def c:Con:=⟨H.p,H.r,F⟩
theorem ok:ConOk P_ gl 40 c:=co H func40 (.cons F77.ok .nil) rn
end F40
namespace F17
def H:Hd:=⟨[.agg [Si,Si],Sw],[Si],.d,⟨[(39,F39.c),(40,F40.c)],gl,false⟩,[],f17⟩
def F:=u3 Bu
theorem rn x:H.u P_ x=F x:=by kernel_rfl
def c:Con:=⟨H.p,H.r,F⟩
theorem ok:ConOk P_ gl 17 c:=co H func17 (.cons F39.ok (.cons F40.ok .nil)) rn
end F17
namespace F41
def H:Hd:=⟨[.agg [Si,Si],Si],[Si],.d,⟨[(39,F39.c)],gl,false⟩,[],f41⟩
def F:=u3 Dy
theorem rn x:H.u P_ x=F x:=by kernel_rfl
def c:Con:=⟨H.p,H.r,F⟩
theorem ok:ConOk P_ gl 41 c:=co H func41 (.cons F39.ok .nil) rn
end F41
namespace F117
def H:Hd:=⟨[Si],[Si,Si],.d,⟨[],gl,false⟩,[],f117⟩
def F:=Nq
theorem rn x:H.u P_ x=F x:=by kernel_rfl
def c:Con:=⟨H.p,H.r,F⟩
theorem ok:ConOk P_ gl 117 c:=co H func117 .nil rn
end F117
namespace F78
abbrev R_:=(LI×Int)
def H:Hd:=⟨[Si,Si],[Ol 3,Si],(.seq .d (.seq .d (.seq .d (.seq .d (.cut [8] [] (.blk (.loop [1,6,8] [⟨8,[],.own 3 (.int .i64)⟩] .d)) .d))))),⟨[(117,F117.c)],gl,false⟩,[],f78⟩
def t4(b f:Int)(a:LI):S:=⟨[(1,vi f),(6,vi b),(8,.own 0)],[Ai 3 a],[]⟩
def z4:Nat->S->Option R_:=H.i P_ [r,r,r,r,l,d]
def x6(a:LI):Option R_:=H.e P_ [r,r,r,r,r] ⟨[(8,.own 0)],[Ai 3 a],[]⟩
def x4(b f:Int)(a:LI):Option R_:=H.e P_ [r,r,r,r,l,d] (t4 b f a)
theorem e6:x6=Wn:=by kernel_rfl
theorem i4(b:Int):∀(q:Nat) (f:Int) (a:LI),z4 q (t4 b f a)=Hx b q f a:=
 ind (λ_ _=>by kernel_rfl) λq ih f a=>Eq.trans (b:=Oy x6 (λf a=>(z4 q) (t4 b f a)) b f a) (by kernel_rfl) (by simp only[e6,ih]<;>rfl)
theorem e4:x4=Ws:=by funext b f a;exact Eq.trans (by kernel_rfl) ((i4 b Cy f a).trans (by rw[Az];rfl))
def F:=u2 Vx
theorem rn x:H.u P_ x=F x:=Eq.trans (b:=u2 (Oz x4) x) (by kernel_rfl) (by simp only[e4]<;>rfl)
def c:Con:=⟨H.p,H.r,F⟩
theorem ok:ConOk P_ gl 78 c:=co H func78 (.cons F117.ok .nil) rn
end F78
namespace F42
def H:Hd:=⟨[Si,Si],[Si,Si],.d,⟨[(78,F78.c)],gl,false⟩,[],f42⟩
def F:=u2 Iy
theorem rn x:H.u P_ x=F x:=by kernel_rfl
def c:Con:=⟨H.p,H.r,F⟩
theorem ok:ConOk P_ gl 42 c:=co H func42 (.cons F78.ok .nil) rn
end F42
namespace F19
def H:Hd:=⟨[.agg [Si,Si,Si,Sw],Si],[Sz],.d,⟨[(18,F18.c),(41,F41.c),(42,F42.c)],gl,false⟩,[],f19⟩
def F:=u5 EL
theorem rn x:H.u P_ x=F x:=by kernel_rfl
def c:Con:=⟨H.p,H.r,F⟩
theorem ok:ConOk P_ gl 19 c:=co H func19 (.cons F18.ok (.cons F41.ok (.cons F42.ok .nil))) rn
end F19
namespace F7
def H:Hd:=⟨[.agg [Si,Si,Si,Sw]],[Si],.d,⟨[(17,F17.c),(18,F18.c),(19,F19.c)],gl,false⟩,[],f7⟩
def F:=u4 Cj
theorem rn x:H.u P_ x=F x:=by kernel_rfl
def c:Con:=⟨H.p,H.r,F⟩
theorem ok:ConOk P_ gl 7 c:=co H func7 (.cons F17.ok (.cons F18.ok (.cons F19.ok .nil))) rn
end F7
namespace F14
abbrev R_:=(Int×Int×Int×Int×Int×Int)
def H:Hd:=⟨[Sb],[.agg [Si,Si,Si,Si,Si],Si],(.seq .d (.seq .d (.seq .d (.cut [0,2,4] [] (.cut [0,2,4,7] [] (.keep [0,2,4,7,17,18,19,20,21] true) .d) .d)))),⟨[(28,F28.c),(56,F56.c)],gl,false⟩,[(30,(.seq .d (.seq .d (.cut [0,6,7] [] .d (.seq .d (.seq .d (.seq .d (.cut [6] [] (.seq .d (.blk (.loop [0,6,60,61,62] [] .d))) .d))))))))],f14⟩
def t8(u:LI)(a:LB)(k m n o p f g b:Int)(h:LI)(w v:Int):S:=⟨[(0,.ptr 0 []),(6,.own 1),(60,.own 1),(61,vi (Ac u)),(62,vi w)],[.box 66 (.agg [.agg [vi k,vi m,vi n,vi o,vi p],.agg [vi f,vi g,vi b,vi (Ae (Ae b (Bd (4:Int) (Ac u))) (4:Int)),vi v],.own 3]),Ai 3 u,.box 40 (.agg [vi 0,vi 0,vi 0,vi 0,vi 0]),Ai 3 h],[[(0,vb a),(2,.ptr 2 []),(4,.ptr 0 []),(18,vb a)]]⟩
def z8:Nat->S->Option R_:=H.i P_ [r,r,r,l,l,(call 1 30),r,r,r,r,r,r,l,r,d]
def x12(a:LB)(k m n o p f g b aa y:Int)(h:LI):Option R_:=H.e P_ [r,r,r,r] ⟨[(0,vb a),(2,.ptr 0 []),(4,.ptr 1 [])],[.box 40 (.agg [vi 0,vi 0,vi 0,vi 0,vi 0]),.box 66 (.agg [.agg [vi k,vi m,vi n,vi o,vi p],.agg [vi f,vi g,vi b,vi aa,vi y],.own 2]),Ai 3 h],[]⟩
def x11(a:LB)(k m n o p f g b:Int)(h:LI)(ae aa y:Int):Option R_:=H.e P_ [r,r,r,l,r] ⟨[(0,vb a),(2,.ptr 0 []),(4,.ptr 1 []),(7,vi ae)],[.box 40 (.agg [vi 0,vi 0,vi 0,vi 0,vi 0]),.box 66 (.agg [.agg [vi k,vi m,vi n,vi o,vi p],.agg [vi f,vi g,vi b,vi aa,vi y],.own 2]),Ai 3 h],[]⟩
def x10(a:LB)(u:LI)(k m n o p f g b v:Int)(h:LI):Option R_:=H.e P_ [r,r,r,l,l,(call 1 30),r,r,r,r,r,r,r] ⟨[(6,.own 0)],[Ai 3 u,.box 40 (.agg [vi 0,vi 0,vi 0,vi 0,vi 0]),.box 66 (.agg [.agg [vi k,vi m,vi n,vi o,vi p],.agg [vi f,vi g,vi b,vi (Ae (Ae b (Bd (4:Int) (Ac u))) (4:Int)),vi v],.own 3]),Ai 3 h],[[(0,vb a),(2,.ptr 1 []),(4,.ptr 2 []),(18,vb a)]]⟩
def x8(u:LI)(a:LB)(k m n o p f g b:Int)(h:LI)(w v:Int):Option R_:=H.e P_ [r,r,r,l,l,(call 1 30),r,r,r,r,r,r,l,r,d] (t8 u a k m n o p f g b h w v)
def x7(ab:Int)(a:LB)(k m n o p f g b ac ad:Int)(u h:LI):Option R_:=H.e P_ [r,r,r,l,l,(call 1 30),r,r,r] ⟨[(0,.ptr 0 []),(6,.own 1),(7,vi ab)],[.box 66 (.agg [.agg [vi k,vi m,vi n,vi o,vi p],.agg [vi f,vi g,vi b,vi ac,vi ad],.own 3]),Ai 3 u,.box 40 (.agg [vi 0,vi 0,vi 0,vi 0,vi 0]),Ai 3 h],[[(0,vb a),(2,.ptr 2 []),(4,.ptr 0 []),(18,vb a)]]⟩
theorem e12:x12=LD:=by kernel_rfl
theorem e11:x11=Kf:=Eq.trans (b:=Xy x12) (by kernel_rfl) (by simp only[e12]<;>rfl)
theorem e10:x10=Yg:=Eq.trans (b:=KW x11) (by kernel_rfl) (by simp only[e11]<;>rfl)
theorem i8(u:LI)(a:LB)(k m n o p f g b:Int)(h:LI):∀(q:Nat) (w v:Int),z8 q (t8 u a k m n o p f g b h w v)=Pf u a k m n o p f g b h q w v:=
 ind (λ_ _=>by kernel_rfl) λq ih w v=>Eq.trans (b:=BA x10 (λw v=>(z8 q) (t8 u a k m n o p f g b h w v)) u a k m n o p f g b h w v) (by kernel_rfl) (by simp only[e10,ih]<;>rfl)
theorem e8:x8=QL:=by funext u a k m n o p f g b h w v;exact Eq.trans (by kernel_rfl) ((i8 u a k m n o p f g b h Cy w v).trans (by rw[Az];rfl))
theorem e7:x7=SF:=Eq.trans (b:=RL x11 x8) (by kernel_rfl) (by simp only[e11,e8]<;>rfl)
def F:=Vk
theorem rn x:H.u P_ x=F x:=Eq.trans (b:=BR x11 x7 x) (by kernel_rfl) (by simp only[e11,e7]<;>rfl)
def c:Con:=⟨H.p,H.r,F⟩
theorem ok:ConOk P_ gl 14 c:=cr H func14 (.cons F28.ok (.cons F56.ok .nil)) (Fa.cons ent30 Fa.nil) rn
end F14
namespace F4
abbrev R_:=Bool
def H:Hd:=⟨[.agg [Si,Si,Si,Sw],Ss,Si],[Sz],(.seq .d (.seq .d (.cut [1,2,3,7] [] .d .d))),⟨[(5,Nt),(6,F6.c),(7,F7.c),(8,F8.c),(13,F13.c),(14,F14.c)],gl,false⟩,[],f4⟩
def x2(b:LB)(f:Int)(a:Bool)(g h k:Int)(m:LX):Option R_:=H.e P_ [r,r,r] ⟨[(1,vs b),(2,vi f),(3,.ptr 0 []),(7,vt a)],[.box 24 (.agg [vi g,vi h,vi k,vw m])],[]⟩
theorem e2:x2=Ny:=by kernel_rfl
def F:=u6 Tk
theorem rn x:H.u P_ x=F x:=Eq.trans (b:=u6 (Nv x2) x) (by kernel_rfl) (by simp only[e2]<;>rfl)
def c:Con:=⟨H.p,H.r,F⟩
theorem ok:ConOk P_ gl 4 c:=co H func4 (.cons cT (.cons F6.ok (.cons F7.ok (.cons F8.ok (.cons F13.ok (.cons F14.ok .nil)))))) rn
end F4
end
end Go.Proofs.YtnckeeijjkphaaaGreatDoor
