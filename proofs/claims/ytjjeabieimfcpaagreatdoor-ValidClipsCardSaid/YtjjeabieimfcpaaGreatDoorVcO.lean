/- A part of a proof (see the text that ends in Proof). No conditions. -/
import Derived.Test.YtjjeabieimfcpaaGreatDoorVcHA
set_option linter.unusedVariables false
set_option linter.unusedSimpArgs false
set_option maxRecDepth 10000
namespace Go.Proofs.YtjjeabieimfcpaaGreatDoor
open Go Go.Lv Go.Pl Go.Rx Go.Rx.PS
noncomputable section
def g0:List Value:=[.int .i64 2,.int .i64 2,.int .i64 2,.int .i64 4,.int .i64 4]
def g2:List Value:=[.int .i64 2,.int .i64 2,.int .i64 4,.int .i64 4,.int .i64 2,.int .i64 2,.int .i64 2,.int .i64 2,.int .i64 4]
def g3:List Value:=[.int .u8 1,.int .u8 0,.int .u8 0,.int .u8 0,.int .u8 0,.int .u8 0,.int .u8 16,.int .u8 0,.int .u8 128,.int .u8 0,.int .u8 0,.int .u8 170,.int .u8 0,.int .u8 56,.int .u8 155,.int .u8 113]
def g6:List Value:=[.int .u8 0,.int .u8 1,.int .u8 56,.int .u8 2,.int .u8 57,.int .u8 49,.int .u8 28,.int .u8 3,.int .u8 61,.int .u8 58,.int .u8 42,.int .u8 50,.int .u8 38,.int .u8 29,.int .u8 17,.int .u8 4,.int .u8 62,.int .u8 47,.int .u8 59,.int .u8 36,.int .u8 45,.int .u8 43,.int .u8 51,.int .u8 22,.int .u8 53,.int .u8 39,.int .u8 33,.int .u8 30,.int .u8 24,.int .u8 18,.int .u8 12,.int .u8 5,.int .u8 63,.int .u8 55,.int .u8 48,.int .u8 27,.int .u8 60,.int .u8 41,.int .u8 37,.int .u8 16,.int .u8 46,.int .u8 35,.int .u8 44,.int .u8 21,.int .u8 52,.int .u8 32,.int .u8 23,.int .u8 11,.int .u8 54,.int .u8 26,.int .u8 40,.int .u8 15,.int .u8 34,.int .u8 20,.int .u8 31,.int .u8 10,.int .u8 25,.int .u8 14,.int .u8 19,.int .u8 9,.int .u8 13,.int .u8 8,.int .u8 7,.int .u8 6]
def gl:List (Nat×List Value):=[(0,g0),(2,g2),(3,g3),(6,g6)]
theorem mixed:Tryz.prog.follows .mixedOrders=true:=by kernel_rfl
noncomputable abbrev P_:=Tryz.prog
theorem cr(H:Hd){f:Nat}{F:JY (Yj H.p)->Option (JY (Yj H.r))}(hf:P_.funcs[f]? =some H.f)(hT:WV P_ H.T)(hA:∀p∈H.s,Ent P_ p.1)(h:∀x,H.u P_ x=F x)(hb:okH H=true:=by kernel_rfl):ConOk P_ H.T.gl f ⟨H.p,H.r,F⟩:=Hd.con mixed H hf hT hA hb h
theorem co(H:Hd){f:Nat}{F:JY (Yj H.p)->Option (JY (Yj H.r))}(hf:P_.funcs[f]? =some H.f)(hT:WV P_ H.T)(h:∀x,H.u P_ x=F x)(hb:(H.s.isEmpty&&okH H)=true:=by kernel_rfl):ConOk P_ H.T.gl f ⟨H.p,H.r,F⟩:=Hd.Al9 mixed H hf hT hb h
theorem ent49:Ent Tryz.prog 49:=Ent.mk Tryz.func49 (by kernel_rfl) rfl
theorem ent65:Ent Tryz.prog 65:=Ent.mk Tryz.func65 (by kernel_rfl) rfl
theorem ent66:Ent Tryz.prog 66:=Ent.mk Tryz.func66 (by kernel_rfl) rfl
theorem ent96:Ent Tryz.prog 96:=Ent.mk Tryz.func96 (by kernel_rfl) rfl
theorem ent117:Ent Tryz.prog 117:=Ent.mk Tryz.func117 (by kernel_rfl) rfl
theorem ent261:Ent Tryz.prog 261:=Ent.mk Tryz.func261 (by kernel_rfl) rfl
theorem ent275:Ent Tryz.prog 275:=Ent.mk Tryz.func275 (by kernel_rfl) rfl
theorem ent277:Ent Tryz.prog 277:=Ent.mk Tryz.func277 (by kernel_rfl) rfl
theorem ent282:Ent Tryz.prog 282:=Ent.mk Tryz.func282 (by kernel_rfl) rfl
theorem ent283:Ent Tryz.prog 283:=Ent.mk Tryz.func283 (by kernel_rfl) rfl
theorem ent284:Ent Tryz.prog 284:=Ent.mk Tryz.func284 (by kernel_rfl) rfl
theorem ent292:Ent Tryz.prog 292:=Ent.mk Tryz.func292 (by kernel_rfl) rfl
theorem ent325:Ent Tryz.prog 325:=Ent.mk Tryz.func325 (by kernel_rfl) rfl
theorem ent335:Ent Tryz.prog 335:=Ent.mk Tryz.func335 (by kernel_rfl) rfl
theorem ent337:Ent Tryz.prog 337:=Ent.mk Tryz.func337 (by kernel_rfl) rfl
theorem ent340:Ent Tryz.prog 340:=Ent.mk Tryz.func340 (by kernel_rfl) rfl
theorem ent364:Ent Tryz.prog 364:=Ent.mk Tryz.func364 (by kernel_rfl) rfl
abbrev u2{A B R:Type}(f:A->B->R)(x:A×B):=f x.1 x.2
abbrev u3{A B C R:Type}(f:A->B->C->R):=u2 λa=>u2 (f a)
abbrev u4{A B C D R:Type}(f:A->B->C->D->R):=u2 λa=>u3 (f a)
abbrev u5{A B C D E R:Type}(f:A->B->C->D->E->R):=u2 λa=>u4 (f a)
abbrev u6{A B C D E F R:Type}(f:A->B->C->D->E->F->R):=u2 λa=>u5 (f a)
abbrev u7{A B C D E F G R:Type}(f:A->B->C->D->E->F->G->R):=u2 λa=>u6 (f a)
abbrev u8{A B C D E F G H R:Type}(f:A->B->C->D->E->F->G->H->R):=u2 λa=>u7 (f a)
open Go.Proofs.Tryz
namespace F23
def H:Hd:=⟨[Sb],[Sz],.d,⟨[],gl,false⟩,[],f23⟩
def F:=DW
theorem rn x:H.u P_ x=F x:=by kernel_rfl
def c:Con:=⟨H.p,H.r,F⟩
theorem ok:ConOk P_ gl 23 c:=co H func23 .nil rn
end F23
namespace F113
def H:Hd:=⟨[Sb,Sb],[Sz],.d,⟨[],gl,false⟩,[],f113⟩
def F:=u2 Hi
theorem rn x:H.u P_ x=F x:=by kernel_rfl
def c:Con:=⟨H.p,H.r,F⟩
theorem ok:ConOk P_ gl 113 c:=co H func113 .nil rn
end F113
namespace F196
def H:Hd:=⟨[Sb,Sb],[Sz],.d,⟨[(113,F113.c)],gl,false⟩,[],f196⟩
def F:=u2 Kk
theorem rn x:H.u P_ x=F x:=by kernel_rfl
def c:Con:=⟨H.p,H.r,F⟩
theorem ok:ConOk P_ gl 196 c:=co H func196 (.cons F113.ok .nil) rn
end F196
namespace F336
abbrev R_:=(Int×Int)
def H:Hd:=⟨[Sb],[Si,Si],(.seq .d (.seq .d (.seq .d (.cut [4] [] (.seq .d (.blk (.loop [4,10,11,12] [] .d))) .d)))),⟨[],gl,false⟩,[],f336⟩
def t4(a:LB)(b f:Int):S:=⟨[(4,vi b),(10,vb a),(11,vi (Ac a)),(12,vi f)],[],[]⟩
def z4:Nat->S->Option R_:=H.i P_ [r,r,r,l,r,d]
def x6(b:Int):Option R_:=H.e P_ [r,r,r,r] ⟨[(4,vi b)],[],[]⟩
def x4(a:LB)(b f:Int):Option R_:=H.e P_ [r,r,r,l,r,d] (t4 a b f)
theorem e6:x6=TJ:=by kernel_rfl
theorem i4(a:LB):∀(q:Nat) (b f:Int),z4 q (t4 a b f)=Li a q b f:=
 ind (λ_ _=>by kernel_rfl) λq ih b f=>Eq.trans (b:=Yd x6 (λb f=>(z4 q) (t4 a b f)) a b f) (by kernel_rfl) (by simp only[e6,ih]<;>rfl)
theorem e4:x4=GN:=by funext a b f;exact Eq.trans (by kernel_rfl) ((i4 a Bt b f).trans (by rw[Ak];rfl))
def F:=HV
theorem rn x:H.u P_ x=F x:=Eq.trans (b:=HI x4 x) (by kernel_rfl) (by simp only[e4]<;>rfl)
def c:Con:=⟨H.p,H.r,F⟩
theorem ok:ConOk P_ gl 336 c:=co H func336 .nil rn
end F336
namespace F278
def GX(j5:LB->UInt8->UInt8->Option (Int×Int))(a:LB):Option (Int×Int):=
(Kk a ([(73:UInt8),(68:UInt8),(51:UInt8)]:LB)).bind λn=>
if(!n)then
some (0,6)
else
if(Cp (Ac a) 10)then
some (0,24)
else
(Aj a 3).bind λf=>
(Aj a 5).bind λb=>
(λo:Option (Int×Int)=>
(λp:Option (Int×Int)=>
both (
both (
bo (
j5 a f b)) [
o,
o]) [
bo2 (
bo (
j5 a f b)),
p,
p]) (
both (
o) [
bo (
j5 a f b),
both (
bo (
j5 a f b)) [
j5 a f b]])) (
both (
j5 a f b) [
bo (
j5 a f b)])
theorem cC: @GX= @AD:=by
  unfold GX AD
  try simp only[aR,MS,OY]
  all_goals
    repeat (refine funext λ_=>?_)
    repeat' first
      |with_reducible rfl
      |with_reducible refine Ma ?_ ?_
      |with_reducible refine Lo ?_ ?_ ?_
      |with_reducible refine Mc ?_ ?_ ?_ ?_
      |((with_reducible refine Tg ?_ ?_);focus (intro h;first|(subst h;rfl)|(simp only[h];rfl)|(simp[Cu,Ac,h];done)))
      |with_reducible refine Rr λx=>?_
      |with_reducible refine AN (λ_=>?_) (λ_=>?_)
      |(refine Gl (λh=>by simp only[h,So,Du,Dq,ite_self]) (λx h=>?_);(try simp only[h,Du]))
      |(refine Jb (λh=>?_) (λh=>?_)<;>simp only[h,if_true,if_false,Bool.false_eq_true])
abbrev R_:=(Int×Int)
def H:Hd:=⟨[Sb],[Si,Si],(.seq .d (.seq .d (.seq .d (.cut [0,4,5] [] (.mode false) (.seq .d (.seq .d (.cut [0,5,6] [] (.cut [0,5,6,43] [] (.keep [0,5,6,7,8,31,32,33,34,35,36,37,38,39,40,41,42,43] true) .d) (.seq .d (.cut [0,5,6] [] .d .d))))))))),⟨[(113,F113.c),(196,F196.c),(336,F336.c)],gl,false⟩,[(337,.d)],f278⟩
def x8(a:LB)(b:UInt8)(h:Int):Option R_:=H.e P_ [r,r,r,r,r,r,r,r,r] ⟨[(0,vb a),(5,.ptr 0 []),(6,vi h)],[.box 5 (vc b)],[]⟩
def x7(a:LB)(g:Int)(b:UInt8):Option R_:=H.e P_ [r,r,r,r,r,r,r] ⟨[(0,vb a),(5,.ptr 0 []),(6,vi g)],[.box 5 (vc b)],[]⟩
def x6(a:LB)(g:Int)(b:UInt8)(m:Bool):Option R_:=H.e P_ [r,r,r,r,r,r,l,r] ⟨[(0,vb a),(5,.ptr 0 []),(6,vi g),(43,vt m)],[.box 5 (vc b)],[]⟩
def x5(a:LB)(f b:UInt8):Option R_:=H.e P_ [r,r,r,r] ⟨[(0,vb a),(4,.ptr 0 []),(5,.ptr 1 [])],[.box 5 (vc f),.box 5 (vc b)],[]⟩
theorem e8:x8=AB:=by kernel_rfl
theorem e7:x7=AI:=Eq.trans (b:=KJ x8) (by kernel_rfl) (by simp only[e8]<;>rfl)
theorem e6:x6=KB:=Eq.trans (b:=KA x7) (by kernel_rfl) (by simp only[e7]<;>rfl)
theorem e5:x5=KG:=Eq.trans (b:=KO x6) (by kernel_rfl) (by simp only[e6]<;>rfl)
def F:=LO
theorem rn x:H.u P_ x=F x:=Eq.trans (b:=GX x5 x) (by kernel_rfl) (by unfold F;rw[cC];simp only[e5]<;>rfl)
def c:Con:=⟨H.p,H.r,F⟩
theorem ok:ConOk P_ gl 278 c:=cr H func278 (.cons F113.ok (.cons F196.ok (.cons F336.ok .nil))) (Ri.cons ent337 Ri.nil) rn
end F278
namespace F192
abbrev R_:=(UInt64×Int)
def H:Hd:=⟨[Sb],[Sq,Si],(.seq .d (.seq .d (.seq .d (.cut [4] [] (.seq .d (.blk (.loop [4,15,16,17] [] .d))) .d)))),⟨[],gl,false⟩,[],f192⟩
def t4(a:LB)(b:UInt64)(f:Int):S:=⟨[(4,vq b),(15,vb a),(16,vi (Ac a)),(17,vi f)],[],[]⟩
def z4:Nat->S->Option R_:=H.i P_ [r,r,r,l,r,d]
def x6(b:UInt64):Option R_:=H.e P_ [r,r,r,r] ⟨[(4,vq b)],[],[]⟩
def x4(a:LB)(b:UInt64)(f:Int):Option R_:=H.e P_ [r,r,r,l,r,d] (t4 a b f)
theorem e6:x6=kJ:=by kernel_rfl
theorem i4(a:LB):∀(q:Nat) (b:UInt64) (f:Int),z4 q (t4 a b f)=BI a q b f:=
 ind (λ_ _=>by kernel_rfl) λq ih b f=>Eq.trans (b:=QM x6 (λb f=>(z4 q) (t4 a b f)) a b f) (by kernel_rfl) (by simp only[e6,ih]<;>rfl)
theorem e4:x4=aB:=by funext a b f;exact Eq.trans (by kernel_rfl) ((i4 a Bt b f).trans (by rw[Ak];rfl))
def F:=YS
theorem rn x:H.u P_ x=F x:=Eq.trans (b:=aZ x4 x) (by kernel_rfl) (by simp only[e4]<;>rfl)
def c:Con:=⟨H.p,H.r,F⟩
theorem ok:ConOk P_ gl 192 c:=co H func192 .nil rn
end F192
namespace F110
def H:Hd:=⟨[Sb,Si,Si],[Sq,Si],.d,⟨[(192,F192.c)],gl,false⟩,[],f110⟩
def F:=u3 TI
theorem rn x:H.u P_ x=F x:=by kernel_rfl
def c:Con:=⟨H.p,H.r,F⟩
theorem ok:ConOk P_ gl 110 c:=co H func110 (.cons F192.ok .nil) rn
end F110
namespace F187
def H:Hd:=⟨[Sq,Si],[Sz],.d,⟨[],gl,false⟩,[],f187⟩
def F:=u2 mF
theorem rn x:H.u P_ x=F x:=by kernel_rfl
def c:Con:=⟨H.p,H.r,F⟩
theorem ok:ConOk P_ gl 187 c:=co H func187 .nil rn
end F187
namespace F103
abbrev R_:=(LB×Int)
def H:Hd:=⟨[Sq,Si],[Ob 5,Si],(.seq .d (.seq .d (.seq .d (.seq .d (.cut [6] [] (.seq .d (.blk (.loop [0,6,21,22] [] .d))) .d))))),⟨[(187,F187.c)],gl,false⟩,[],f103⟩
def t4(f:UInt64)(g:LB)(b:Int)(a:LB):S:=⟨[(0,vq f),(6,.own 0),(21,vi (Ac g)),(22,vi b)],[Ab 5 a],[]⟩
def z4:Nat->S->Option R_:=H.i P_ [r,r,r,r,l,r,d]
def x6(a:LB):Option R_:=H.e P_ [r,r,r,r,r] ⟨[(6,.own 0)],[Ab 5 a],[]⟩
def x4(f:UInt64)(g:LB)(b:Int)(a:LB):Option R_:=H.e P_ [r,r,r,r,l,r,d] (t4 f g b a)
theorem e6:x6=YF:=by kernel_rfl
theorem i4(f:UInt64)(g:LB):∀(q:Nat) (b:Int) (a:LB),z4 q (t4 f g b a)=BZ f g q b a:=
 ind (λ_ _=>by kernel_rfl) λq ih b a=>Eq.trans (b:=QI x6 (λb a=>(z4 q) (t4 f g b a)) f g b a) (by kernel_rfl) (by simp only[e6,ih]<;>rfl)
theorem e4:x4=ZW:=by funext f g b a;exact Eq.trans (by kernel_rfl) ((i4 f g Bt b a).trans (by rw[Ak];rfl))
def F:=u2 Tp
theorem rn x:H.u P_ x=F x:=Eq.trans (b:=u2 (ZN x4) x) (by kernel_rfl) (by simp only[e4]<;>rfl)
def c:Con:=⟨H.p,H.r,F⟩
theorem ok:ConOk P_ gl 103 c:=co H func103 (.cons F187.ok .nil) rn
end F103
namespace F198
abbrev R_:=LB
def H:Hd:=⟨[Si,Si,Sq],[Ob 5],(.seq .d (.seq .d (.cut [7] [] (.seq .d (.blk (.loop [7,20,21,22] [] .d))) .d))),⟨[(103,F103.c)],gl,false⟩,[],f198⟩
def t4(a b:Int)(f:UInt64)(h:Int)(g:LB):S:=⟨[(7,.own 0),(20,.own 1),(21,vi (Ac ([(2000:UInt64),(Ad (Ae a (32:Int)):UInt64),(Ad b:UInt64),f,(0:UInt64),(0:UInt64)]:LQ))),(22,vi h)],[Ab 5 g,.arr 158 (.int .u64) ([(2000:UInt64),(Ad (Ae a (32:Int)):UInt64),(Ad b:UInt64),f,(0:UInt64),(0:UInt64)]:LQ)],[]⟩
def z4:Nat->S->Option R_:=H.i P_ [r,r,l,r,d]
def x6(g:LB):Option R_:=H.e P_ [r,r,r] ⟨[(7,.own 0)],[Ab 5 g],[]⟩
def x4(a b:Int)(f:UInt64)(h:Int)(g:LB):Option R_:=H.e P_ [r,r,l,r,d] (t4 a b f h g)
theorem e6:x6=dV:=by kernel_rfl
theorem i4(a b:Int)(f:UInt64):∀(q:Nat) (h:Int) (g:LB),z4 q (t4 a b f h g)=BD a b f q h g:=
 ind (λ_ _=>by kernel_rfl) λq ih h g=>Eq.trans (b:=UT x6 (λh g=>(z4 q) (t4 a b f h g)) a b f h g) (by kernel_rfl) (by simp only[e6,ih]<;>rfl)
theorem e4:x4=dR:=by funext a b f h g;exact Eq.trans (by kernel_rfl) ((i4 a b f Bt h g).trans (by rw[Ak];rfl))
def F:=u3 bH
theorem rn x:H.u P_ x=F x:=Eq.trans (b:=u3 (eL x4) x) (by kernel_rfl) (by simp only[e4]<;>rfl)
def c:Con:=⟨H.p,H.r,F⟩
theorem ok:ConOk P_ gl 198 c:=co H func198 (.cons F103.ok .nil) rn
end F198
namespace F197
def H:Hd:=⟨[Sb,Sq],[.agg [Si,Si],Sz],.d,⟨[(110,F110.c),(113,F113.c),(198,F198.c)],gl,false⟩,[],f197⟩
def F:=u2 MN
theorem rn x:H.u P_ x=F x:=by kernel_rfl
def c:Con:=⟨H.p,H.r,F⟩
theorem ok:ConOk P_ gl 197 c:=co H func197 (.cons F110.ok (.cons F113.ok (.cons F198.ok .nil))) rn
end F197
namespace F279
def H:Hd:=⟨[Sb],[Si,Si],.d,⟨[(113,F113.c),(196,F196.c),(197,F197.c),(198,F198.c)],gl,false⟩,[],f279⟩
def F:=bK
theorem rn x:H.u P_ x=F x:=by kernel_rfl
def c:Con:=⟨H.p,H.r,F⟩
theorem ok:ConOk P_ gl 279 c:=co H func279 (.cons F113.ok (.cons F196.ok (.cons F197.ok (.cons F198.ok .nil)))) rn
end F279
namespace F190
def H:Hd:=⟨[Sb],[Si,Si],.d,⟨[(278,F278.c),(279,F279.c)],gl,false⟩,[],f190⟩
def F:=Ws
theorem rn x:H.u P_ x=F x:=by kernel_rfl
def c:Con:=⟨H.p,H.r,F⟩
theorem ok:ConOk P_ gl 190 c:=co H func190 (.cons F278.ok (.cons F279.ok .nil)) rn
end F190
theorem qG:ConOk Tryz.prog gl 49 SE:=pM ent49 F190.ok
namespace F191
def H:Hd:=⟨[Ss,Ss],[Sz],.d,⟨[],gl,false⟩,[],f191⟩
def F:=u2 Iz
theorem rn x:H.u P_ x=F x:=by kernel_rfl
def c:Con:=⟨H.p,H.r,F⟩
theorem ok:ConOk P_ gl 191 c:=co H func191 .nil rn
end F191
namespace F109
def H:Hd:=⟨[Ss,Ss],[Sz],.d,⟨[(191,F191.c)],gl,false⟩,[],f109⟩
def F:=u2 Vj
theorem rn x:H.u P_ x=F x:=by kernel_rfl
def c:Con:=⟨H.p,H.r,F⟩
theorem ok:ConOk P_ gl 109 c:=co H func109 (.cons F191.ok .nil) rn
end F109
namespace F188
abbrev R_:=(UInt32×Int)
abbrev K_:=S->Option R_
def H:Hd:=⟨[Su,Sb],[Su,Si],(.seq .d (.seq .d (.cut [0,1,6] [] (.keep [0,1,6,12] true) (.cut [0] [] (.seq .d (.blk (.loop [0,6,13,14,15] [] .d))) .d)))),⟨[],gl,false⟩,[(277,(.seq .d (.seq .d (.cut [1] [] (.seq .d (.blk (.loop [1,5] [] (.seq .d (.seq .d (.cut [1,5] [] (.blk (.seq .d (.seq .d (.cut [1,2,3,5] [] (.seq .d (.blk (.loop [1,2,3,5,10] [] .d))) .d)))) .d)))))) .d))))],f188⟩
def t28(a:LB)(b:LU)(h:UInt32)(m:Int):S:=⟨[(0,vu h),(6,.ptr 0 []),(13,vb a),(14,vi (Ac a)),(15,vi m)],[.box 407 (.val (.vec 256 (.int .u32)) b)],[]⟩
def z28:Nat->S->Option R_:=H.i P_ [r,r,r,l,r,d]
def t21(f:UInt32)(a:LB)(g:Int)(b:LU)(k:UInt32)(n:Int):S:=⟨[(1,.ptr 0 []),(2,vi g),(3,vu k),(5,vi g),(10,vi n)],[.box 407 (.val (.vec 256 (.int .u32)) b)],[[(0,vu f),(1,vb a)]]⟩
def z21(Di:K_):Nat->S->Option R_:=H.i P_ [r,r,l,(call 0 277),r,r,l,r,d,(lp Di),r,r,l,d,r,r,l,r,d]
def t16(f:UInt32)(a:LB)(g:Int)(b:LU):S:=⟨[(1,.ptr 0 []),(5,vi g)],[.box 407 (.val (.vec 256 (.int .u32)) b)],[[(0,vu f),(1,vb a)]]⟩
def z16:Nat->S->Option R_:=H.i P_ [r,r,l,(call 0 277),r,r,l,r,d]
def x30(h:UInt32):Option R_:=H.e P_ [r,r,r,r] ⟨[(0,vu h)],[],[]⟩
def x28(a:LB)(b:LU)(h:UInt32)(m:Int):Option R_:=H.e P_ [r,r,r,l,r,d] (t28 a b h m)
def x27(f:UInt32)(a:LB)(b:LU):Option R_:=H.e P_ [r,r,r] ⟨[(0,vu f),(1,vb a),(6,.ptr 0 [])],[.box 407 (.val (.vec 256 (.int .u32)) b)],[]⟩
def x26(f:UInt32)(a:LB)(b:LU):Option R_:=H.e P_ [r,r,l,(call 0 277),r,r,r] ⟨[(1,.ptr 0 [])],[.box 407 (.val (.vec 256 (.int .u32)) b)],[[(0,vu f),(1,vb a)]]⟩
def x24(Di:K_)(f:UInt32)(a:LB)(g:Int)(o:LU):Option R_:=H.e P_ [r,r,l,(call 0 277),r,r,l,r,d,(lp Di),r,r,r] ⟨[(1,.ptr 0 []),(5,vi g)],[.box 407 (.val (.vec 256 (.int .u32)) o)],[[(0,vu f),(1,vb a)]]⟩
def x23(Di:K_)(f:UInt32)(a:LB)(g:Int)(k:UInt32)(b:LU):Option R_:=H.e P_ [r,r,l,(call 0 277),r,r,l,r,d,(lp Di),r,r,l,d,r,r,r] ⟨[(1,.ptr 0 []),(2,vi g),(3,vu k),(5,vi g)],[.box 407 (.val (.vec 256 (.int .u32)) b)],[[(0,vu f),(1,vb a)]]⟩
def x21(Di:K_)(f:UInt32)(a:LB)(g:Int)(b:LU)(k:UInt32)(n:Int):Option R_:=H.e P_ [r,r,l,(call 0 277),r,r,l,r,d,(lp Di),r,r,l,d,r,r,l,r,d] (t21 f a g b k n)
def x16(f:UInt32)(a:LB)(g:Int)(b:LU):Option R_:=H.e P_ [r,r,l,(call 0 277),r,r,l,r,d] (t16 f a g b)
theorem e30:x30=NK:=by kernel_rfl
theorem i28(a:LB)(b:LU):∀(q:Nat) (h:UInt32) (m:Int),z28 q (t28 a b h m)=Qp a b q h m:=
 ind (λ_ _=>by kernel_rfl) λq ih h m=>Eq.trans (b:=ER x30 (λh m=>(z28 q) (t28 a b h m)) a b h m) (by kernel_rfl) (by simp only[e30,ih]<;>rfl)
theorem e28:x28=OE:=by funext a b h m;exact Eq.trans (by kernel_rfl) ((i28 a b Bt h m).trans (by rw[Ak];rfl))
theorem e27:x27=NN:=Eq.trans (b:=NT x28) (by kernel_rfl) (by simp only[e28]<;>rfl)
theorem e26:x26=DQ:=Eq.trans (b:=NL x27) (by kernel_rfl) (by simp only[e27]<;>rfl)
theorem e24(Di:K_)(f:UInt32)(a:LB):x24 Di f a=PF (λg b=>Di (t16 f a g b)) f a:=by kernel_rfl
theorem e23(Di:K_)(f:UInt32)(a:LB):x23 Di f a=DN (λg b=>Di (t16 f a g b)) f a:=Eq.trans (b:=OB (x24 Di f a) f a) (by kernel_rfl) (by simp only[e24]<;>rfl)
theorem i21(Di:K_)(f:UInt32)(a:LB)(g:Int)(b:LU):∀(q:Nat) (k:UInt32) (n:Int),z21 Di q (t21 f a g b k n)=Qh (λg b=>Di (t16 f a g b)) f a g b q k n:=
 ind (λ_ _=>by kernel_rfl) λq ih k n=>Eq.trans (b:=DF (x23 Di f a) (λk n=>(z21 Di q) (t21 f a g b k n)) f a g b k n) (by kernel_rfl) (by simp only[e23,ih]<;>rfl)
theorem e21(Di:K_)(f:UInt32)(a:LB):x21 Di f a=MX (λg b=>Di (t16 f a g b)) f a:=by funext g b k n;exact Eq.trans (by kernel_rfl) ((i21 Di f a g b Bt k n).trans (by rw[Ak];rfl))
theorem i16(f:UInt32)(a:LB):∀(q:Nat) (g:Int) (b:LU),z16 q (t16 f a g b)=Lr f a q g b:=
 ind (λ_ _=>by kernel_rfl) λq ih g b=>Eq.trans (b:=ES (x21 (z16 q) f a) x26 f a g b) (by kernel_rfl) (by simp only[e21,e26,ih]<;>rfl)
theorem e16:x16=NG:=by funext f a g b;exact Eq.trans (by kernel_rfl) ((i16 f a Bt g b).trans (by rw[Ak];rfl))
def F:=u2 WB
theorem rn x:H.u P_ x=F x:=Eq.trans (b:=u2 (RJ x16) x) (by kernel_rfl) (by simp only[e16]<;>rfl)
def c:Con:=⟨H.p,H.r,F⟩
theorem ok:ConOk P_ gl 188 c:=cr H func188 .nil (Ri.cons ent277 Ri.nil) rn
end F188
namespace F104
def H:Hd:=⟨[Sb],[Su,Si],.d,⟨[(188,F188.c)],gl,false⟩,[],f104⟩
def F:=GV
theorem rn x:H.u P_ x=F x:=by kernel_rfl
def c:Con:=⟨H.p,H.r,F⟩
theorem ok:ConOk P_ gl 104 c:=co H func104 (.cons F188.ok .nil) rn
end F104
namespace F111
abbrev R_:=Bool
def H:Hd:=⟨[.agg [Si,Si,Si,Si,Si]],[Sz],(.seq .d (.cut [1] [] .d .d)),⟨[],gl,false⟩,[],f111⟩
def x2(b f a g h:Int):Option R_:=H.e P_ [r,r] ⟨[(1,.ptr 0 [])],[.box 33 (.agg [vi b,vi f,vi a,vi g,vi h])],[]⟩
theorem e2:x2=Yg:=by kernel_rfl
def F:=u5 Zo
theorem rn x:H.u P_ x=F x:=Eq.trans (b:=u5 (GR x2) x) (by kernel_rfl) (by simp only[e2]<;>rfl)
def c:Con:=⟨H.p,H.r,F⟩
theorem ok:ConOk P_ gl 111 c:=co H func111 .nil rn
end F111
namespace F120
def H:Hd:=⟨[Si],[Si,Si],.d,⟨[],gl,false⟩,[],f120⟩
def F:=Rn
theorem rn x:H.u P_ x=F x:=by kernel_rfl
def c:Con:=⟨H.p,H.r,F⟩
theorem ok:ConOk P_ gl 120 c:=co H func120 .nil rn
end F120
namespace F119
def H:Hd:=⟨[Si,Si],[Si,Si],.d,⟨[(120,F120.c)],gl,false⟩,[],f119⟩
def F:=u2 Hl
theorem rn x:H.u P_ x=F x:=by kernel_rfl
def c:Con:=⟨H.p,H.r,F⟩
theorem ok:ConOk P_ gl 119 c:=co H func119 (.cons F120.ok .nil) rn
end F119
namespace F112
def H:Hd:=⟨[.agg [Si,Si,Si,Si,Si]],[Sz],.d,⟨[(119,F119.c)],gl,false⟩,[],f112⟩
def F:=u5 JL
theorem rn x:H.u P_ x=F x:=by kernel_rfl
def c:Con:=⟨H.p,H.r,F⟩
theorem ok:ConOk P_ gl 112 c:=co H func112 (.cons F119.ok .nil) rn
end F112
namespace F50
abbrev R_:=(Int×Int×Int×Int×Int×Int)
def H:Hd:=⟨[Sb],[.agg [Si,Si,Si,Si,Si],Si],(.seq .d (.seq .d (.seq .d (.seq .d (.seq .d (.seq .d (.seq .d (.cut [2,8] [] (.seq .d (.blk (.loop [0,2,8,9,44,45] [] .d))) .d)))))))),⟨[(104,F104.c),(109,F109.c),(110,F110.c),(111,F111.c),(112,F112.c)],gl,false⟩,[],f50⟩
def t4(b:LB)(g f:Int)(a:LI):S:=⟨[(0,vb b),(2,.ptr 0 []),(8,.ptr 1 []),(9,vi g),(44,.val (.vec 5 (.int .i64)) ([(2:Int),(2:Int),(2:Int),(4:Int),(4:Int)]:LI)),(45,vi f)],[.box 33 (.agg [vi 0,vi 0,vi 0,vi 0,vi 0]),.box 156 (.val (.vec 5 (.int .i64)) a)],[]⟩
def z4:Nat->S->Option R_:=H.i P_ [r,r,r,r,r,r,r,l,r,d]
def x6(a:LI):Option R_:=H.e P_ [r,r,r,r,r,r,r,r] ⟨[(2,.ptr 0 []),(8,.ptr 1 [])],[.box 33 (.agg [vi 0,vi 0,vi 0,vi 0,vi 0]),.box 156 (.val (.vec 5 (.int .i64)) a)],[]⟩
def x4(b:LB)(g f:Int)(a:LI):Option R_:=H.e P_ [r,r,r,r,r,r,r,l,r,d] (t4 b g f a)
theorem e6:x6=CX:=by kernel_rfl
theorem i4(b:LB):∀(q:Nat) (g f:Int) (a:LI),z4 q (t4 b g f a)=Lq b q g f a:=
 ind (λ_ _ _=>by kernel_rfl) λq ih g f a=>Eq.trans (b:=CZ x6 (λg f a=>(z4 q) (t4 b g f a)) b g f a) (by kernel_rfl) (by simp only[e6,ih]<;>rfl)
theorem e4:x4=DM:=by funext b g f a;exact Eq.trans (by kernel_rfl) ((i4 b Bt g f a).trans (by rw[Ak];rfl))
def F:=IM
theorem rn x:H.u P_ x=F x:=Eq.trans (b:=OV x4 x) (by kernel_rfl) (by simp only[e4]<;>rfl)
def c:Con:=⟨H.p,H.r,F⟩
theorem ok:ConOk P_ gl 50 c:=co H func50 (.cons F104.ok (.cons F109.ok (.cons F110.ok (.cons F111.ok (.cons F112.ok .nil))))) rn
end F50
namespace F102
def H:Hd:=⟨[.agg [Si,Si,Si,Si,Si]],[Si],.d,⟨[(111,F111.c),(112,F112.c)],gl,false⟩,[],f102⟩
def F:=u5 LM
theorem rn x:H.u P_ x=F x:=by kernel_rfl
def c:Con:=⟨H.p,H.r,F⟩
theorem ok:ConOk P_ gl 102 c:=co H func102 (.cons F111.ok (.cons F112.ok .nil)) rn
end F102
namespace F339
def H:Hd:=⟨[Sq,Sq],[Sq,Sq],.d,⟨[],gl,false⟩,[],f339⟩
def F:=u2 KK
theorem rn x:H.u P_ x=F x:=by kernel_rfl
def c:Con:=⟨H.p,H.r,F⟩
theorem ok:ConOk P_ gl 339 c:=co H func339 .nil rn
end F339
namespace F280
def H:Hd:=⟨[Sq,Sq],[Sq,Sq],.d,⟨[(339,F339.c)],gl,false⟩,[],f280⟩
def F:=u2 ID
theorem rn x:H.u P_ x=F x:=by kernel_rfl
def c:Con:=⟨H.p,H.r,F⟩
theorem ok:ConOk P_ gl 280 c:=co H func280 (.cons F339.ok .nil) rn
end F280
namespace F193
def Ng(j10:LI->Option (LI))(bk8:Int->LI->Option (LI))(b:Int)(a:LI):Option (LI):=
if(Cp b (Ac a))then
both (
(eX (Ac a) b (Ac a)).bind λ_=>
(eX (Ac a) 0 b).bind λ_=>
bk8 (Ae b (OU ((Ac a)-b) (TE a 0 (b-(0:Int))).length)) (Ud a b ((Ac a)-b) (TE a 0 (b-(0:Int))))) [
(eX (Ac a) 0 b).bind λ_=>
(eX (Ac a) b (Ac a)).bind λ_=>
bk8 (Ae b (OU ((Ac a)-b) (TE a 0 (b-(0:Int))).length)) (Ud a b ((Ac a)-b) (TE a 0 (b-(0:Int))))]
else
j10 a
theorem KD: @Ng= @Gg:=by
  unfold Ng Gg
  repeat (refine funext λ_=>?_)
  repeat' first
    |with_reducible rfl
    |with_reducible refine Ma ?_ ?_
    |with_reducible refine Lo ?_ ?_ ?_
    |with_reducible refine Mc ?_ ?_ ?_ ?_
    |((with_reducible refine Tg ?_ ?_);focus (intro h;first|(subst h;rfl)|(simp only[h];rfl)|(simp[Cu,Ac,h];done)))
    |with_reducible refine Rr λx=>?_
    |with_reducible refine AN (λ_=>?_) (λ_=>?_)
    |(refine Gl (λh=>by simp only[h,So,Du,Dq,ite_self]) (λx h=>?_);(try simp only[h,Du]))
    |(refine Jb (λh=>?_) (λh=>?_)<;>simp only[h,if_true,if_false,Bool.false_eq_true])
abbrev R_:=LI
def H:Hd:=⟨[Sl,Si],[Ol 3],(.seq .d (.cut [0,1] [] .d (.seq .d (.cut [0,6] [] .d (.seq .d (.seq .d (.cut [7] [] (.blk (.loop [7,8] [] (.seq .d (.blk (.mode false))))) .d))))))),⟨[(280,F280.c)],gl,true⟩,[],f193⟩
def t8(b:Int)(a:LI):S:=⟨[(7,.own 0),(8,vi b)],[Ai 3 a],[]⟩
def z8:Nat->S->Option R_:=H.i P_ [r,r,r,r,r,r,l,d]
def x10(a:LI):Option R_:=H.e P_ [r,r,r,r,r,r,r] ⟨[(7,.own 0)],[Ai 3 a],[]⟩
def x8(b:Int)(a:LI):Option R_:=H.e P_ [r,r,r,r,r,r,l,d] (t8 b a)
def x7(f:LI)(g:UInt64):Option R_:=H.e P_ [r,r,r,r] ⟨[(0,vl f),(6,vq g)],[],[]⟩
def x6(f:LI)(h:Int):Option R_:=H.e P_ [r,r] ⟨[(0,vl f),(1,vi h)],[],[]⟩
theorem e10:x10=Il:=by kernel_rfl
theorem i8:∀(q:Nat) (b:Int) (a:LI),z8 q (t8 b a)=Dw q b a:=
 ind (λ_ _=>by kernel_rfl) λq ih b a=>Eq.trans (b:=Ng x10 (λb a=>(z8 q) (t8 b a)) b a) (by kernel_rfl) (by rw[KD];simp only[e10,ih]<;>rfl)
theorem e8:x8=Oz:=by funext b a;exact Eq.trans (by kernel_rfl) ((i8 Bt b a).trans (by rw[Ak];rfl))
theorem e7:x7=Ou:=Eq.trans (b:=Pa x8) (by kernel_rfl) (by simp only[e8]<;>rfl)
theorem e6:x6=Pb:=Eq.trans (b:=Oo x7) (by kernel_rfl) (by simp only[e7]<;>rfl)
def F:=u2 Mt
theorem rn x:H.u P_ x=F x:=Eq.trans (b:=u2 (Oy x6) x) (by kernel_rfl) (by simp only[e6]<;>rfl)
def c:Con:=⟨H.p,H.r,F⟩
theorem ok:ConOk P_ gl 193 c:=co H func193 (.cons F280.ok .nil) rn
end F193
namespace F281
abbrev R_:=LI
def H:Hd:=⟨[.lf (.list (.list (.int .i64))) none],[Ol 3],(.seq .d (.seq .d (.cut [0,3] [] (.seq .d (.blk (.loop [0,3,9,10,11] [] .d))) (.cut [0,6] [⟨6,[],.own 3 (.int .i64)⟩] (.keep [0,3,6,23,24] true) (.cut [6] [] (.seq .d (.blk (.loop [6,25,26,27] [] .d))) .d))))),⟨[],gl,true⟩,[(340,(.seq .d (.cut [0,1] [] .d .d)))],f281⟩
def t14(a:List LI)(g:Int)(f:LI):S:=⟨[(6,.own 0),(25,.val (.list (.list (.int .i64))) a),(26,vi (Ac a)),(27,vi g)],[Ai 3 f],[]⟩
def z14:Nat->S->Option R_:=H.i P_ [r,r,r,r,l,r,d]
def t9(a:List LI)(b h:Int):S:=⟨[(0,.val (.list (.list (.int .i64))) a),(3,vi b),(9,.val (.list (.list (.int .i64))) a),(10,vi (Ac a)),(11,vi h)],[],[]⟩
def z9:Nat->S->Option R_:=H.i P_ [r,r,l,r,d]
def x16(f:LI):Option R_:=H.e P_ [r,r,r,r,r] ⟨[(6,.own 0)],[Ai 3 f],[]⟩
def x14(a:List LI)(g:Int)(f:LI):Option R_:=H.e P_ [r,r,r,r,l,r,d] (t14 a g f)
def x13(a:List LI)(k:LI):Option R_:=H.e P_ [r,r,r,r] ⟨[(0,.val (.list (.list (.int .i64))) a),(6,.own 0)],[Ai 3 k],[]⟩
def x12(b:Int)(a:List LI):Option R_:=H.e P_ [r,r,r,l,(call 1 340),r,r] ⟨[(0,.nils),(1,vi b)],[],[[(0,.val (.list (.list (.int .i64))) a),(3,vi b),(23,vi b)]]⟩
def x11(a:List LI)(b:Int):Option R_:=H.e P_ [r,r,r] ⟨[(0,.val (.list (.list (.int .i64))) a),(3,vi b)],[],[]⟩
def x9(a:List LI)(b h:Int):Option R_:=H.e P_ [r,r,l,r,d] (t9 a b h)
theorem e16:x16=Ys:=by kernel_rfl
theorem i14(a:List LI):∀(q:Nat) (g:Int) (f:LI),z14 q (t14 a g f)=Dm a q g f:=
 ind (λ_ _=>by kernel_rfl) λq ih g f=>Eq.trans (b:=Fi x16 (λg f=>(z14 q) (t14 a g f)) a g f) (by kernel_rfl) (by simp only[e16,ih]<;>rfl)
theorem e14:x14=Nd:=by funext a g f;exact Eq.trans (by kernel_rfl) ((i14 a Bt g f).trans (by rw[Ak];rfl))
theorem e13:x13=Io:=Eq.trans (b:=Mz x14) (by kernel_rfl) (by simp only[e14]<;>rfl)
theorem e12:x12=Nc:=Eq.trans (b:=Na x13) (by kernel_rfl) (by simp only[e13]<;>rfl)
theorem e11:x11=Mw:=Eq.trans (b:=Nf x12) (by kernel_rfl) (by simp only[e12]<;>rfl)
theorem i9(a:List LI):∀(q:Nat) (b h:Int),z9 q (t9 a b h)=Dv a q b h:=
 ind (λ_ _=>by kernel_rfl) λq ih b h=>Eq.trans (b:=Gf x11 (λb h=>(z9 q) (t9 a b h)) a b h) (by kernel_rfl) (by simp only[e11,ih]<;>rfl)
theorem e9:x9=Oq:=by funext a b h;exact Eq.trans (by kernel_rfl) ((i9 a Bt b h).trans (by rw[Ak];rfl))
def F:=Mi
theorem rn x:H.u P_ x=F x:=Eq.trans (b:=Ox x9 x) (by kernel_rfl) (by simp only[e9]<;>rfl)
def c:Con:=⟨H.p,H.r,F⟩
theorem ok:ConOk P_ gl 281 c:=cr H func281 .nil (Ri.cons ent340 Ri.nil) rn
end F281
namespace F194
def H:Hd:=⟨[Sl,Sl],[Ol 3],.d,⟨[(281,F281.c)],gl,false⟩,[],f194⟩
def F:=u2 OG
theorem rn x:H.u P_ x=F x:=by kernel_rfl
def c:Con:=⟨H.p,H.r,F⟩
theorem ok:ConOk P_ gl 194 c:=co H func194 (.cons F281.ok .nil) rn
end F194
namespace F114
def H:Hd:=⟨[Si,Si],[Ol 3,Si],.d,⟨[(119,F119.c),(120,F120.c),(193,F193.c),(194,F194.c)],gl,false⟩,[],f114⟩
def F:=u2 QE
theorem rn x:H.u P_ x=F x:=by kernel_rfl
def c:Con:=⟨H.p,H.r,F⟩
theorem ok:ConOk P_ gl 114 c:=co H func114 (.cons F119.ok (.cons F120.ok (.cons F193.ok (.cons F194.ok .nil)))) rn
end F114
namespace F52
def H:Hd:=⟨[.agg [Si,Si,Si,Si,Si]],[Ol 3,Si],.d,⟨[(102,F102.c),(114,F114.c)],gl,false⟩,[],f52⟩
def F:=u5 Zq
theorem rn x:H.u P_ x=F x:=by kernel_rfl
def c:Con:=⟨H.p,H.r,F⟩
theorem ok:ConOk P_ gl 52 c:=co H func52 (.cons F102.ok (.cons F114.ok .nil)) rn
end F52
namespace F64
def H:Hd:=⟨[Sb],[.agg [.agg [Si,Si,Si,Si,Si],.agg [Si,Si,Si,Si,Si],Ol 3],Si],.d,⟨[(49,SE),(50,F50.c),(52,F52.c)],gl,false⟩,[],f64⟩
def F:=XZ
theorem rn x:H.u P_ x=F x:=by kernel_rfl
def c:Con:=⟨H.p,H.r,F⟩
theorem ok:ConOk P_ gl 64 c:=co H func64 (.cons qG (.cons F50.ok (.cons F52.ok .nil))) rn
end F64
namespace F199
abbrev R_:=(UInt64×Int)
abbrev K_:=S->Option R_
def H:Hd:=⟨[Sq,Sb],[Sq,Si],(.seq .d (.seq .d (.cut [4,5] [] (.keep [0,1,4,5,9,10,11,12] true) .d))),⟨[],gl,false⟩,[(282,(.seq .d (.cut [1] [] (.seq .d (.blk (.loop [0,1,9,10,11] [] .d))) .d))),(283,(.seq .d (.seq .d (.cut [1] [] (.seq .d (.blk (.loop [1,5] [] (.seq .d (.seq .d (.cut [1,5] [] (.blk (.seq .d (.seq .d (.cut [1,2,3,5] [] (.seq .d (.blk (.loop [1,2,3,5,11] [] .d))) .d)))) .d)))))) .d))))],f199⟩
def t27(a:LB)(b:UInt64)(f:LQ)(h:UInt64)(m:Int):S:=⟨[(0,.ptr 0 []),(1,vq h),(9,vb a),(10,vi (Ac a)),(11,vi m)],[.box 413 (.val (.vec 256 (.int .u64)) f)],[[(0,vq b),(1,vb a),(4,vq 0),(5,vi 0),(9,.ptr 0 []),(10,vq b),(11,vb a)]]⟩
def z27:Nat->S->Option R_:=H.i P_ [r,r,l,(call 3 282),r,l,r,d]
def t21(b:UInt64)(a:LB)(g:Int)(f:LQ)(k:UInt64)(n:Int):S:=⟨[(1,.ptr 0 []),(2,vi g),(3,vq k),(5,vi g),(11,vi n)],[.box 413 (.val (.vec 256 (.int .u64)) f)],[[(0,vq b),(1,vb a),(4,vq 0),(5,vi 0)]]⟩
def z21(Di:K_):Nat->S->Option R_:=H.i P_ [r,r,l,(call 0 283),r,r,l,r,d,(lp Di),r,r,l,d,r,r,l,r,d]
def t16(b:UInt64)(a:LB)(g:Int)(f:LQ):S:=⟨[(1,.ptr 0 []),(5,vi g)],[.box 413 (.val (.vec 256 (.int .u64)) f)],[[(0,vq b),(1,vb a),(4,vq 0),(5,vi 0)]]⟩
def z16:Nat->S->Option R_:=H.i P_ [r,r,l,(call 0 283),r,r,l,r,d]
def x30(h:UInt64):Option R_:=H.e P_ [r,r,r] ⟨[(4,vq h),(5,vi 0)],[],[]⟩
def x29(h b:UInt64)(a:LB)(f:LQ):Option R_:=H.e P_ [r,r,l,(call 3 282),r,r] ⟨[(1,vq h)],[.box 413 (.val (.vec 256 (.int .u64)) f)],[[(0,vq b),(1,vb a),(4,vq 0),(5,vi 0),(9,.ptr 0 []),(10,vq b),(11,vb a)]]⟩
def x27(a:LB)(b:UInt64)(f:LQ)(h:UInt64)(m:Int):Option R_:=H.e P_ [r,r,l,(call 3 282),r,l,r,d] (t27 a b f h m)
def x26(b:UInt64)(a:LB)(f:LQ):Option R_:=H.e P_ [r,r,l,(call 0 283),r,r,r] ⟨[(1,.ptr 0 [])],[.box 413 (.val (.vec 256 (.int .u64)) f)],[[(0,vq b),(1,vb a),(4,vq 0),(5,vi 0)]]⟩
def x24(Di:K_)(b:UInt64)(a:LB)(g:Int)(o:LQ):Option R_:=H.e P_ [r,r,l,(call 0 283),r,r,l,r,d,(lp Di),r,r,r] ⟨[(1,.ptr 0 []),(5,vi g)],[.box 413 (.val (.vec 256 (.int .u64)) o)],[[(0,vq b),(1,vb a),(4,vq 0),(5,vi 0)]]⟩
def x23(Di:K_)(b:UInt64)(a:LB)(g:Int)(k:UInt64)(f:LQ):Option R_:=H.e P_ [r,r,l,(call 0 283),r,r,l,r,d,(lp Di),r,r,l,d,r,r,r] ⟨[(1,.ptr 0 []),(2,vi g),(3,vq k),(5,vi g)],[.box 413 (.val (.vec 256 (.int .u64)) f)],[[(0,vq b),(1,vb a),(4,vq 0),(5,vi 0)]]⟩
def x21(Di:K_)(b:UInt64)(a:LB)(g:Int)(f:LQ)(k:UInt64)(n:Int):Option R_:=H.e P_ [r,r,l,(call 0 283),r,r,l,r,d,(lp Di),r,r,l,d,r,r,l,r,d] (t21 b a g f k n)
def x16(b:UInt64)(a:LB)(g:Int)(f:LQ):Option R_:=H.e P_ [r,r,l,(call 0 283),r,r,l,r,d] (t16 b a g f)
theorem e30:x30=OI:=by kernel_rfl
theorem e29:x29=OP:=Eq.trans (b:=NB x30) (by kernel_rfl) (by simp only[e30]<;>rfl)
theorem i27(a:LB)(b:UInt64)(f:LQ):∀(q:Nat) (h:UInt64) (m:Int),z27 q (t27 a b f h m)=Qk a b f q h m:=
 ind (λ_ _=>by kernel_rfl) λq ih h m=>Eq.trans (b:=DO x29 (λh m=>(z27 q) (t27 a b f h m)) a b f h m) (by kernel_rfl) (by simp only[e29,ih]<;>rfl)
theorem e27:x27=NH:=by funext a b f h m;exact Eq.trans (by kernel_rfl) ((i27 a b f Bt h m).trans (by rw[Ak];rfl))
theorem e26:x26=EC:=Eq.trans (b:=MY x27) (by kernel_rfl) (by simp only[e27]<;>rfl)
theorem e24(Di:K_)(b:UInt64)(a:LB):x24 Di b a=NM (λg f=>Di (t16 b a g f)) b a:=by kernel_rfl
theorem e23(Di:K_)(b:UInt64)(a:LB):x23 Di b a=DG (λg f=>Di (t16 b a g f)) b a:=Eq.trans (b:=NF (x24 Di b a) b a) (by kernel_rfl) (by simp only[e24]<;>rfl)
theorem i21(Di:K_)(b:UInt64)(a:LB)(g:Int)(f:LQ):∀(q:Nat) (k:UInt64) (n:Int),z21 Di q (t21 b a g f k n)=Qx (λg f=>Di (t16 b a g f)) b a g f q k n:=
 ind (λ_ _=>by kernel_rfl) λq ih k n=>Eq.trans (b:=CP (x23 Di b a) (λk n=>(z21 Di q) (t21 b a g f k n)) b a g f k n) (by kernel_rfl) (by simp only[e23,ih]<;>rfl)
theorem e21(Di:K_)(b:UInt64)(a:LB):x21 Di b a=PN (λg f=>Di (t16 b a g f)) b a:=by funext g f k n;exact Eq.trans (by kernel_rfl) ((i21 Di b a g f Bt k n).trans (by rw[Ak];rfl))
theorem i16(b:UInt64)(a:LB):∀(q:Nat) (g:Int) (f:LQ),z16 q (t16 b a g f)=Md b a q g f:=
 ind (λ_ _=>by kernel_rfl) λq ih g f=>Eq.trans (b:=DR (x21 (z16 q) b a) x26 b a g f) (by kernel_rfl) (by simp only[e21,e26,ih]<;>rfl)
theorem e16:x16=NX:=by funext b a g f;exact Eq.trans (by kernel_rfl) ((i16 b a Bt g f).trans (by rw[Ak];rfl))
def F:=u2 VP
theorem rn x:H.u P_ x=F x:=Eq.trans (b:=u2 (RW x16) x) (by kernel_rfl) (by simp only[e16]<;>rfl)
def c:Con:=⟨H.p,H.r,F⟩
theorem ok:ConOk P_ gl 199 c:=cr H func199 .nil (Ri.cons ent282 (Ri.cons ent283 Ri.nil)) rn
end F199
namespace F121
def H:Hd:=⟨[Sb],[Sq,Si],.d,⟨[(199,F199.c)],gl,false⟩,[],f121⟩
def F:=SW
theorem rn x:H.u P_ x=F x:=by kernel_rfl
def c:Con:=⟨H.p,H.r,F⟩
theorem ok:ConOk P_ gl 121 c:=co H func121 (.cons F199.ok .nil) rn
end F121
namespace F105
def H:Hd:=⟨[Ss],[Sq,Si],.d,⟨[(121,F121.c)],gl,false⟩,[],f105⟩
def F:=jE
theorem rn x:H.u P_ x=F x:=by kernel_rfl
def c:Con:=⟨H.p,H.r,F⟩
theorem ok:ConOk P_ gl 105 c:=co H func105 (.cons F121.ok .nil) rn
end F105
namespace F44
def H:Hd:=⟨[Ss],[Ob 5,Si],.d,⟨[(103,F103.c),(105,F105.c)],gl,false⟩,[],f44⟩
def F:=ME
theorem rn x:H.u P_ x=F x:=by kernel_rfl
def c:Con:=⟨H.p,H.r,F⟩
theorem ok:ConOk P_ gl 44 c:=co H func44 (.cons F103.ok (.cons F105.ok .nil)) rn
end F44
namespace F51
def H:Hd:=⟨[Sb,Ss],[Sz,Si],.d,⟨[(44,F44.c),(113,F113.c)],gl,false⟩,[],f51⟩
def F:=u2 Ym
theorem rn x:H.u P_ x=F x:=by kernel_rfl
def c:Con:=⟨H.p,H.r,F⟩
theorem ok:ConOk P_ gl 51 c:=co H func51 (.cons F44.ok (.cons F113.ok .nil)) rn
end F51
namespace F106
abbrev R_:=Int
def H:Hd:=⟨[Sl],[Si],(.seq .d (.seq .d (.seq .d (.cut [] [] (.seq .d (.blk (.loop [3,14,15,16] [] .d))) .d)))),⟨[],gl,false⟩,[],f106⟩
def t4(a:LI)(f b:Int):S:=⟨[(3,vi f),(14,vl a),(15,vi (Ac a)),(16,vi b)],[],[]⟩
def z4:Nat->S->Option R_:=H.i P_ [r,r,r,l,r,d]
def x6:Option R_:=H.e P_ [r,r,r,r] ⟨[],[],[]⟩
def x4(a:LI)(f b:Int):Option R_:=H.e P_ [r,r,r,l,r,d] (t4 a f b)
theorem e6:x6=bC:=by kernel_rfl
theorem i4(a:LI):∀(q:Nat) (f b:Int),z4 q (t4 a f b)=Qq a q f b:=
 ind (λ_ _=>by kernel_rfl) λq ih f b=>Eq.trans (b:=FB x6 (λf b=>(z4 q) (t4 a f b)) a f b) (by kernel_rfl) (by simp only[e6,ih]<;>rfl)
theorem e4:x4=OM:=by funext a f b;exact Eq.trans (by kernel_rfl) ((i4 a Bt f b).trans (by rw[Ak];rfl))
def F:=Xt
theorem rn x:H.u P_ x=F x:=Eq.trans (b:=EN x4 x) (by kernel_rfl) (by simp only[e4]<;>rfl)
def c:Con:=⟨H.p,H.r,F⟩
theorem ok:ConOk P_ gl 106 c:=co H func106 .nil rn
end F106
namespace F53
abbrev R_:=(LI×Int)
def H:Hd:=⟨[Sb,Si],[Ol 3,Si],(.seq .d (.seq .d (.seq .d (.seq .d (.seq .d (.seq .d (.cut [10] [] (.seq .d (.blk (.loop [0,10,48,49] [] .d))) .d))))))),⟨[(104,F104.c),(106,F106.c),(110,F110.c)],gl,false⟩,[],f53⟩
def t4(b:LB)(f:LI)(g:Int)(a:LI):S:=⟨[(0,vb b),(10,.own 0),(48,vi (Ac f)),(49,vi g)],[Ai 3 a],[]⟩
def z4:Nat->S->Option R_:=H.i P_ [r,r,r,r,r,r,l,r,d]
def x6(a:LI):Option R_:=H.e P_ [r,r,r,r,r,r,r] ⟨[(10,.own 0)],[Ai 3 a],[]⟩
def x4(b:LB)(f:LI)(g:Int)(a:LI):Option R_:=H.e P_ [r,r,r,r,r,r,l,r,d] (t4 b f g a)
theorem e6:x6=HR:=by kernel_rfl
theorem i4(b:LB)(f:LI):∀(q:Nat) (g:Int) (a:LI),z4 q (t4 b f g a)=Tx b f q g a:=
 ind (λ_ _=>by kernel_rfl) λq ih g a=>Eq.trans (b:=HU x6 (λg a=>(z4 q) (t4 b f g a)) b f g a) (by kernel_rfl) (by simp only[e6,ih]<;>rfl)
theorem e4:x4=RL:=by funext b f g a;exact Eq.trans (by kernel_rfl) ((i4 b f Bt g a).trans (by rw[Ak];rfl))
def F:=u2 OH
theorem rn x:H.u P_ x=F x:=Eq.trans (b:=u2 (SC x4) x) (by kernel_rfl) (by simp only[e4]<;>rfl)
def c:Con:=⟨H.p,H.r,F⟩
theorem ok:ConOk P_ gl 53 c:=co H func53 (.cons F104.ok (.cons F106.ok (.cons F110.ok .nil))) rn
end F53
namespace F122
abbrev R_:=LX
def H:Hd:=⟨[Sq],[.lf (.vec 16 (.int .i32)) none],(.seq .d (.seq .d (.cut [2,3] [] (.seq .d (.blk (.loop [0,2,3,5] [] .d))) .d))),⟨[],gl,false⟩,[],f122⟩
def t4(f:UInt64)(b:Int)(a:LX):S:=⟨[(0,vq f),(2,.ptr 0 []),(3,.ptr 1 []),(5,vi b)],[.box 105 (.val (.vec 16 (.int .i32)) (List.replicate 16 (0:Int32))),.box 105 (.val (.vec 16 (.int .i32)) a)],[]⟩
def z4:Nat->S->Option R_:=H.i P_ [r,r,l,r,d]
def x6(a:LX):Option R_:=H.e P_ [r,r,r] ⟨[(2,.ptr 0 []),(3,.ptr 1 [])],[.box 105 (.val (.vec 16 (.int .i32)) (List.replicate 16 (0:Int32))),.box 105 (.val (.vec 16 (.int .i32)) a)],[]⟩
def x4(f:UInt64)(b:Int)(a:LX):Option R_:=H.e P_ [r,r,l,r,d] (t4 f b a)
theorem e6:x6=nS:=by kernel_rfl
theorem i4(f:UInt64):∀(q:Nat) (b:Int) (a:LX),z4 q (t4 f b a)=HF f q b a:=
 ind (λ_ _=>by kernel_rfl) λq ih b a=>Eq.trans (b:=WO x6 (λb a=>(z4 q) (t4 f b a)) f b a) (by kernel_rfl) (by simp only[e6,ih]<;>rfl)
theorem e4:x4=qZ:=by funext f b a;exact Eq.trans (by kernel_rfl) ((i4 f Bt b a).trans (by rw[Ak];rfl))
def F:=uX
theorem rn x:H.u P_ x=F x:=Eq.trans (b:=pZ x4 x) (by kernel_rfl) (by simp only[e4]<;>rfl)
def c:Con:=⟨H.p,H.r,F⟩
theorem ok:ConOk P_ gl 122 c:=co H func122 .nil rn
end F122
namespace F67
def H:Hd:=⟨[Ss],[.lf (.vec 16 (.int .i32)) none,Si],.d,⟨[(121,F121.c),(122,F122.c)],gl,false⟩,[],f67⟩
def F:=bX
theorem rn x:H.u P_ x=F x:=by kernel_rfl
def c:Con:=⟨H.p,H.r,F⟩
theorem ok:ConOk P_ gl 67 c:=co H func67 (.cons F121.ok (.cons F122.ok .nil)) rn
end F67
namespace F151
abbrev R_:=(Int32×Int32×Int)
def H:Hd:=⟨[Si],[Sx,Sx,Si],(.seq .d (.seq (.seq .d (.blk (.cut [0,7] [] .d .d))) .d)),⟨[],gl,false⟩,[],f151⟩
def x2(a:Int)(b:Bool):Option R_:=H.e P_ [r,l,r,d,r] ⟨[(0,vi a),(7,vt b)],[],[]⟩
theorem e2:x2=PM:=by kernel_rfl
def F:=Rl
theorem rn x:H.u P_ x=F x:=Eq.trans (b:=OJ x2 x) (by kernel_rfl) (by simp only[e2]<;>rfl)
def c:Con:=⟨H.p,H.r,F⟩
theorem ok:ConOk P_ gl 151 c:=co H func151 .nil rn
end F151
namespace F123
def H:Hd:=⟨[.agg [Si,Si]],[Si],.d,⟨[(151,F151.c)],gl,false⟩,[],f123⟩
def F:=u2 Gi
theorem rn x:H.u P_ x=F x:=by kernel_rfl
def c:Con:=⟨H.p,H.r,F⟩
theorem ok:ConOk P_ gl 123 c:=co H func123 (.cons F151.ok .nil) rn
end F123
namespace F124
def H:Hd:=⟨[Sb],[Sb,Si],.d,⟨[(104,F104.c),(192,F192.c)],gl,false⟩,[],f124⟩
def F:=EA
theorem rn x:H.u P_ x=F x:=by kernel_rfl
def c:Con:=⟨H.p,H.r,F⟩
theorem ok:ConOk P_ gl 124 c:=co H func124 (.cons F104.ok (.cons F192.ok .nil)) rn
end F124
namespace F200
def Lz(a:LB):Option (LB):=
uQ a (
some ([]:LB)) (
(Cu ([]:LB) a).bind λb=>
some b)
theorem JW: @Lz= @Hx:=by
  unfold Lz Hx
  repeat (refine funext λ_=>?_)
  repeat' first
    |with_reducible rfl
    |with_reducible refine Ma ?_ ?_
    |with_reducible refine Lo ?_ ?_ ?_
    |with_reducible refine Mc ?_ ?_ ?_ ?_
    |((with_reducible refine Tg ?_ ?_);focus (intro h;first|(subst h;rfl)|(simp only[h];rfl)|(simp[Cu,Ac,h];done)))
    |with_reducible refine Rr λx=>?_
    |with_reducible refine AN (λ_=>?_) (λ_=>?_)
    |(refine Gl (λh=>by simp only[h,So,Du,Dq,ite_self]) (λx h=>?_);(try simp only[h,Du]))
    |(refine Jb (λh=>?_) (λh=>?_)<;>simp only[h,if_true,if_false,Bool.false_eq_true])
def H:Hd:=⟨[Sb],[Ob 5],.d,⟨[],gl,false⟩,[],f200⟩
def F:=Hx
theorem rn x:H.u P_ x=F x:=Eq.trans (b:=Lz x) (by kernel_rfl) (by rw[JW];rfl)
def c:Con:=⟨H.p,H.r,F⟩
theorem ok:ConOk P_ gl 200 c:=co H func200 .nil rn
end F200
namespace F125
def H:Hd:=⟨[Sb],[.agg [Ob 5,Si],Si],.d,⟨[(200,F200.c)],gl,false⟩,[],f125⟩
def F:=wO
theorem rn x:H.u P_ x=F x:=by kernel_rfl
def c:Con:=⟨H.p,H.r,F⟩
theorem ok:ConOk P_ gl 125 c:=co H func125 (.cons F200.ok .nil) rn
end F125
namespace F201
def H:Hd:=⟨[],[.agg [Si,Si,Sq,Sq]],.d,⟨[],gl,false⟩,[],f201⟩
noncomputable def F(x:Unit):=rA
theorem rn x:H.u P_ x=F x:=by kernel_rfl
def c:Con:=⟨H.p,H.r,F⟩
theorem ok:ConOk P_ gl 201 c:=co H func201 .nil rn
end F201
namespace F204
def H:Hd:=⟨[.agg [Sb,Si]],[Si],.d,⟨[],gl,false⟩,[],f204⟩
def F:=u2 Tf
theorem rn x:H.u P_ x=F x:=by kernel_rfl
def c:Con:=⟨H.p,H.r,F⟩
theorem ok:ConOk P_ gl 204 c:=co H func204 .nil rn
end F204
namespace F205
abbrev R_:=UInt64
def H:Hd:=⟨[.agg [Sb,Si],Si,Si],[Sq],(.seq .d (.seq .d (.cut [7] [] (.blk (.loop [1,2,3,7,8] [] .d)) .d))),⟨[],gl,false⟩,[],f205⟩
def t4(b f:Int)(h:LB)(k:Int)(g:UInt64)(a:Int):S:=⟨[(1,vi b),(2,vi f),(3,.ptr 0 []),(7,vq g),(8,vi a)],[.box 183 (.agg [vb h,vi k])],[]⟩
def z4:Nat->S->Option R_:=H.i P_ [r,r,l,d]
def x6(g:UInt64):Option R_:=H.e P_ [r,r,r] ⟨[(7,vq g)],[],[]⟩
def x4(b f:Int)(h:LB)(k:Int)(g:UInt64)(a:Int):Option R_:=H.e P_ [r,r,l,d] (t4 b f h k g a)
theorem e6:x6=kW:=by kernel_rfl
theorem i4(b f:Int)(h:LB)(k:Int):∀(q:Nat) (g:UInt64) (a:Int),z4 q (t4 b f h k g a)=IX b f h k q g a:=
 ind (λ_ _=>by kernel_rfl) λq ih g a=>Eq.trans (b:=ZU x6 (λg a=>(z4 q) (t4 b f h k g a)) b f h k g a) (by kernel_rfl) (by simp only[e6,ih]<;>rfl)
theorem e4:x4=kN:=by funext b f h k g a;exact Eq.trans (by kernel_rfl) ((i4 b f h k Bt g a).trans (by rw[Ak];rfl))
def F:=u4 gP
theorem rn x:H.u P_ x=F x:=Eq.trans (b:=u4 (jX x4) x) (by kernel_rfl) (by simp only[e4]<;>rfl)
def c:Con:=⟨H.p,H.r,F⟩
theorem ok:ConOk P_ gl 205 c:=co H func205 .nil rn
end F205
namespace F202
abbrev R_:=(LB×Int×Int)
abbrev K_:=S->Option R_
def H:Hd:=⟨[.agg [Sb,Si],Si,Si],[.agg [Ob 5,Si],Si],(.seq .d (.seq .d (.seq .d (.seq .d (.cut [6,8] [] (.seq .d (.blk (.loop [2,3,6,8,9] [⟨8,[0],.own 5 (.int .u8)⟩] (.seq .d (.cut [2,3,6,8,9] [] (.blk (.seq .d (.keep [2,3,6,8,9,10,39,40,41,42,43] true))) .d))))) .d))))),⟨[(204,F204.c),(205,F205.c)],gl,false⟩,[(284,(.blk (.loop [0,1,2] [] (.seq .d (.blk (.cut [0,1,2] [] .d (.seq .d (.cut [0,1,2,7] [] .d .d))))))))],f202⟩
def t44(a:Int)(g:LB)(f b:Int)(k n:UInt64)(m h:Int)(u:LB):S:=⟨[(0,.ptr 0 []),(1,vq n),(2,vi m)],[.box 183 (.agg [.own 3,vi h]),.box 183 (.agg [vb g,vi f]),.box 183 (.agg [.nils,vi 0]),Ab 5 u],[[(2,vi a),(3,.ptr 1 []),(6,.ptr 2 []),(8,.ptr 0 []),(9,vi b),(10,vi (Gv (64:Int) (Am a b))),(39,.agg [vb g,vi f]),(40,vi b),(41,vi (Gv (64:Int) (Am a b))),(42,vq k),(43,vi (Gv (64:Int) (Am a b)))]]⟩
def z44(Tt:K_):Nat->S->Option R_:=H.i P_ [r,r,r,r,l,r,d,(lp Tt),r,l,d,r,(call 5 284),d]
def t27(a:Int)(g:LB)(f b o:Int)(p:LB):S:=⟨[(2,vi a),(3,.ptr 0 []),(6,.ptr 1 []),(8,.ptr 2 []),(9,vi b)],[.box 183 (.agg [vb g,vi f]),.box 183 (.agg [.nils,vi 0]),.box 183 (.agg [.own 3,vi o]),Ab 5 p],[]⟩
def z27:Nat->S->Option R_:=H.i P_ [r,r,r,r,l,r,d]
def x52(o:Int)(p:LB):Option R_:=H.e P_ [r,r,r,r,r] ⟨[(6,.ptr 0 []),(8,.ptr 1 [])],[.box 183 (.agg [.nils,vi 0]),.box 183 (.agg [.own 2,vi o]),Ab 5 p],[]⟩
def x50(Tt:K_)(a:Int)(g:LB)(f b h:Int)(u:LB):Option R_:=H.e P_ [r,r,r,r,l,r,d,(lp Tt),r,r] ⟨[(2,vi a),(3,.ptr 0 []),(6,.ptr 1 []),(8,.ptr 2 []),(9,vi b)],[.box 183 (.agg [vb g,vi f]),.box 183 (.agg [.nils,vi 0]),.box 183 (.agg [.own 3,vi h]),Ab 5 u],[]⟩
def x48(Tt rS:K_)(a b:Int)(g:LB)(f:Int)(k n:UInt64)(m h:Int)(w:LB):Option R_:=H.e P_ [r,r,r,r,l,r,d,(lp Tt),r,l,d,r,(call 5 284),d,(lp rS),r,d,r,r,r] ⟨[(0,.ptr 0 []),(1,vq n),(2,vi m),(7,vi (Gv m (Am (8:Int) (Hk h (7:Int)))))],[.box 183 (.agg [.own 3,vi h]),.box 183 (.agg [vb g,vi f]),.box 183 (.agg [.nils,vi 0]),Ab 5 w],[[(2,vi a),(3,.ptr 1 []),(6,.ptr 2 []),(8,.ptr 0 []),(9,vi b),(10,vi (Gv (64:Int) (Am a b))),(39,.agg [vb g,vi f]),(40,vi b),(41,vi (Gv (64:Int) (Am a b))),(42,vq k),(43,vi (Gv (64:Int) (Am a b)))]]⟩
def x47(Tt rS:K_)(a b:Int)(g:LB)(f:Int)(k n:UInt64)(m h:Int)(v:LB):Option R_:=H.e P_ [r,r,r,r,l,r,d,(lp Tt),r,l,d,r,(call 5 284),d,(lp rS),r,d,r] ⟨[(0,.ptr 0 []),(1,vq n),(2,vi m)],[.box 183 (.agg [.own 3,vi h]),.box 183 (.agg [vb g,vi f]),.box 183 (.agg [.nils,vi 0]),Ab 5 v],[[(2,vi a),(3,.ptr 1 []),(6,.ptr 2 []),(8,.ptr 0 []),(9,vi b),(10,vi (Gv (64:Int) (Am a b))),(39,.agg [vb g,vi f]),(40,vi b),(41,vi (Gv (64:Int) (Am a b))),(42,vq k),(43,vi (Gv (64:Int) (Am a b)))]]⟩
def x44(Tt:K_)(a:Int)(g:LB)(f b:Int)(k n:UInt64)(m h:Int)(u:LB):Option R_:=H.e P_ [r,r,r,r,l,r,d,(lp Tt),r,l,d,r,(call 5 284),d] (t44 a g f b k n m h u)
def x27(a:Int)(g:LB)(f b o:Int)(p:LB):Option R_:=H.e P_ [r,r,r,r,l,r,d] (t27 a g f b o p)
theorem e52:x52=UH:=by kernel_rfl
theorem e50(Tt:K_)(a:Int)(g:LB)(f:Int):x50 Tt a g f=LN (λb o p=>Tt (t27 a g f b o p)) a g f:=by kernel_rfl
theorem e48(Tt rS:K_)(a:Int)(g:LB)(f b:Int)(k:UInt64):x48 Tt rS a b g f k=VL (λn m h u=>rS (t44 a g f b k n m h u)) a b g f k:=by kernel_rfl
theorem e47(Tt rS:K_)(a:Int)(g:LB)(f b:Int)(k:UInt64):x47 Tt rS a b g f k=MB (λn m h u=>rS (t44 a g f b k n m h u)) a b g f k:=Eq.trans (b:=WJ (x48 Tt rS a b g f k) a b g f k) (by kernel_rfl) (by simp only[e48]<;>rfl)
theorem i44(Tt:K_)(a:Int)(g:LB)(f b:Int)(k:UInt64):∀(q:Nat) (n:UInt64) (m h:Int) (u:LB),z44 Tt q (t44 a g f b k n m h u)=Nu (λb o p=>Tt (t27 a g f b o p)) a g f b k q n m h u:=
 ind (λ_ _ _ _=>by kernel_rfl) λq ih n m h u=>Eq.trans (b:=MA (x47 Tt (z44 Tt q) a b g f k) (x50 Tt a g f) a g f b k n m h u) (by kernel_rfl) (by simp only[e47,e50,ih]<;>rfl)
theorem e44(Tt:K_)(a:Int)(g:LB)(f:Int):x44 Tt a g f=VR (λb o p=>Tt (t27 a g f b o p)) a g f:=by funext b k n m h u;exact Eq.trans (by kernel_rfl) ((i44 Tt a g f b k Bt n m h u).trans (by rw[Ak];rfl))
theorem i27(a:Int)(g:LB)(f:Int):∀(q:Nat) (b o:Int) (p:LB),z27 q (t27 a g f b o p)=Yb a g f q b o p:=
 ind (λ_ _ _=>by kernel_rfl) λq ih b o p=>Eq.trans (b:=VM (x44 (z27 q) a g f) x52 a g f b o p) (by kernel_rfl) (by simp only[e44,e52,ih]<;>rfl)
theorem e27:x27=TX:=by funext a g f b o p;exact Eq.trans (by kernel_rfl) ((i27 a g f Bt b o p).trans (by rw[Ak];rfl))
def F:=u4 ZP
theorem rn x:H.u P_ x=F x:=Eq.trans (b:=u4 (ZY x27) x) (by kernel_rfl) (by simp only[e27]<;>rfl)
def c:Con:=⟨H.p,H.r,F⟩
theorem ok:ConOk P_ gl 202 c:=cr H func202 (.cons F204.ok (.cons F205.ok .nil)) (Ri.cons ent284 Ri.nil) rn
end F202
namespace F271
def NP(j4:Int->Int->UInt64->UInt64->Option Int)(a b:Int)(f g:UInt64):Option Int:=
both (
bo (
j4 a b f g)) [
j4 a b f g]
theorem fL: @NP= @HT:=by
  unfold NP HT
  repeat (refine funext λ_=>?_)
  repeat' first
    |with_reducible rfl
    |with_reducible refine Ma ?_ ?_
    |with_reducible refine Lo ?_ ?_ ?_
    |with_reducible refine Mc ?_ ?_ ?_ ?_
    |((with_reducible refine Tg ?_ ?_);focus (intro h;first|(subst h;rfl)|(simp only[h];rfl)|(simp[Cu,Ac,h];done)))
    |with_reducible refine Rr λx=>?_
    |with_reducible refine AN (λ_=>?_) (λ_=>?_)
    |(refine Gl (λh=>by simp only[h,So,Du,Dq,ite_self]) (λx h=>?_);(try simp only[h,Du]))
    |(refine Jb (λh=>?_) (λh=>?_)<;>simp only[h,if_true,if_false,Bool.false_eq_true])
def MT(j3:Int->Int->UInt64->UInt64->Option Int)(a b:Int)(f g:UInt64):Option Int:=
both (
bo (
j3 a b f g)) [
j3 a b f g]
theorem gD: @MT= @HY:=by
  unfold MT HY
  repeat (refine funext λ_=>?_)
  repeat' first
    |with_reducible rfl
    |with_reducible refine Ma ?_ ?_
    |with_reducible refine Lo ?_ ?_ ?_
    |with_reducible refine Mc ?_ ?_ ?_ ?_
    |((with_reducible refine Tg ?_ ?_);focus (intro h;first|(subst h;rfl)|(simp only[h];rfl)|(simp[Cu,Ac,h];done)))
    |with_reducible refine Rr λx=>?_
    |with_reducible refine AN (λ_=>?_) (λ_=>?_)
    |(refine Gl (λh=>by simp only[h,So,Du,Dq,ite_self]) (λx h=>?_);(try simp only[h,Du]))
    |(refine Jb (λh=>?_) (λh=>?_)<;>simp only[h,if_true,if_false,Bool.false_eq_true])
abbrev R_:=Int
def H:Hd:=⟨[.agg [Si,Si,Sq,Sq]],[Si],(.seq .d (.seq .d (.cut [1,3] [] (.mode false) (.cut [1,3] [] (.mode false) .d)))),⟨[],gl,false⟩,[],f271⟩
def x4(a b:Int)(f g:UInt64):Option R_:=H.e P_ [r,r,r,r] ⟨[(1,.ptr 0 []),(3,.ptr 1 [])],[.box 254 (.agg [vi a,vi b,vq f,vq g]),.box 254 (.agg [vi (Gv (cD a (0:Int)) (24:Int)),vi (Gv (cD b (0:Int)) (24:Int)),vq (Gv f (68719476735:UInt64)),vq (Gv g (68719476735:UInt64))])],[]⟩
def x3(a b:Int)(f g:UInt64):Option R_:=H.e P_ [r,r,r] ⟨[(1,.ptr 0 []),(3,.ptr 1 [])],[.box 254 (.agg [vi a,vi b,vq f,vq g]),.box 254 (.agg [vi (Gv (cD a (0:Int)) (24:Int)),vi (Gv (cD b (0:Int)) (24:Int)),vq f,vq g])],[]⟩
theorem e4:x4=QY:=by kernel_rfl
theorem e3:x3=SA:=Eq.trans (b:=NP x4) (by kernel_rfl) (by rw[fL];simp only[e4]<;>rfl)
def F:=u4 VQ
theorem rn x:H.u P_ x=F x:=Eq.trans (b:=u4 (MT x3) x) (by kernel_rfl) (by unfold F;rw[gD];simp only[e3]<;>rfl)
def c:Con:=⟨H.p,H.r,F⟩
theorem ok:ConOk P_ gl 271 c:=co H func271 .nil rn
end F271
namespace F127
def H:Hd:=⟨[.agg [Sb,Si],Si,Si],[Sq,Si],.d,⟨[(204,F204.c),(205,F205.c)],gl,false⟩,[],f127⟩
def F:=u4 EL
theorem rn x:H.u P_ x=F x:=by kernel_rfl
def c:Con:=⟨H.p,H.r,F⟩
theorem ok:ConOk P_ gl 127 c:=co H func127 (.cons F204.ok (.cons F205.ok .nil)) rn
end F127
namespace F365
def H:Hd:=⟨[Sq],[Si],.d,⟨[],gl,false⟩,[],f365⟩
def F:=Fh
theorem rn x:H.u P_ x=F x:=by kernel_rfl
def c:Con:=⟨H.p,H.r,F⟩
theorem ok:ConOk P_ gl 365 c:=co H func365 .nil rn
end F365
namespace F341
def PW(j6:Int->UInt64->Int->LB->Int->Option (Int×Int×Int))(g:LB)(b a:Int):Option (Int×Int×Int):=
(Tf g b).bind λm=>
if(Ch m 0)then
some (0,0,m)
else
if(Cp a 0)then
some (0,0,2)
else
if(Ts a b)then
some (0,0,24)
else
(λn:Option (Int×Int×Int)=>
(λo:Option (Int×Int×Int)=>
bo2 (
o)) (
bo (
n))) (
(EL g b a (Gv 48 (Am b a))).bind λ(k,h)=>
j6 h k a g b)
theorem fA: @PW= @Zw:=by
  unfold PW Zw;simp only[aR,MS,OY]
abbrev R_:=(Int×Int×Int)
def H:Hd:=⟨[.agg [Sb,Si],Si],[Si,Si,Si],(.seq .d (.seq .d (.seq .d (.seq .d (.seq .d (.cut [3,5,6,8,9] [] (.keep [2,3,5,6,8,9,22,23,24,25,26,27,28,29] false) (.seq .d (.seq .d (.cut [] [] (.blk (.seq (.blk (.seq (.blk (.cut [] [] (.cut [3,4,5] [] (.cut [3,4,5,36] [] (.keep [3,4,5,8,36,37,38,39,40] true) .d) .d) .d)) .d)) .d)) .d))))))))),⟨[(127,F127.c),(204,F204.c),(365,F365.c)],gl,false⟩,[(364,.d)],f341⟩
def x10:Option R_:=H.e P_ [r,r,r,r,r,r,r,r,r] ⟨[],[],[]⟩
def x9:Option R_:=H.e P_ [r,r,r,r,r,r,r,r,l,d,l,d,l,d,r] ⟨[],[],[]⟩
def x8(f a:Int):Option R_:=H.e P_ [r,r,r,r,r,r,r,r,l,d,l,d,l,d,l,r] ⟨[(3,.ptr 0 []),(4,vi f),(5,vi 0)],[.box 3 (vi a)],[]⟩
def x7(f b a:Int):Option R_:=H.e P_ [r,r,r,r,r,r,r,r,l,d,l,d,l,d,l,l,r] ⟨[(3,.ptr 0 []),(4,vi f),(5,vi 0),(36,vt (Cp f (Gv (48:Int) (Am b a))))],[.box 3 (vi a)],[]⟩
def x6(h:Int)(k:UInt64)(a:Int)(g:LB)(b:Int):Option R_:=H.e P_ [r,r,r,r,r,r] ⟨[(3,.ptr 0 []),(5,vi 0),(6,vi h),(8,.fn 364 [.ptr 1 [],.ptr 0 []]),(9,vq k)],[.box 3 (vi a),.box 183 (.agg [vb g,vi b])],[]⟩
theorem e10:x10=ZB:=by kernel_rfl
theorem e9:x9=cN:=Eq.trans (b:=dA x10) (by kernel_rfl) (by simp only[e10]<;>rfl)
theorem e8:x8=RO:=Eq.trans (b:=RH x9) (by kernel_rfl) (by simp only[e9]<;>rfl)
theorem e7:x7=RU:=Eq.trans (b:=RK x8) (by kernel_rfl) (by simp only[e8]<;>rfl)
theorem e6:x6=RF:=Eq.trans (b:=RQ x7) (by kernel_rfl) (by simp only[e7]<;>rfl)
def F:=u3 HD
theorem rn x:H.u P_ x=F x:=Eq.trans (b:=u3 (PW x6) x) (by kernel_rfl) (by unfold F;rw[fA];simp only[e6]<;>rfl)
def c:Con:=⟨H.p,H.r,F⟩
theorem ok:ConOk P_ gl 341 c:=cr H func341 (.cons F127.ok (.cons F204.ok (.cons F365.ok .nil))) (Ri.cons ent364 Ri.nil) rn
end F341
namespace F333
def H:Hd:=⟨[Su,Si],[Sz],.d,⟨[],gl,false⟩,[],f333⟩
def F:=u2 WA
theorem rn x:H.u P_ x=F x:=by kernel_rfl
def c:Con:=⟨H.p,H.r,F⟩
theorem ok:ConOk P_ gl 333 c:=co H func333 .nil rn
end F333
namespace F285
abbrev R_:=(UInt32×Int×Int)
def H:Hd:=⟨[.agg [Sb,Si],Si,Si],[Su,Si,Si],(.seq .d (.seq .d (.seq .d (.seq .d (.seq .d (.seq .d (.cut [2,3,7,10,11] [] .d .d))))))),⟨[(127,F127.c),(204,F204.c),(333,F333.c),(341,F341.c)],gl,false⟩,[],f285⟩
def x2(a b f:Int)(g:LB)(h k:Int):Option R_:=H.e P_ [r,r,r,r,r,r,r] ⟨[(2,vi a),(3,.ptr 0 []),(7,vi b),(10,vi f),(11,vi k)],[.box 183 (.agg [vb g,vi h])],[]⟩
theorem e2:x2=MH:=by kernel_rfl
def F:=u4 bO
theorem rn x:H.u P_ x=F x:=Eq.trans (b:=u4 (VG x2) x) (by kernel_rfl) (by simp only[e2]<;>rfl)
def c:Con:=⟨H.p,H.r,F⟩
theorem ok:ConOk P_ gl 285 c:=co H func285 (.cons F127.ok (.cons F204.ok (.cons F333.ok (.cons F341.ok .nil)))) rn
end F285
namespace F272
def H:Hd:=⟨[.agg [Si,Si,Sq,Sq],Su],[Si,Su],.d,⟨[],gl,false⟩,[],f272⟩
def F:=u5 VD
theorem rn x:H.u P_ x=F x:=by kernel_rfl
def c:Con:=⟨H.p,H.r,F⟩
theorem ok:ConOk P_ gl 272 c:=co H func272 .nil rn
end F272
namespace F203
abbrev R_:=(UInt32×Int×Int×Int×UInt64×UInt64×Int)
def H:Hd:=⟨[.agg [Sb,Si],Si,.agg [Si,Si,Sq,Sq]],[Su,Si,.agg [Si,Si,Sq,Sq],Si],(.seq .d (.cut [1,3,5,8] [] .d (.seq .d (.seq .d (.cut [5,6,7,8] [] .d (.cut [5,6,7,8] [] (.keep [5,6,7,8,81] true) .d)))))),⟨[(127,F127.c),(204,F204.c),(271,F271.c),(272,F272.c),(285,F285.c)],gl,false⟩,[(275,(.seq .d (.seq .d (.seq .d (.blk (.cut [0,1,4] [] (.blk (.seq .d (.keep [0,1,4,6,18,19,20,21,22,23,24,25] true))) (.cut [] [] (.keep [0,1,4,27,28,29,30,31,32,33,34] true) .d))))))),(335,.d)],f203⟩
def x10(f:UInt32)(k w m:Int)(a n:UInt64):Option R_:=H.e P_ [r,r,r,r,r,r] ⟨[(5,.ptr 0 []),(6,vu f),(7,vi k),(8,.ptr 1 [])],[.box 254 (.agg [vi w,vi m,vq (Ae a (Am (Ad f:UInt64) (Cr a (GI.toZ (4:UInt64)).toNat))),vq n]),.box 254 (.agg [vi 0,vi 0,vq 0,vq 0])],[]⟩
def x9(f:UInt32)(k m:Int)(a n:UInt64)(w:Int):Option R_:=H.e P_ [r,r,r,r,r,l,(call 1 275),r,r,r,d,r,r] ⟨[],[.box 254 (.agg [vi w,vi m,vq (Ae a (Am (Ad f:UInt64) (Cr a (GI.toZ (4:UInt64)).toNat))),vq n]),.box 254 (.agg [vi 0,vi 0,vq 0,vq 0])],[[(5,.ptr 0 []),(6,vu f),(7,vi k),(8,.ptr 1 []),(81,vu f)]]⟩
def x8(f:UInt32)(k b:Int)(a:UInt64)(m:Int)(n:UInt64):Option R_:=H.e P_ [r,r,r,r,r,l,(call 1 275),r,r,r,d,r] ⟨[(0,.ptr 0 []),(1,vu f),(4,.fn 335 [])],[.box 254 (.agg [vi b,vi m,vq a,vq n]),.box 254 (.agg [vi 0,vi 0,vq 0,vq 0])],[[(5,.ptr 0 []),(6,vu f),(7,vi k),(8,.ptr 1 []),(81,vu f)]]⟩
def x7(b h:Int)(a g:UInt64)(f:UInt32)(k:Int):Option R_:=H.e P_ [r,r,r,r,r] ⟨[(5,.ptr 0 []),(6,vu f),(7,vi k),(8,.ptr 1 [])],[.box 254 (.agg [vi b,vi h,vq a,vq g]),.box 254 (.agg [vi 0,vi 0,vq 0,vq 0])],[]⟩
def x6(p:Int)(u:LB)(v b h:Int)(a g:UInt64):Option R_:=H.e P_ [r,r] ⟨[(1,vi p),(3,.ptr 0 []),(5,.ptr 1 []),(8,.ptr 2 [])],[.box 183 (.agg [vb u,vi v]),.box 254 (.agg [vi b,vi h,vq a,vq g]),.box 254 (.agg [vi 0,vi 0,vq 0,vq 0])],[]⟩
theorem e10:x10=RI:=by kernel_rfl
theorem e9:x9=TZ:=Eq.trans (b:=VU x10) (by kernel_rfl) (by simp only[e10]<;>rfl)
theorem e8:x8=EY:=Eq.trans (b:=WE x9) (by kernel_rfl) (by simp only[e9]<;>rfl)
theorem e7:x7=LZ:=Eq.trans (b:=UI x8) (by kernel_rfl) (by simp only[e8]<;>rfl)
theorem e6:x6=WH:=Eq.trans (b:=UL x7) (by kernel_rfl) (by simp only[e7]<;>rfl)
def F:=u7 GY
theorem rn x:H.u P_ x=F x:=Eq.trans (b:=u7 (WM x6) x) (by kernel_rfl) (by simp only[e6]<;>rfl)
def c:Con:=⟨H.p,H.r,F⟩
theorem ok:ConOk P_ gl 203 c:=cr H func203 (.cons F127.ok (.cons F204.ok (.cons F271.ok (.cons F272.ok (.cons F285.ok .nil))))) (Ri.cons ent275 (Ri.cons ent335 Ri.nil)) rn
end F203
namespace F126
def Za(j21:Int->Int->Int->UInt32->Int-> (List (Int×Int×UInt64×UInt64×Unit))->LU->Int->Int->UInt64->UInt64->Option (LU×Int×Int))(j24:Int->LU->Option (LU×Int×Int))(a f:Int)(g:LB)(b k h:Int)(n:List (Int×Int×UInt64×UInt64×Unit))(m:LU):Option (LU×Int×Int):=
if(Cp h (Be f a))then
(ZP g b k (Gv (Ae k 81) b)).bind λ(ah,ae,af)=>
if(Ch af 0)then
some (([]:LU),0,af)
else
(Rj (Ch a 0)).bind λ_=>
(Aj n (Is h a)).bind λ_=>
(λai:Option (LU×Int×Int)=>
both (
both (
(Aj n (Is h a)).bind λp=>
(λao:Option (LU×Int×Int)=>
bo (
ao)) (
(GY ah ae 0 p.1 p.2.1 p.2.2.1 p.2.2.2.1).bind λ(w,v,aa,ab,ac,ad,y)=>
j21 k h y w v n m aa ab ac ad)) [
ai]) [
(Aj n (Is h a)).bind λp=>
(λaj:Option (LU×Int×Int)=>
both (
bo (
aj)) [
aj]) (
(GY ah ae 0 p.1 p.2.1 p.2.2.1 p.2.2.2.1).bind λ(w,v,aa,ab,ac,ad,y)=>
j21 k h y w v n m aa ab ac ad),
bo (
ai)]) (
(Aj n (Is h a)).bind λp=>
(GY ah ae 0 p.1 p.2.1 p.2.2.1 p.2.2.2.1).bind λ(w,v,aa,ab,ac,ad,y)=>
j21 k h y w v n m aa ab ac ad)
else
j24 k m
theorem WG: @Za= @Ti:=by
  unfold Za Ti
  try simp only[aR,MS,OY]
  all_goals
    repeat (refine funext λ_=>?_)
    repeat' first
      |with_reducible rfl
      |with_reducible refine Ma ?_ ?_
      |with_reducible refine Lo ?_ ?_ ?_
      |with_reducible refine Mc ?_ ?_ ?_ ?_
      |((with_reducible refine Tg ?_ ?_);focus (intro h;first|(subst h;rfl)|(simp only[h];rfl)|(simp[Cu,Ac,h];done)))
      |with_reducible refine Rr λx=>?_
      |with_reducible refine AN (λ_=>?_) (λ_=>?_)
      |(refine Gl (λh=>by simp only[h,So,Du,Dq,ite_self]) (λx h=>?_);(try simp only[h,Du]))
      |(refine Jb (λh=>?_) (λh=>?_)<;>simp only[h,if_true,if_false,Bool.false_eq_true])
abbrev R_:=(LU×Int×Int)
abbrev K_:=S->Option R_
def H:Hd:=⟨[Si,Si,.agg [Sb,Si]],[Ov 43,Si,Si],(.seq .d (.seq .d (.cut [0,1,5,9] [] (.seq .d (.blk (.loop [0,1,5,9,19] [] .d))) (.seq .d (.seq .d (.cut [11,12] [] (.seq .d (.blk (.loop [0,5,9,11,12,28,29] [⟨11,[],.own 43 (.int .u32)⟩] (.seq .d (.seq .d (.seq (.blk (.seq .d (.seq .d (.seq .d (.cut [0,5,9,11,12,13,15,16,17,18,28,29] [] (.mode false) (.seq .d (.cut [0,5,9,11,12,16,28,29] [] .d .d))))))) .d)))))) .d)))))),⟨[(201,F201.c),(202,F202.c),(203,F203.c)],gl,false⟩,[],f126⟩
def t16(a f:Int)(g:LB)(b k h:Int)(n:List (Int×Int×UInt64×UInt64×Unit))(m:LU):S:=⟨[(0,vi a),(5,.ptr 0 []),(9,.ptr 1 []),(11,.own 2),(12,vi k),(28,vi (Be f a)),(29,vi h)],[.box 183 (.agg [vb g,vi b]),.box 255 (.val (.vec 6 (.cons (.int .i64) (.cons (.int .i64) (.cons (.int .u64) (.cons (.int .u64) .nil))))) n),Av 43 m],[]⟩
def z16:Nat->S->Option R_:=H.i P_ [r,r,r,r,r,l,r,d]
def t13(a f:Int)(g:LB)(b u:Int)(o:List (Int×Int×UInt64×UInt64×Unit)):S:=⟨[(0,vi a),(1,vi f),(5,.ptr 0 []),(9,.ptr 1 []),(19,vi u)],[.box 183 (.agg [vb g,vi b]),.box 255 (.val (.vec 6 (.cons (.int .i64) (.cons (.int .i64) (.cons (.int .u64) (.cons (.int .u64) .nil))))) o)],[]⟩
def z13:Nat->S->Option R_:=H.i P_ [r,r,l,r,d]
def x24(k:Int)(m:LU):Option R_:=H.e P_ [r,r,r,r,r,r] ⟨[(11,.own 0),(12,vi k)],[Av 43 m],[]⟩
def x22(Di:K_)(a f:Int)(g:LB)(b k v:Int)(w:UInt32)(h:Int)(ag:List (Int×Int×UInt64×UInt64×Unit))(m:LU):Option R_:=H.e P_ [r,r,r,r,r,l,r,d,(lp Di),r,r,l,d,r,r,r,r,r,r] ⟨[(0,vi a),(5,.ptr 0 []),(9,.ptr 1 []),(11,.own 2),(12,vi (Ae k v)),(16,vu w),(28,vi (Be f a)),(29,vi h)],[.box 183 (.agg [vb g,vi b]),.box 255 (.val (.vec 6 (.cons (.int .i64) (.cons (.int .i64) (.cons (.int .u64) (.cons (.int .u64) .nil))))) ag),Av 43 m],[]⟩
def x21(Di:K_)(a f:Int)(g:LB)(b k h y:Int)(w:UInt32)(v:Int)(n:List (Int×Int×UInt64×UInt64×Unit))(m:LU)(aa ab:Int)(ac ad:UInt64):Option R_:=H.e P_ [r,r,r,r,r,l,r,d,(lp Di),r,r,l,d,r,r,r,r] ⟨[(0,vi a),(5,.ptr 0 []),(9,.ptr 1 []),(11,.own 2),(12,vi k),(13,vi h),(15,vi y),(16,vu w),(17,vi v),(18,.ptr 3 []),(28,vi (Be f a)),(29,vi h)],[.box 183 (.agg [vb g,vi b]),.box 255 (.val (.vec 6 (.cons (.int .i64) (.cons (.int .i64) (.cons (.int .u64) (.cons (.int .u64) .nil))))) n),Av 43 m,.box 254 (.agg [vi aa,vi ab,vq ac,vq ad])],[]⟩
def x16(a f:Int)(g:LB)(b k h:Int)(n:List (Int×Int×UInt64×UInt64×Unit))(m:LU):Option R_:=H.e P_ [r,r,r,r,r,l,r,d] (t16 a f g b k h n m)
def x15(a f:Int)(g:LB)(b:Int)(o:List (Int×Int×UInt64×UInt64×Unit)):Option R_:=H.e P_ [r,r,r] ⟨[(0,vi a),(1,vi f),(5,.ptr 0 []),(9,.ptr 1 [])],[.box 183 (.agg [vb g,vi b]),.box 255 (.val (.vec 6 (.cons (.int .i64) (.cons (.int .i64) (.cons (.int .u64) (.cons (.int .u64) .nil))))) o)],[]⟩
def x13(a f:Int)(g:LB)(b u:Int)(o:List (Int×Int×UInt64×UInt64×Unit)):Option R_:=H.e P_ [r,r,l,r,d] (t13 a f g b u o)
theorem e24:x24=OZ:=by kernel_rfl
theorem e22(Di:K_)(a f:Int)(g:LB)(b:Int):x22 Di a f g b=AK (λk h n m=>Di (t16 a f g b k h n m)) a f g b:=by kernel_rfl
theorem e21(Di:K_)(a f:Int)(g:LB)(b:Int):x21 Di a f g b=Sd (λk h n m=>Di (t16 a f g b k h n m)) a f g b:=Eq.trans (b:=Rz (x22 Di a f g b) a f g b) (by kernel_rfl) (by simp only[e22]<;>rfl)
theorem i16(a f:Int)(g:LB)(b:Int):∀(q:Nat) (k h:Int) (n:List (Int×Int×UInt64×UInt64×Unit)) (m:LU),z16 q (t16 a f g b k h n m)=Lp a f g b q k h n m:=
 ind (λ_ _ _ _=>by kernel_rfl) λq ih k h n m=>Eq.trans (b:=Za (x21 (z16 q) a f g b) x24 a f g b k h n m) (by kernel_rfl) (by rw[WG];simp only[e21,e24,ih]<;>rfl)
theorem e16:x16=PQ:=by funext a f g b k h n m;exact Eq.trans (by kernel_rfl) ((i16 a f g b Bt k h n m).trans (by rw[Ak];rfl))
theorem e15:x15=AJ:=Eq.trans (b:=MW x16) (by kernel_rfl) (by simp only[e16]<;>rfl)
theorem i13(a f:Int)(g:LB)(b:Int):∀(q:Nat) (u:Int) (o:List (Int×Int×UInt64×UInt64×Unit)),z13 q (t13 a f g b u o)=AM a f g b q u o:=
 ind (λ_ _=>by kernel_rfl) λq ih u o=>Eq.trans (b:=NC x15 (λu o=>(z13 q) (t13 a f g b u o)) a f g b u o) (by kernel_rfl) (by simp only[e15,ih]<;>rfl)
theorem e13:x13=Tj:=by funext a f g b u o;exact Eq.trans (by kernel_rfl) ((i13 a f g b Bt u o).trans (by rw[Ak];rfl))
def F:=u4 DX
theorem rn x:H.u P_ x=F x:=Eq.trans (b:=u4 (DV x13) x) (by kernel_rfl) (by simp only[e13]<;>rfl)
def c:Con:=⟨H.p,H.r,F⟩
theorem ok:ConOk P_ gl 126 c:=co H func126 (.cons F201.ok (.cons F202.ok (.cons F203.ok .nil))) rn
end F126
namespace F286
abbrev R_:=(Int×LX×LX×Int)
def H:Hd:=⟨[Si,.lf (.vec 16 (.int .i32)) none],[.agg [Si,.lf (.vec 16 (.int .i32)) none,.lf (.vec 16 (.int .i32)) none],Si],(.seq .d (.seq .d (.seq (.seq .d (.blk (.cut [4,6,9,11] [] .d .d))) .d))),⟨[],gl,false⟩,[],f286⟩
def x2(a:Int)(b:LX)(f:Bool):Option R_:=H.e P_ [r,r,l,r,d,r] ⟨[(4,.ptr 0 []),(6,.ptr 1 []),(9,vi a),(11,vt f)],[.box 279 (.agg [vi 0,.val (.vec 16 (.int .i32)) (List.replicate 16 (0:Int32)),.val (.vec 16 (.int .i32)) (List.replicate 16 (0:Int32))]),.box 279 (.agg [vi 10,.val (.vec 16 (.int .i32)) b,.val (.vec 16 (.int .i32)) (List.replicate 16 (0:Int32))])],[]⟩
theorem e2:x2=kL:=by kernel_rfl
def F:=u2 gI
theorem rn x:H.u P_ x=F x:=Eq.trans (b:=u2 (kX x2) x) (by kernel_rfl) (by simp only[e2]<;>rfl)
def c:Con:=⟨H.p,H.r,F⟩
theorem ok:ConOk P_ gl 286 c:=co H func286 .nil rn
end F286
namespace F206
def H:Hd:=⟨[Si,.lf (.vec 16 (.int .i32)) none],[.agg [Si,Sx,.agg [Si,.lf (.vec 16 (.int .i32)) none,.lf (.vec 16 (.int .i32)) none]],Si],.d,⟨[(286,F286.c)],gl,false⟩,[],f206⟩
def F:=u2 uK
theorem rn x:H.u P_ x=F x:=by kernel_rfl
def c:Con:=⟨H.p,H.r,F⟩
theorem ok:ConOk P_ gl 206 c:=co H func206 (.cons F286.ok .nil) rn
end F206
namespace F208
def H:Hd:=⟨[Su],[Sx],.d,⟨[],gl,false⟩,[],f208⟩
def F:=Yk
theorem rn x:H.u P_ x=F x:=by kernel_rfl
def c:Con:=⟨H.p,H.r,F⟩
theorem ok:ConOk P_ gl 208 c:=co H func208 .nil rn
end F208
namespace F287
def H:Hd:=⟨[.agg [Si,Sx,.agg [Si,.lf (.vec 16 (.int .i32)) none,.lf (.vec 16 (.int .i32)) none]]],[Si],.d,⟨[(286,F286.c)],gl,false⟩,[],f287⟩
def F:=u5 IP
theorem rn x:H.u P_ x=F x:=by kernel_rfl
def c:Con:=⟨H.p,H.r,F⟩
theorem ok:ConOk P_ gl 287 c:=co H func287 (.cons F286.ok .nil) rn
end F287
namespace F342
def H:Hd:=⟨[Si],[Si,Si],.d,⟨[],gl,false⟩,[],f342⟩
def F:=ZH
theorem rn x:H.u P_ x=F x:=by kernel_rfl
def c:Con:=⟨H.p,H.r,F⟩
theorem ok:ConOk P_ gl 342 c:=co H func342 .nil rn
end F342
namespace F343
def H:Hd:=⟨[Si,Sx],[Sx],.d,⟨[],gl,false⟩,[],f343⟩
def F:=u2 QB
theorem rn x:H.u P_ x=F x:=by kernel_rfl
def c:Con:=⟨H.p,H.r,F⟩
theorem ok:ConOk P_ gl 343 c:=co H func343 .nil rn
end F343
namespace F288
def H:Hd:=⟨[Si,Sx],[Sx,Si],.d,⟨[(342,F342.c),(343,F343.c)],gl,false⟩,[],f288⟩
def F:=u2 IQ
theorem rn x:H.u P_ x=F x:=by kernel_rfl
def c:Con:=⟨H.p,H.r,F⟩
theorem ok:ConOk P_ gl 288 c:=co H func288 (.cons F342.ok (.cons F343.ok .nil)) rn
end F288
namespace F366
def H:Hd:=⟨[.agg [Si,.lf (.vec 16 (.int .i32)) none,.lf (.vec 16 (.int .i32)) none]],[Si],.d,⟨[],gl,false⟩,[],f366⟩
def F:=u3 HB
theorem rn x:H.u P_ x=F x:=by kernel_rfl
def c:Con:=⟨H.p,H.r,F⟩
theorem ok:ConOk P_ gl 366 c:=co H func366 .nil rn
end F366
namespace F344
abbrev R_:=(Int32×Int)
def H:Hd:=⟨[.agg [Si,.lf (.vec 16 (.int .i32)) none,.lf (.vec 16 (.int .i32)) none]],[Sx,Si],(.seq .d (.seq .d (.seq .d (.cut [1,5] [] (.seq .d (.blk (.loop [1,5,18,19] [] .d))) .d)))),⟨[(366,F366.c)],gl,false⟩,[],f344⟩
def t4(b:LX)(a:Int)(f:LX)(g:Int32)(h:Int):S:=⟨[(1,.ptr 0 []),(5,vx g),(18,.val (.vec 16 (.int .i32)) b),(19,vi h)],[.box 279 (.agg [vi a,.val (.vec 16 (.int .i32)) b,.val (.vec 16 (.int .i32)) f])],[]⟩
def z4:Nat->S->Option R_:=H.i P_ [r,r,r,l,r,d]
def x6(g:Int32)(a:Int)(b f:LX):Option R_:=H.e P_ [r,r,r,r] ⟨[(1,.ptr 0 []),(5,vx g)],[.box 279 (.agg [vi a,.val (.vec 16 (.int .i32)) b,.val (.vec 16 (.int .i32)) f])],[]⟩
def x4(b:LX)(a:Int)(f:LX)(g:Int32)(h:Int):Option R_:=H.e P_ [r,r,r,l,r,d] (t4 b a f g h)
theorem e6:x6=RG:=by kernel_rfl
theorem i4(b:LX)(a:Int)(f:LX):∀(q:Nat) (g:Int32) (h:Int),z4 q (t4 b a f g h)=Ua b a f q g h:=
 ind (λ_ _=>by kernel_rfl) λq ih g h=>Eq.trans (b:=HW x6 (λg h=>(z4 q) (t4 b a f g h)) b a f g h) (by kernel_rfl) (by simp only[e6,ih]<;>rfl)
theorem e4:x4=RN:=by funext b a f g h;exact Eq.trans (by kernel_rfl) ((i4 b a f Bt g h).trans (by rw[Ak];rfl))
def F:=u3 UY
theorem rn x:H.u P_ x=F x:=Eq.trans (b:=u3 (RD x4) x) (by kernel_rfl) (by simp only[e4]<;>rfl)
def c:Con:=⟨H.p,H.r,F⟩
theorem ok:ConOk P_ gl 344 c:=co H func344 (.cons F366.ok .nil) rn
end F344
namespace F377
def H:Hd:=⟨[Si],[Sx],.d,⟨[],gl,false⟩,[],f377⟩
def F:=SP
theorem rn x:H.u P_ x=F x:=by kernel_rfl
def c:Con:=⟨H.p,H.r,F⟩
theorem ok:ConOk P_ gl 377 c:=co H func377 .nil rn
end F377
namespace F367
abbrev R_:=(Int×LX×LX×Int)
def H:Hd:=⟨[.agg [Si,.lf (.vec 16 (.int .i32)) none,.lf (.vec 16 (.int .i32)) none],Sx],[.agg [Si,.lf (.vec 16 (.int .i32)) none,.lf (.vec 16 (.int .i32)) none],Si],(.seq .d (.seq .d (.seq .d (.cut [2,4] [] (.seq .d (.blk (.loop [1,2,4,19,20] [] .d))) .d)))),⟨[(366,F366.c),(377,F377.c)],gl,false⟩,[],f367⟩
def t4(h:Int32)(f:LX)(g a:Int)(b:LX):S:=⟨[(1,vx h),(2,.ptr 0 []),(4,.ptr 1 []),(19,.val (.vec 16 (.int .i32)) f),(20,vi a)],[.box 279 (.agg [vi g,.val (.vec 16 (.int .i32)) b,.val (.vec 16 (.int .i32)) f]),.box 279 (.agg [vi 0,.val (.vec 16 (.int .i32)) (List.replicate 16 (0:Int32)),.val (.vec 16 (.int .i32)) (List.replicate 16 (0:Int32))])],[]⟩
def z4:Nat->S->Option R_:=H.i P_ [r,r,r,l,r,d]
def x6(g:Int)(b f:LX):Option R_:=H.e P_ [r,r,r,r] ⟨[(2,.ptr 0 []),(4,.ptr 1 [])],[.box 279 (.agg [vi g,.val (.vec 16 (.int .i32)) b,.val (.vec 16 (.int .i32)) f]),.box 279 (.agg [vi 0,.val (.vec 16 (.int .i32)) (List.replicate 16 (0:Int32)),.val (.vec 16 (.int .i32)) (List.replicate 16 (0:Int32))])],[]⟩
def x4(h:Int32)(f:LX)(g a:Int)(b:LX):Option R_:=H.e P_ [r,r,r,l,r,d] (t4 h f g a b)
theorem e6:x6=cU:=by kernel_rfl
theorem i4(h:Int32)(f:LX)(g:Int):∀(q:Nat) (a:Int) (b:LX),z4 q (t4 h f g a b)=Tu h f g q a b:=
 ind (λ_ _=>by kernel_rfl) λq ih a b=>Eq.trans (b:=HX x6 (λa b=>(z4 q) (t4 h f g a b)) h f g a b) (by kernel_rfl) (by simp only[e6,ih]<;>rfl)
theorem e4:x4=cR:=by funext h f g a b;exact Eq.trans (by kernel_rfl) ((i4 h f g Bt a b).trans (by rw[Ak];rfl))
def F:=u4 WQ
theorem rn x:H.u P_ x=F x:=Eq.trans (b:=u4 (RT x4) x) (by kernel_rfl) (by simp only[e4]<;>rfl)
def c:Con:=⟨H.p,H.r,F⟩
theorem ok:ConOk P_ gl 367 c:=co H func367 (.cons F366.ok (.cons F377.ok .nil)) rn
end F367
namespace F368
def QW(j2:Int32->Int->LX->LX->Option (Int×LX×LX×Int))(b:Int)(f a:LX)(g:Int32):Option (Int×LX×LX×Int):=
(HB b f a).bind λh=>
if(Ch h 0)then
some (0,(List.replicate 16 (0:Int32)),(List.replicate 16 (0:Int32)),h)
else
both (
(eX 16 1 16).bind λ_=>
(eX 16 0 16).bind λ_=>
j2 g b f a) [
(eX 16 0 16).bind λ_=>
(eX 16 1 16).bind λ_=>
j2 g b f a]
theorem jN: @QW= @MC:=by
  unfold QW MC
  repeat (refine funext λ_=>?_)
  repeat' first
    |with_reducible rfl
    |with_reducible refine Ma ?_ ?_
    |with_reducible refine Lo ?_ ?_ ?_
    |with_reducible refine Mc ?_ ?_ ?_ ?_
    |((with_reducible refine Tg ?_ ?_);focus (intro h;first|(subst h;rfl)|(simp only[h];rfl)|(simp[Cu,Ac,h];done)))
    |with_reducible refine Rr λx=>?_
    |with_reducible refine AN (λ_=>?_) (λ_=>?_)
    |(refine Gl (λh=>by simp only[h,So,Du,Dq,ite_self]) (λx h=>?_);(try simp only[h,Du]))
    |(refine Jb (λh=>?_) (λh=>?_)<;>simp only[h,if_true,if_false,Bool.false_eq_true])
abbrev R_:=(Int×LX×LX×Int)
def H:Hd:=⟨[.agg [Si,.lf (.vec 16 (.int .i32)) none,.lf (.vec 16 (.int .i32)) none],Sx],[.agg [Si,.lf (.vec 16 (.int .i32)) none,.lf (.vec 16 (.int .i32)) none],Si],(.seq .d (.seq .d (.cut [1,2,4] [] .d .d))),⟨[(366,F366.c)],gl,false⟩,[],f368⟩
def x2(g:Int32)(b:Int)(f a:LX):Option R_:=H.e P_ [r,r,r] ⟨[(1,vx g),(2,.ptr 0 []),(4,.ptr 1 [])],[.box 279 (.agg [vi b,.val (.vec 16 (.int .i32)) f,.val (.vec 16 (.int .i32)) (Ud a (1:Int) ((16:Int)-(1:Int)) (TE a (0:Int) ((16:Int)-(0:Int))))]),.box 279 (.agg [vi 0,.val (.vec 16 (.int .i32)) (List.replicate 16 (0:Int32)),.val (.vec 16 (.int .i32)) (List.replicate 16 (0:Int32))])],[]⟩
theorem e2:x2=VH:=by kernel_rfl
def F:=u4 bY
theorem rn x:H.u P_ x=F x:=Eq.trans (b:=u4 (QW x2) x) (by kernel_rfl) (by unfold F;rw[jN];simp only[e2]<;>rfl)
def c:Con:=⟨H.p,H.r,F⟩
theorem ok:ConOk P_ gl 368 c:=co H func368 (.cons F366.ok .nil) rn
end F368
namespace F345
def H:Hd:=⟨[.agg [Si,.lf (.vec 16 (.int .i32)) none,.lf (.vec 16 (.int .i32)) none],Sx,Sx],[.agg [Si,.lf (.vec 16 (.int .i32)) none,.lf (.vec 16 (.int .i32)) none]],.d,⟨[(367,F367.c),(368,F368.c)],gl,false⟩,[],f345⟩
def F:=u5 dM
theorem rn x:H.u P_ x=F x:=by kernel_rfl
def c:Con:=⟨H.p,H.r,F⟩
theorem ok:ConOk P_ gl 345 c:=co H func345 (.cons F367.ok (.cons F368.ok .nil)) rn
end F345
namespace F289
def H:Hd:=⟨[.agg [Si,.lf (.vec 16 (.int .i32)) none,.lf (.vec 16 (.int .i32)) none],Sx],[Sx,.agg [Si,.lf (.vec 16 (.int .i32)) none,.lf (.vec 16 (.int .i32)) none],Si],.d,⟨[(344,F344.c),(345,F345.c)],gl,false⟩,[],f289⟩
def F:=u4 aS
theorem rn x:H.u P_ x=F x:=by kernel_rfl
def c:Con:=⟨H.p,H.r,F⟩
theorem ok:ConOk P_ gl 289 c:=co H func289 (.cons F344.ok (.cons F345.ok .nil)) rn
end F289
namespace F207
def NW(a:Int)(b:Int32)(f:Int)(g h:LX)(o:Int32):Option (Int32×Int×Int32×Int×LX×LX×Int):=
(IP a b f g h).bind λk=>
if(Ch k 0)then
some (0,0,0,0,(List.replicate 16 (0:Int32)),(List.replicate 16 (0:Int32)),k)
else
(IQ a b).bind λ(m,y)=>
(aS f g h o).bind λ(n,p,u,v,w)=>
(λaa:Option (Int32×Int×Int32×Int×LX×LX×Int)=>
bo (
aa)) (
some ((Ae n m),a,(Ae n m),p,u,v,w))
theorem fP: @NW= @Kl:=by
  unfold NW Kl;simp only[aR,MS,OY]
def H:Hd:=⟨[.agg [Si,Sx,.agg [Si,.lf (.vec 16 (.int .i32)) none,.lf (.vec 16 (.int .i32)) none]],Sx],[Sx,.agg [Si,Sx,.agg [Si,.lf (.vec 16 (.int .i32)) none,.lf (.vec 16 (.int .i32)) none]],Si],(.seq .d (.seq .d (.seq .d (.seq .d (.seq (.mode false) .d))))),⟨[(287,F287.c),(288,F288.c),(289,F289.c)],gl,false⟩,[],f207⟩
def F:=u6 Kl
theorem rn x:H.u P_ x=F x:=Eq.trans (b:=u6 NW x) (by kernel_rfl) (by rw[fP];rfl)
def c:Con:=⟨H.p,H.r,F⟩
theorem ok:ConOk P_ gl 207 c:=co H func207 (.cons F287.ok (.cons F288.ok (.cons F289.ok .nil))) rn
end F207
namespace F290
def H:Hd:=⟨[Si,Sw],[Si],.d,⟨[],gl,false⟩,[],f290⟩
def F:=u2 bQ
theorem rn x:H.u P_ x=F x:=by kernel_rfl
def c:Con:=⟨H.p,H.r,F⟩
theorem ok:ConOk P_ gl 290 c:=co H func290 .nil rn
end F290
namespace F291
def Kh(a:LX):Option (LX):=
uQ a (
some ([]:LX)) (
(Cu ([]:LX) a).bind λb=>
some b)
theorem FK: @Kh= @Ge:=by
  unfold Kh Ge
  repeat (refine funext λ_=>?_)
  repeat' first
    |with_reducible rfl
    |with_reducible refine Ma ?_ ?_
    |with_reducible refine Lo ?_ ?_ ?_
    |with_reducible refine Mc ?_ ?_ ?_ ?_
    |((with_reducible refine Tg ?_ ?_);focus (intro h;first|(subst h;rfl)|(simp only[h];rfl)|(simp[Cu,Ac,h];done)))
    |with_reducible refine Rr λx=>?_
    |with_reducible refine AN (λ_=>?_) (λ_=>?_)
    |(refine Gl (λh=>by simp only[h,So,Du,Dq,ite_self]) (λx h=>?_);(try simp only[h,Du]))
    |(refine Jb (λh=>?_) (λh=>?_)<;>simp only[h,if_true,if_false,Bool.false_eq_true])
def H:Hd:=⟨[Sw],[Ow 21],.d,⟨[],gl,false⟩,[],f291⟩
def F:=Ge
theorem rn x:H.u P_ x=F x:=Eq.trans (b:=Kh x) (by kernel_rfl) (by rw[FK];rfl)
def c:Con:=⟨H.p,H.r,F⟩
theorem ok:ConOk P_ gl 291 c:=co H func291 .nil rn
end F291
namespace F209
abbrev R_:=(LX×Int)
abbrev K_:=S->Option R_
def H:Hd:=⟨[Si,Sw],[Ow 21,Si],(.seq .d (.seq .d (.seq .d (.cut [7] [] (.seq .d (.blk (.loop [0,7,8] [] (.seq .d (.cut [0,7,8] [] (.blk (.keep [0,7,8,24,25,26,27,28,29] true)) .d))))) .d)))),⟨[(290,F290.c),(291,F291.c)],gl,true⟩,[(292,(.seq .d (.cut [0,2] [] .d (.seq .d (.blk (.loop [0,3] [] .d))))))],f209⟩
def t18(b a g:Int)(h:LX):S:=⟨[(0,.view true 0 [] (.int .i32) a ((Ae a b)-a)),(3,vi g)],[Aw 21 h],[[(0,vi b),(7,.own 0),(8,vi a),(24,.own 0),(25,vi a),(26,vi a),(27,vi b),(28,vi (Ae a b)),(29,.view true 0 [] (.int .i32) a ((Ae a b)-a))]]⟩
def z18(PY:K_):Nat->S->Option R_:=H.i P_ [r,r,r,l,r,d,(lp PY),r,l,d,(call 6 292),r,r,r,d]
def t12(b a:Int)(f:LX):S:=⟨[(0,vi b),(7,.own 0),(8,vi a)],[Aw 21 f],[]⟩
def z12:Nat->S->Option R_:=H.i P_ [r,r,r,l,r,d]
def x22(f:LX):Option R_:=H.e P_ [r,r,r,r] ⟨[(7,.own 0)],[Aw 21 f],[]⟩
def x20(PY:K_)(b a:Int)(h:LX):Option R_:=H.e P_ [r,r,r,l,r,d,(lp PY),r,r] ⟨[(0,vi b),(7,.own 0),(8,vi a)],[Aw 21 h],[]⟩
def x18(PY:K_)(b a g:Int)(h:LX):Option R_:=H.e P_ [r,r,r,l,r,d,(lp PY),r,l,d,(call 6 292),r,r,r,d] (t18 b a g h)
def x17(PY:K_)(b a:Int)(k:LX):Option R_:=H.e P_ [r,r,r,l,r,d,(lp PY),r,l,d,(call 6 292),r,r] ⟨[(0,.view true 0 [] (.int .i32) a ((Ae a b)-a)),(2,vi (Am ((Ae a b)-a) (1:Int)))],[Aw 21 k],[[(0,vi b),(7,.own 0),(8,vi a),(24,.own 0),(25,vi a),(26,vi a),(27,vi b),(28,vi (Ae a b)),(29,.view true 0 [] (.int .i32) a ((Ae a b)-a))]]⟩
def x12(b a:Int)(f:LX):Option R_:=H.e P_ [r,r,r,l,r,d] (t12 b a f)
theorem e22:x22=fJ:=by kernel_rfl
theorem e20(PY:K_)(b:Int):x20 PY b=VC (λa f=>PY (t12 b a f)) b:=by kernel_rfl
theorem i18(PY:K_)(b a:Int):∀(q:Nat) (g:Int) (h:LX),z18 PY q (t18 b a g h)=Yi (λa f=>PY (t12 b a f)) b a q g h:=
 ind (λ_ _=>by kernel_rfl) λq ih g h=>Eq.trans (b:=LV (x20 PY b) (λg h=>(z18 PY q) (t18 b a g h)) b a g h) (by kernel_rfl) (by simp only[e20,ih]<;>rfl)
theorem e18(PY:K_)(b:Int):x18 PY b=UG (λa f=>PY (t12 b a f)) b:=by funext a g h;exact Eq.trans (by kernel_rfl) ((i18 PY b a Bt g h).trans (by rw[Ak];rfl))
theorem e17(PY:K_)(b:Int):x17 PY b=MG (λa f=>PY (t12 b a f)) b:=Eq.trans (b:=TY (x18 PY b) b) (by kernel_rfl) (by simp only[e18]<;>rfl)
theorem i12(b:Int):∀(q:Nat) (a:Int) (f:LX),z12 q (t12 b a f)=Sg b q a f:=
 ind (λ_ _=>by kernel_rfl) λq ih a f=>Eq.trans (b:=UD (x17 (z12 q) b) x22 b a f) (by kernel_rfl) (by simp only[e17,e22,ih]<;>rfl)
theorem e12:x12=VI:=by funext b a f;exact Eq.trans (by kernel_rfl) ((i12 b Bt a f).trans (by rw[Ak];rfl))
def F:=u2 fS
theorem rn x:H.u P_ x=F x:=Eq.trans (b:=u2 (aV x12) x) (by kernel_rfl) (by simp only[e12]<;>rfl)
def c:Con:=⟨H.p,H.r,F⟩
theorem ok:ConOk P_ gl 209 c:=cr H func209 (.cons F290.ok (.cons F291.ok .nil)) (Ri.cons ent292 Ri.nil) rn
end F209
namespace F169
abbrev R_:=Int
def H:Hd:=⟨[Si,Sw],[Si],(.seq .d (.seq .d (.seq .d (.seq .d (.cut [] [] (.seq .d (.blk (.loop [5,6,22,23,24] [] .d))) .d))))),⟨[(151,F151.c)],gl,false⟩,[],f169⟩
def t4(b f:Int32)(a:LX)(g:Int):S:=⟨[(5,vx b),(6,vx f),(22,vw a),(23,vi (Ac a)),(24,vi g)],[],[]⟩
def z4:Nat->S->Option R_:=H.i P_ [r,r,r,r,l,r,d]
def x6:Option R_:=H.e P_ [r,r,r,r,r] ⟨[],[],[]⟩
def x4(b f:Int32)(a:LX)(g:Int):Option R_:=H.e P_ [r,r,r,r,l,r,d] (t4 b f a g)
theorem e6:x6=ZZ:=by kernel_rfl
theorem i4(b f:Int32)(a:LX):∀(q:Nat) (g:Int),z4 q (t4 b f a g)=Qj b f a q g:=
 ind (λ_=>by kernel_rfl) λq ih g=>Eq.trans (b:=CW x6 (λg=>(z4 q) (t4 b f a g)) b f a g) (by kernel_rfl) (by simp only[e6,ih]<;>rfl)
theorem e4:x4=YE:=by funext b f a g;exact Eq.trans (by kernel_rfl) ((i4 b f a Bt g).trans (by rw[Ak];rfl))
def F:=u2 BR
theorem rn x:H.u P_ x=F x:=Eq.trans (b:=u2 (OQ x4) x) (by kernel_rfl) (by simp only[e4]<;>rfl)
def c:Con:=⟨H.p,H.r,F⟩
theorem ok:ConOk P_ gl 169 c:=co H func169 (.cons F151.ok .nil) rn
end F169
namespace F128
def Xe(j16:Int->Int32->Int-> (List (Int×Int32×(Int×LX×LX×Unit)×Unit))->LX->Int->Int32->Int->LX->LX->Option (LX×Int))(j18:Int->Int->LX->Option (LX×Int))(f:LU)(a b g:Int)(h:List (Int×Int32×(Int×LX×LX×Unit)×Unit))(k:LX):Option (LX×Int):=
if(Cp g (Ac f))then
(Aj f g).bind λag=>
(Rj (Ch a 0)).bind λ_=>
(Aj h (Is g a)).bind λ_=>
both (
(Aj h (Is g a)).bind λm=>
both (
(Yk ag).bind λae=>
(λao:Option (LX×Int)=>
bo (
ao)) (
(Kl m.1 m.2.1 m.2.2.1.1 m.2.2.1.2.1 m.2.2.1.2.2.1 ae).bind λ(w,y,v,aa,ab,ac,u)=>
j16 g w u h k y v aa ab ac)) [
(Yk ag).bind λae=>
(Kl m.1 m.2.1 m.2.2.1.1 m.2.2.1.2.1 m.2.2.1.2.2.1 ae).bind λ(w,y,v,aa,ab,ac,u)=>
j16 g w u h k y v aa ab ac]) [
(Yk ag).bind λaf=>
both (
(Aj h (Is g a)).bind λad=>
(λap:Option (LX×Int)=>
bo (
ap)) (
(Kl ad.1 ad.2.1 ad.2.2.1.1 ad.2.2.1.2.1 ad.2.2.1.2.2.1 af).bind λ(w,y,v,aa,ab,ac,u)=>
j16 g w u h k y v aa ab ac)) [
(Aj h (Is g a)).bind λad=>
(Kl ad.1 ad.2.1 ad.2.2.1.1 ad.2.2.1.2.1 ad.2.2.1.2.2.1 af).bind λ(w,y,v,aa,ab,ac,u)=>
j16 g w u h k y v aa ab ac],
both (
(Aj h (Is g a)).bind λm=>
(Yk ag).bind λae=>
(Kl m.1 m.2.1 m.2.2.1.1 m.2.2.1.2.1 m.2.2.1.2.2.1 ae).bind λ(w,y,v,aa,ab,ac,u)=>
j16 g w u h k y v aa ab ac) [
(Yk ag).bind λaf=>
(Aj h (Is g a)).bind λad=>
(Kl ad.1 ad.2.1 ad.2.2.1.1 ad.2.2.1.2.1 ad.2.2.1.2.2.1 af).bind λ(w,y,v,aa,ab,ac,u)=>
j16 g w u h k y v aa ab ac]]
else
j18 a b k
theorem SH: @Xe= @Kq:=by
  unfold Xe Kq
  try simp only[aR,MS,OY]
  all_goals
    repeat (refine funext λ_=>?_)
    repeat' first
      |with_reducible rfl
      |with_reducible refine Ma ?_ ?_
      |with_reducible refine Lo ?_ ?_ ?_
      |with_reducible refine Mc ?_ ?_ ?_ ?_
      |((with_reducible refine Tg ?_ ?_);focus (intro h;first|(subst h;rfl)|(simp only[h];rfl)|(simp[Cu,Ac,h];done)))
      |with_reducible refine Rr λx=>?_
      |with_reducible refine AN (λ_=>?_) (λ_=>?_)
      |(refine Gl (λh=>by simp only[h,So,Du,Dq,ite_self]) (λx h=>?_);(try simp only[h,Du]))
      |(refine Jb (λh=>?_) (λh=>?_)<;>simp only[h,if_true,if_false,Bool.false_eq_true])
abbrev R_:=(LX×Int)
abbrev K_:=S->Option R_
def H:Hd:=⟨[.agg [Si,Si],.lf (.vec 16 (.int .i32)) none,Sv],[Ow 21,Si],(.seq .d (.seq .d (.cut [2,3,8] [] (.seq .d (.blk (.loop [2,3,4,8,20] [] .d))) (.seq .d (.cut [3,10] [] (.seq .d (.blk (.loop [3,8,10,33,34,35] [⟨10,[],.own 21 (.int .i32)⟩] (.seq .d (.seq .d (.seq (.blk (.seq .d (.seq .d (.cut [3,8,10,13,14,15,16,33,34,35] [] (.mode false) .d)))) .d)))))) .d))))),⟨[(169,F169.c),(206,F206.c),(207,F207.c),(208,F208.c),(209,F209.c)],gl,false⟩,[],f128⟩
def t13(f:LU)(a b g:Int)(h:List (Int×Int32×(Int×LX×LX×Unit)×Unit))(k:LX):S:=⟨[(3,.ptr 0 []),(8,.ptr 1 []),(10,.own 2),(33,vv f),(34,vi (Ac f)),(35,vi g)],[.box 104 (.agg [vi a,vi b]),.box 282 (.val (.vec 6 (.cons (.int .i64) (.cons (.int .i32) (.cons (.cons (.int .i64) (.cons (.vec 16 (.int .i32)) (.cons (.vec 16 (.int .i32)) .nil))) .nil)))) h),Aw 21 k],[]⟩
def z13:Nat->S->Option R_:=H.i P_ [r,r,r,r,l,r,d]
def t10(f:LU)(a b:Int)(o:LX)(p:Int)(n:List (Int×Int32×(Int×LX×LX×Unit)×Unit)):S:=⟨[(2,vv f),(3,.ptr 0 []),(4,.ptr 1 []),(8,.ptr 2 []),(20,vi p)],[.box 104 (.agg [vi a,vi b]),.box 105 (.val (.vec 16 (.int .i32)) o),.box 282 (.val (.vec 6 (.cons (.int .i64) (.cons (.int .i32) (.cons (.cons (.int .i64) (.cons (.vec 16 (.int .i32)) (.cons (.vec 16 (.int .i32)) .nil))) .nil)))) n)],[]⟩
def z10:Nat->S->Option R_:=H.i P_ [r,r,l,r,d]
def x18(a b:Int)(k:LX):Option R_:=H.e P_ [r,r,r,r,r] ⟨[(3,.ptr 0 []),(10,.own 1)],[.box 104 (.agg [vi a,vi b]),Aw 21 k],[]⟩
def x16(Agk:K_)(a:Int)(f:LU)(b g:Int)(w:Int32)(u:Int)(h:List (Int×Int32×(Int×LX×LX×Unit)×Unit))(k:LX)(y:Int)(v:Int32)(aa:Int)(ab ac:LX):Option R_:=H.e P_ [r,r,r,r,l,r,d,(lp Agk),r,r,l,d,r,r,r] ⟨[(3,.ptr 0 []),(8,.ptr 1 []),(10,.own 2),(13,.ptr 1 [.idx (Is g a) 35]),(14,vx w),(15,.ptr 3 []),(16,vi u),(33,vv f),(34,vi (Ac f)),(35,vi g)],[.box 104 (.agg [vi a,vi b]),.box 282 (.val (.vec 6 (.cons (.int .i64) (.cons (.int .i32) (.cons (.cons (.int .i64) (.cons (.vec 16 (.int .i32)) (.cons (.vec 16 (.int .i32)) .nil))) .nil)))) h),Aw 21 k,.box 281 (.agg [vi y,vx v,.agg [vi aa,.val (.vec 16 (.int .i32)) ab,.val (.vec 16 (.int .i32)) ac]])],[]⟩
def x13(f:LU)(a b g:Int)(h:List (Int×Int32×(Int×LX×LX×Unit)×Unit))(k:LX):Option R_:=H.e P_ [r,r,r,r,l,r,d] (t13 f a b g h k)
def x12(f:LU)(a b:Int)(n:List (Int×Int32×(Int×LX×LX×Unit)×Unit)):Option R_:=H.e P_ [r,r,r] ⟨[(2,vv f),(3,.ptr 0 []),(8,.ptr 1 [])],[.box 104 (.agg [vi a,vi b]),.box 282 (.val (.vec 6 (.cons (.int .i64) (.cons (.int .i32) (.cons (.cons (.int .i64) (.cons (.vec 16 (.int .i32)) (.cons (.vec 16 (.int .i32)) .nil))) .nil)))) n)],[]⟩
def x10(f:LU)(a b:Int)(o:LX)(p:Int)(n:List (Int×Int32×(Int×LX×LX×Unit)×Unit)):Option R_:=H.e P_ [r,r,l,r,d] (t10 f a b o p n)
theorem e18:x18=Kr:=by kernel_rfl
theorem e16(Agk:K_)(f:LU)(a b:Int):x16 Agk a f b=Zf (λg h k=>Agk (t13 f a b g h k)) a f b:=by kernel_rfl
theorem i13(f:LU)(a b:Int):∀(q:Nat) (g:Int) (h:List (Int×Int32×(Int×LX×LX×Unit)×Unit)) (k:LX),z13 q (t13 f a b g h k)=Hz f a b q g h k:=
 ind (λ_ _ _=>by kernel_rfl) λq ih g h k=>Eq.trans (b:=Xe (x16 (z13 q) a f b) x18 f a b g h k) (by kernel_rfl) (by rw[SH];simp only[e16,e18,ih]<;>rfl)
theorem e13:x13=LK:=by funext f a b g h k;exact Eq.trans (by kernel_rfl) ((i13 f a b Bt g h k).trans (by rw[Ak];rfl))
theorem e12:x12=Zn:=Eq.trans (b:=LA x13) (by kernel_rfl) (by simp only[e13]<;>rfl)
theorem i10(f:LU)(a b:Int)(o:LX):∀(q:Nat) (p:Int) (n:List (Int×Int32×(Int×LX×LX×Unit)×Unit)),z10 q (t10 f a b o p n)=Zl f a b o q p n:=
 ind (λ_ _=>by kernel_rfl) λq ih p n=>Eq.trans (b:=LH x12 (λp n=>(z10 q) (t10 f a b o p n)) f a b o p n) (by kernel_rfl) (by simp only[e12,ih]<;>rfl)
theorem e10:x10=Pr:=by funext f a b o p n;exact Eq.trans (by kernel_rfl) ((i10 f a b o Bt p n).trans (by rw[Ak];rfl))
def F:=u4 Tr
theorem rn x:H.u P_ x=F x:=Eq.trans (b:=u4 (AX x10) x) (by kernel_rfl) (by simp only[e10]<;>rfl)
def c:Con:=⟨H.p,H.r,F⟩
theorem ok:ConOk P_ gl 128 c:=co H func128 (.cons F169.ok (.cons F206.ok (.cons F207.ok (.cons F208.ok (.cons F209.ok .nil))))) rn
end F128
namespace F68
def H:Hd:=⟨[.agg [Si,Si],.lf (.vec 16 (.int .i32)) none,Si,Sb],[Ow 21,Si],.d,⟨[(123,F123.c),(124,F124.c),(125,F125.c),(126,F126.c),(127,F127.c),(128,F128.c)],gl,false⟩,[],f68⟩
def F:=u5 Wb
theorem rn x:H.u P_ x=F x:=by kernel_rfl
def c:Con:=⟨H.p,H.r,F⟩
theorem ok:ConOk P_ gl 68 c:=co H func68 (.cons F123.ok (.cons F124.ok (.cons F125.ok (.cons F126.ok (.cons F127.ok (.cons F128.ok .nil)))))) rn
end F68
namespace F118
abbrev R_:=(Int×Int)
def H:Hd:=⟨[Sb],[Si,Si],(.seq .d (.seq .d (.cut [0,4] [] .d .d))),⟨[(113,F113.c),(196,F196.c),(197,F197.c),(198,F198.c)],gl,false⟩,[],f118⟩
def x2(a:LB):Option R_:=H.e P_ [r,r,r] ⟨[(0,vb a),(4,vi (Am (Ac a) (32:Int)))],[],[]⟩
theorem e2:x2=XV:=by kernel_rfl
def F:=fM
theorem rn x:H.u P_ x=F x:=Eq.trans (b:=ZQ x2 x) (by kernel_rfl) (by simp only[e2]<;>rfl)
def c:Con:=⟨H.p,H.r,F⟩
theorem ok:ConOk P_ gl 118 c:=co H func118 (.cons F113.ok (.cons F196.ok (.cons F197.ok (.cons F198.ok .nil)))) rn
end F118
namespace F55
abbrev R_:=(Int×Int)
abbrev K_:=S->Option R_
def H:Hd:=⟨[Sb],[Si,Si],(.seq .d (.seq .d (.seq .d (.seq .d (.cut [5] [] (.blk (.loop [1,4,5] [] (.seq .d (.cut [1,4,5] [] (.blk (.cut [1,4,5,6] [] (.keep [1,4,5,6,16,17] true) .d)) .d)))) .d))))),⟨[(118,F118.c)],gl,false⟩,[(117,.d)],f55⟩
def t8(a:Int)(b:LB):S:=⟨[(1,.ptr 0 []),(4,.fn 117 [.ptr 0 []]),(5,vi a)],[.box 22 (vb b)],[]⟩
def z8:Nat->S->Option R_:=H.i P_ [r,r,r,r,l,d]
def x14(a:Int):Option R_:=H.e P_ [r,r,r,r,r] ⟨[(5,vi a)],[],[]⟩
def x12(kn8:K_)(a:Int)(g:LB):Option R_:=H.e P_ [r,r,r,r,l,d,(lp kn8),r,r] ⟨[(1,.ptr 0 []),(4,.fn 117 [.ptr 0 []]),(5,vi a)],[.box 22 (vb g)],[]⟩
def x11(kn8:K_)(a f:Int)(b:LB):Option R_:=H.e P_ [r,r,r,r,l,d,(lp kn8),r,l,d,r] ⟨[(1,.ptr 0 []),(4,.fn 117 [.ptr 0 []]),(5,vi a),(6,vi f)],[.box 22 (vb b)],[]⟩
def x8(a:Int)(b:LB):Option R_:=H.e P_ [r,r,r,r,l,d] (t8 a b)
theorem e14:x14=TM:=by kernel_rfl
theorem e12(kn8:K_):x12 kn8=HM (λa b=>kn8 (t8 a b)):=by kernel_rfl
theorem e11(kn8:K_):x11 kn8=GZ (λa b=>kn8 (t8 a b)):=Eq.trans (b:=HL (x12 kn8)) (by kernel_rfl) (by simp only[e12]<;>rfl)
theorem i8:∀(q:Nat) (a:Int) (b:LB),z8 q (t8 a b)=Tq q a b:=
 ind (λ_ _=>by kernel_rfl) λq ih a b=>Eq.trans (b:=KN (x11 (z8 q)) x14 a b) (by kernel_rfl) (by simp only[e11,e14,ih]<;>rfl)
theorem e8:x8=WY:=by funext a b;exact Eq.trans (by kernel_rfl) ((i8 Bt a b).trans (by rw[Ak];rfl))
def F:=LY
theorem rn x:H.u P_ x=F x:=Eq.trans (b:=KL x8 x) (by kernel_rfl) (by simp only[e8]<;>rfl)
def c:Con:=⟨H.p,H.r,F⟩
theorem ok:ConOk P_ gl 55 c:=cr H func55 (.cons F118.ok .nil) (Ri.cons ent117 Ri.nil) rn
end F55
namespace F24
abbrev R_:=(Int×Int×Int×LX×Int)
abbrev K_:=S->Option R_
def H:Hd:=⟨[Sb,Ss],[.agg [Si,Si,Si,Ow 21],Si],(.seq .d (.seq .d (.seq .d (.seq .d (.cut [0,1,4,6] [] (.cut [0,1,4,6,8] [] (.keep [0,1,4,6,8,34,35,36] true) .d) (.cut [0,1,4,6,7,9] [⟨9,[],.own 3 (.int .i64)⟩] (.keep [0,1,4,6,7,9,41,42,43,44,45] true) (.seq .d (.seq .d (.seq .d (.seq .d (.seq .d (.cut [0,4,10,14] [] (.seq .d (.blk (.loop [0,4,6,10,11,12,14,75,76,77] [⟨10,[3],.own 21 (.int .i32)⟩] (.seq .d (.seq .d (.seq (.blk (.seq .d (.seq .d (.cut [0,4,6,10,11,12,14,16,17,18,75,76,77] [] .d .d)))) .d)))))) .d)))))))))))),⟨[(51,F51.c),(53,F53.c),(55,F55.c),(64,F64.c),(67,F67.c),(68,F68.c)],gl,false⟩,[(65,.d),(66,(.seq .d (.seq .d (.cut [0,6,7] [] .d (.seq .d (.seq .d (.seq .d (.cut [6] [] (.seq .d (.blk (.loop [0,6,60,61,62] [] .d))) .d))))))))],f24⟩
def t21(a:LB)(w:LI)(m b f h o p n g y ab:Int)(ac:LX)(k:LI)(aa ae:Int)(ad:LX):S:=⟨[(0,vb a),(4,.ptr 0 []),(6,.ptr 1 []),(10,.ptr 2 []),(11,.ptr 3 []),(12,.ptr 4 []),(14,vi aa),(75,.own 5),(76,vi (Ac w)),(77,vi ae)],[.box 30 (.agg [vi 0,vi 0,vi 0,.nils]),.box 99 (.agg [.agg [vi m,vi b,vi f,vi h,vi o],.agg [vi p,vi n,vi g,vi y,vi ab],.own 6]),.box 30 (.agg [vi b,vi f,vi h,.own 7]),.box 104 (.agg [vi b,vi f]),.box 105 (.val (.vec 16 (.int .i32)) ac),Ai 3 w,Ai 3 k,Aw 21 ad],[]⟩
def z21:Nat->S->Option R_:=H.i P_ [r,r,r,r,r,r,r,r,r,r,r,l,r,d]
def t17(v:LI)(a u:LB)(m b f h o p n g:Int)(k:LI)(ag af:Int):S:=⟨[(0,.ptr 0 []),(6,.own 1),(60,.own 1),(61,vi (Ac v)),(62,vi ag)],[.box 99 (.agg [.agg [vi m,vi b,vi f,vi h,vi o],.agg [vi p,vi n,vi g,vi (Ae (Ae g (Be (4:Int) (Ac v))) (4:Int)),vi af],.own 3]),Ai 3 v,.box 30 (.agg [vi 0,vi 0,vi 0,.nils]),Ai 3 k],[[(0,vb a),(1,vs u),(4,.ptr 2 []),(6,.ptr 0 []),(42,vb a)]]⟩
def z17:Nat->S->Option R_:=H.i P_ [r,r,r,r,r,l,(call 1 66),r,r,r,r,r,r,l,r,d]
def x26(a:LB)(aa b f h:Int)(ad:LX):Option R_:=H.e P_ [r,r,r,r,r,r,r,r,r,r,r,r] ⟨[(0,vb a),(4,.ptr 0 []),(10,.ptr 1 []),(14,vi aa)],[.box 30 (.agg [vi 0,vi 0,vi 0,.nils]),.box 30 (.agg [vi b,vi f,vi h,.own 2]),Aw 21 ad],[]⟩
def x24(Agl:K_)(a:LB)(w:LI)(m b f h o p n g y ab:Int)(ac:LX)(k:LI)(aa aj ak ae:Int)(am ad:LX):Option R_:=H.e P_ [r,r,r,r,r,r,r,r,r,r,r,l,r,d,(lp Agl),r,r,l,d,r,r,r] ⟨[(0,vb a),(4,.ptr 0 []),(6,.ptr 1 []),(10,.ptr 2 []),(11,.ptr 3 []),(12,.ptr 4 []),(14,vi aa),(16,vi aj),(17,.own 5),(18,vi ak),(75,.own 6),(76,vi (Ac w)),(77,vi ae)],[.box 30 (.agg [vi 0,vi 0,vi 0,.nils]),.box 99 (.agg [.agg [vi m,vi b,vi f,vi h,vi o],.agg [vi p,vi n,vi g,vi y,vi ab],.own 7]),.box 30 (.agg [vi b,vi f,vi h,.own 8]),.box 104 (.agg [vi b,vi f]),.box 105 (.val (.vec 16 (.int .i32)) ac),Aw 21 am,Ai 3 w,Ai 3 k,Aw 21 ad],[]⟩
def x21(a:LB)(w:LI)(m b f h o p n g y ab:Int)(ac:LX)(k:LI)(aa ae:Int)(ad:LX):Option R_:=H.e P_ [r,r,r,r,r,r,r,r,r,r,r,l,r,d] (t21 a w m b f h o p n g y ab ac k aa ae ad)
def x20(a u:LB)(m b f h o p n g:Int)(k:LI)(an y ab:Int)(w:LI):Option R_:=H.e P_ [r,r,r,r,r,r] ⟨[(0,vb a),(1,vs u),(4,.ptr 0 []),(6,.ptr 1 []),(7,vi an),(9,.own 2)],[.box 30 (.agg [vi 0,vi 0,vi 0,.nils]),.box 99 (.agg [.agg [vi m,vi b,vi f,vi h,vi o],.agg [vi p,vi n,vi g,vi y,vi ab],.own 3]),Ai 3 w,Ai 3 k],[]⟩
def x19(a u:LB)(v:LI)(m b f h o p n g af:Int)(k:LI):Option R_:=H.e P_ [r,r,r,r,r,l,(call 1 66),r,r,r,r,r,r,r] ⟨[(6,.own 0)],[Ai 3 v,.box 30 (.agg [vi 0,vi 0,vi 0,.nils]),.box 99 (.agg [.agg [vi m,vi b,vi f,vi h,vi o],.agg [vi p,vi n,vi g,vi (Ae (Ae g (Be (4:Int) (Ac v))) (4:Int)),vi af],.own 3]),Ai 3 k],[[(0,vb a),(1,vs u),(4,.ptr 1 []),(6,.ptr 2 []),(42,vb a)]]⟩
def x17(v:LI)(a u:LB)(m b f h o p n g:Int)(k:LI)(ag af:Int):Option R_:=H.e P_ [r,r,r,r,r,l,(call 1 66),r,r,r,r,r,r,l,r,d] (t17 v a u m b f h o p n g k ag af)
def x16(al:Int)(a u:LB)(m b f h o p n g ah ai:Int)(v k:LI):Option R_:=H.e P_ [r,r,r,r,r,l,(call 1 66),r,r,r] ⟨[(0,.ptr 0 []),(6,.own 1),(7,vi al)],[.box 99 (.agg [.agg [vi m,vi b,vi f,vi h,vi o],.agg [vi p,vi n,vi g,vi ah,vi ai],.own 3]),Ai 3 v,.box 30 (.agg [vi 0,vi 0,vi 0,.nils]),Ai 3 k],[[(0,vb a),(1,vs u),(4,.ptr 2 []),(6,.ptr 0 []),(42,vb a)]]⟩
def x15(a u:LB)(m b f h o p n g ah ai:Int)(k:LI):Option R_:=H.e P_ [r,r,r,r,r] ⟨[(0,vb a),(1,vs u),(4,.ptr 0 []),(6,.ptr 1 [])],[.box 30 (.agg [vi 0,vi 0,vi 0,.nils]),.box 99 (.agg [.agg [vi m,vi b,vi f,vi h,vi o],.agg [vi p,vi n,vi g,vi ah,vi ai],.own 2]),Ai 3 k],[]⟩
def x14(a u:LB)(m b f h o p n g ah ai:Int)(k:LI)(ao:Int):Option R_:=H.e P_ [r,r,r,r,l,r] ⟨[(0,vb a),(1,vs u),(4,.ptr 0 []),(6,.ptr 1 []),(8,vi ao)],[.box 30 (.agg [vi 0,vi 0,vi 0,.nils]),.box 99 (.agg [.agg [vi m,vi b,vi f,vi h,vi o],.agg [vi p,vi n,vi g,vi ah,vi ai],.own 2]),Ai 3 k],[]⟩
theorem e26:x26=NV:=by kernel_rfl
theorem e24(Agl:K_)(a:LB)(w:LI)(m b f h o p n g y ab:Int)(ac:LX)(k:LI):x24 Agl a w m b f h o p n g y ab ac k=NU (λaa ae ad=>Agl (t21 a w m b f h o p n g y ab ac k aa ae ad)) a w m b f h o p n g y ab ac k:=by kernel_rfl
theorem i21(a:LB)(w:LI)(m b f h o p n g y ab:Int)(ac:LX)(k:LI):∀(q:Nat) (aa ae:Int) (ad:LX),z21 q (t21 a w m b f h o p n g y ab ac k aa ae ad)=Ql a w m b f h o p n g y ab ac k q aa ae ad:=
 ind (λ_ _ _=>by kernel_rfl) λq ih aa ae ad=>Eq.trans (b:=EM (x24 (z21 q) a w m b f h o p n g y ab ac k) x26 a w m b f h o p n g y ab ac k aa ae ad) (by kernel_rfl) (by simp only[e24,e26,ih]<;>rfl)
theorem e21:x21=ZA:=by funext a w m b f h o p n g y ab ac k aa ae ad;exact Eq.trans (by kernel_rfl) ((i21 a w m b f h o p n g y ab ac k Bt aa ae ad).trans (by rw[Ak];rfl))
theorem e20:x20=Lt:=Eq.trans (b:=EB x21) (by kernel_rfl) (by simp only[e21]<;>rfl)
theorem e19:x19=DL:=Eq.trans (b:=ND x20) (by kernel_rfl) (by simp only[e20]<;>rfl)
theorem i17(v:LI)(a u:LB)(m b f h o p n g:Int)(k:LI):∀(q:Nat) (ag af:Int),z17 q (t17 v a u m b f h o p n g k ag af)=Qf v a u m b f h o p n g k q ag af:=
 ind (λ_ _=>by kernel_rfl) λq ih ag af=>Eq.trans (b:=DP x19 (λag af=>(z17 q) (t17 v a u m b f h o p n g k ag af)) v a u m b f h o p n g k ag af) (by kernel_rfl) (by simp only[e19,ih]<;>rfl)
theorem e17:x17=MV:=by funext v a u m b f h o p n g k ag af;exact Eq.trans (by kernel_rfl) ((i17 v a u m b f h o p n g k Bt ag af).trans (by rw[Ak];rfl))
theorem e16:x16=CN:=Eq.trans (b:=CY x20 x17) (by kernel_rfl) (by simp only[e20,e17]<;>rfl)
theorem e15:x15=Xg:=Eq.trans (b:=OL x20 x16) (by kernel_rfl) (by simp only[e20,e16]<;>rfl)
theorem e14:x14=Qm:=Eq.trans (b:=EI x15) (by kernel_rfl) (by simp only[e15]<;>rfl)
def F:=u2 Gt
theorem rn x:H.u P_ x=F x:=Eq.trans (b:=u2 (HS x14) x) (by kernel_rfl) (by simp only[e14]<;>rfl)
def c:Con:=⟨H.p,H.r,F⟩
theorem ok:ConOk P_ gl 24 c:=cr H func24 (.cons F51.ok (.cons F53.ok (.cons F55.ok (.cons F64.ok (.cons F67.ok (.cons F68.ok .nil)))))) (Ri.cons ent65 (Ri.cons ent66 Ri.nil)) rn
end F24
namespace F346
abbrev R_:=(Int×Int)
def H:Hd:=⟨[Sb],[Si,Si],(.seq .d (.seq .d (.seq .d (.cut [4] [] (.seq .d (.blk (.loop [0,4,5] [] .d))) .d)))),⟨[],gl,false⟩,[],f346⟩
def t4(b:LB)(a f:Int):S:=⟨[(0,vb b),(4,vi a),(5,vi f)],[],[]⟩
def z4:Nat->S->Option R_:=H.i P_ [r,r,r,l,r,d]
def x6(a:Int):Option R_:=H.e P_ [r,r,r,r] ⟨[(4,vi a)],[],[]⟩
def x4(b:LB)(a f:Int):Option R_:=H.e P_ [r,r,r,l,r,d] (t4 b a f)
theorem e6:x6=GH:=by kernel_rfl
theorem i4(b:LB):∀(q:Nat) (a f:Int),z4 q (t4 b a f)=Gc b q a f:=
 ind (λ_ _=>by kernel_rfl) λq ih a f=>Eq.trans (b:=Mp x6 (λa f=>(z4 q) (t4 b a f)) b a f) (by kernel_rfl) (by simp only[e6,ih]<;>rfl)
theorem e4:x4=Um:=by funext b a f;exact Eq.trans (by kernel_rfl) ((i4 b Bt a f).trans (by rw[Ak];rfl))
def F:=Tc
theorem rn x:H.u P_ x=F x:=Eq.trans (b:=Uz x4 x) (by kernel_rfl) (by simp only[e4]<;>rfl)
def c:Con:=⟨H.p,H.r,F⟩
theorem ok:ConOk P_ gl 346 c:=co H func346 .nil rn
end F346
namespace F293
abbrev R_:=(Int×Int)
def H:Hd:=⟨[Sb],[Si,Si],(.seq .d (.cut [0] [] .d (.seq .d (.seq .d (.cut [0,4] [] .d (.seq .d (.cut [0,6] [] .d .d))))))),⟨[(346,F346.c)],gl,false⟩,[],f293⟩
def x6(a:LB)(g:Int):Option R_:=H.e P_ [r,r,r,r,r,r,r] ⟨[(0,vb a),(6,vi g)],[],[]⟩
def x5(a:LB)(b:Int):Option R_:=H.e P_ [r,r,r,r,r] ⟨[(0,vb a),(4,vi b)],[],[]⟩
def x4(a:LB):Option R_:=H.e P_ [r,r] ⟨[(0,vb a)],[],[]⟩
theorem e6:x6=Nk:=by kernel_rfl
theorem e5:x5=Nr:=Eq.trans (b:=Wh x6) (by kernel_rfl) (by simp only[e6]<;>rfl)
theorem e4:x4=Xy:=Eq.trans (b:=Ww x5) (by kernel_rfl) (by simp only[e5]<;>rfl)
def F:=Vm
theorem rn x:H.u P_ x=F x:=Eq.trans (b:=Wl x4 x) (by kernel_rfl) (by simp only[e4]<;>rfl)
def c:Con:=⟨H.p,H.r,F⟩
theorem ok:ConOk P_ gl 293 c:=co H func293 (.cons F346.ok .nil) rn
end F293
namespace F211
abbrev R_:=UInt64
def H:Hd:=⟨[Sb],[Sq],(.seq .d (.seq .d (.cut [3] [] (.seq .d (.blk (.loop [0,3,4] [] .d))) .d))),⟨[],gl,false⟩,[],f211⟩
def t4(b:LB)(a:UInt64)(f:Int):S:=⟨[(0,vb b),(3,vq a),(4,vi f)],[],[]⟩
def z4:Nat->S->Option R_:=H.i P_ [r,r,l,r,d]
def x6(a:UInt64):Option R_:=H.e P_ [r,r,r] ⟨[(3,vq a)],[],[]⟩
def x4(b:LB)(a:UInt64)(f:Int):Option R_:=H.e P_ [r,r,l,r,d] (t4 b a f)
theorem e6:x6=AS:=by kernel_rfl
theorem i4(b:LB):∀(q:Nat) (a:UInt64) (f:Int),z4 q (t4 b a f)=Jc b q a f:=
 ind (λ_ _=>by kernel_rfl) λq ih a f=>Eq.trans (b:=Tk x6 (λa f=>(z4 q) (t4 b a f)) b a f) (by kernel_rfl) (by simp only[e6,ih]<;>rfl)
theorem e4:x4=AP:=by funext b a f;exact Eq.trans (by kernel_rfl) ((i4 b Bt a f).trans (by rw[Ak];rfl))
def F:=Al
theorem rn x:H.u P_ x=F x:=Eq.trans (b:=AO x4 x) (by kernel_rfl) (by simp only[e4]<;>rfl)
def c:Con:=⟨H.p,H.r,F⟩
theorem ok:ConOk P_ gl 211 c:=co H func211 .nil rn
end F211
namespace F229
def H:Hd:=⟨[Sb],[Si,Si,Sz],.d,⟨[(211,F211.c)],gl,false⟩,[],f229⟩
def F:=Jo
theorem rn x:H.u P_ x=F x:=by kernel_rfl
def c:Con:=⟨H.p,H.r,F⟩
theorem ok:ConOk P_ gl 229 c:=co H func229 (.cons F211.ok .nil) rn
end F229
namespace F215
abbrev R_:=LB
def H:Hd:=⟨[Sq,Si],[Ob 5],(.seq .d (.seq .d (.cut [5] [] (.seq .d (.blk (.loop [0,1,5,6] [⟨5,[],.own 5 (.int .u8)⟩] .d))) .d))),⟨[],gl,false⟩,[],f215⟩
def t4(b:Int)(f:UInt64)(g:Int)(a:LB):S:=⟨[(0,vq f),(1,vi b),(5,.own 0),(6,vi g)],[Ab 5 a],[]⟩
def z4:Nat->S->Option R_:=H.i P_ [r,r,l,r,d]
def x6(a:LB):Option R_:=H.e P_ [r,r,r] ⟨[(5,.own 0)],[Ab 5 a],[]⟩
def x4(b:Int)(f:UInt64)(g:Int)(a:LB):Option R_:=H.e P_ [r,r,l,r,d] (t4 b f g a)
theorem e6:x6=Qc:=by kernel_rfl
theorem i4(b:Int):∀(q:Nat) (f:UInt64) (g:Int) (a:LB),z4 q (t4 b f g a)=Ek b q f g a:=
 ind (λ_ _ _=>by kernel_rfl) λq ih f g a=>Eq.trans (b:=Kc x6 (λf g a=>(z4 q) (t4 b f g a)) b f g a) (by kernel_rfl) (by simp only[e6,ih]<;>rfl)
theorem e4:x4=Qo:=by funext b f g a;exact Eq.trans (by kernel_rfl) ((i4 b Bt f g a).trans (by rw[Ak];rfl))
def F:=u2 Au
theorem rn x:H.u P_ x=F x:=Eq.trans (b:=u2 (Qy x4) x) (by kernel_rfl) (by simp only[e4]<;>rfl)
def c:Con:=⟨H.p,H.r,F⟩
theorem ok:ConOk P_ gl 215 c:=co H func215 .nil rn
end F215
namespace F308
def H:Hd:=⟨[Si,Si,Sq],[Ob 5],.d,⟨[(215,F215.c)],gl,false⟩,[],f308⟩
def F:=u3 Lj
theorem rn x:H.u P_ x=F x:=by kernel_rfl
def c:Con:=⟨H.p,H.r,F⟩
theorem ok:ConOk P_ gl 308 c:=co H func308 (.cons F215.ok .nil) rn
end F308
namespace F231
def H:Hd:=⟨[Si,Si],[Ob 5],.d,⟨[(308,F308.c)],gl,false⟩,[],f231⟩
def F:=u2 Nw
theorem rn x:H.u P_ x=F x:=by kernel_rfl
def c:Con:=⟨H.p,H.r,F⟩
theorem ok:ConOk P_ gl 231 c:=co H func231 (.cons F308.ok .nil) rn
end F231
namespace F230
def H:Hd:=⟨[Si,Si,Sz],[Ob 5],.d,⟨[(308,F308.c)],gl,false⟩,[],f230⟩
def F:=u3 Dk
theorem rn x:H.u P_ x=F x:=by kernel_rfl
def c:Con:=⟨H.p,H.r,F⟩
theorem ok:ConOk P_ gl 230 c:=co H func230 (.cons F308.ok .nil) rn
end F230
namespace F294
abbrev R_:=(Int×Int)
def H:Hd:=⟨[Sb],[Si,Si],(.seq .d (.cut [0] [] .d (.seq .d (.seq .d (.cut [0,4,5] [] .d .d))))),⟨[(229,F229.c),(230,F230.c),(231,F231.c)],gl,false⟩,[],f294⟩
def x4(a:LB)(b f:Int):Option R_:=H.e P_ [r,r,r,r,r] ⟨[(0,vb a),(4,vi b),(5,vi f)],[],[]⟩
def x3(a:LB):Option R_:=H.e P_ [r,r] ⟨[(0,vb a)],[],[]⟩
theorem e4:x4=Vi:=by kernel_rfl
theorem e3:x3=Uw:=Eq.trans (b:=Un x4) (by kernel_rfl) (by simp only[e4]<;>rfl)
def F:=Sf
theorem rn x:H.u P_ x=F x:=Eq.trans (b:=Ug x3 x) (by kernel_rfl) (by simp only[e3]<;>rfl)
def c:Con:=⟨H.p,H.r,F⟩
theorem ok:ConOk P_ gl 294 c:=co H func294 (.cons F229.ok (.cons F230.ok (.cons F231.ok .nil))) rn
end F294
namespace F210
abbrev R_:=(LI×Int)
abbrev K_:=S->Option R_
def H:Hd:=⟨[Sb],[Ol 3,Si],(.seq .d (.seq .d (.seq .d (.blk (.loop [0,4,5] [⟨4,[],.own 3 (.int .i64)⟩] (.blk (.seq .d (.cut [0,4,5,6,7] [] .d .d)))))))),⟨[(293,F293.c),(294,F294.c)],gl,false⟩,[],f210⟩
def t6(a:LB)(b:Int)(f:LI):S:=⟨[(0,vb a),(4,.own 0),(5,vi b)],[Ai 3 f],[]⟩
def z6:Nat->S->Option R_:=H.i P_ [r,r,r,d]
def x9(Y1:K_)(a:LB)(b:Int)(f:LI)(g h:Int):Option R_:=H.e P_ [r,r,r,d,(lp Y1),d,r,r] ⟨[(0,vb a),(4,.own 0),(5,vi b),(6,vi g),(7,vi h)],[Ai 3 f],[]⟩
def x6(a:LB)(b:Int)(f:LI):Option R_:=H.e P_ [r,r,r,d] (t6 a b f)
theorem e9(Y1:K_)(a:LB):x9 Y1 a=Iu (λb f=>Y1 (t6 a b f)) a:=by kernel_rfl
theorem i6(a:LB):∀(q:Nat) (b:Int) (f:LI),z6 q (t6 a b f)=Ip a q b f:=
 ind (λ_ _=>by kernel_rfl) λq ih b f=>Eq.trans (b:=Ms (x9 (z6 q) a) a b f) (by kernel_rfl) (by simp only[e9,ih]<;>rfl)
theorem e6:x6=GJ:=by funext a b f;exact Eq.trans (by kernel_rfl) ((i6 a Bt b f).trans (by rw[Ak];rfl))
def F:=AL
theorem rn x:H.u P_ x=F x:=Eq.trans (b:=FQ x6 x) (by kernel_rfl) (by simp only[e6]<;>rfl)
def c:Con:=⟨H.p,H.r,F⟩
theorem ok:ConOk P_ gl 210 c:=co H func210 (.cons F293.ok (.cons F294.ok .nil)) rn
end F210
namespace F129
abbrev R_:=(Int×Int)
def H:Hd:=⟨[Sb],[Si,Si],(.seq .d (.seq .d (.seq .d (.cut [5,6] [] (.seq .d (.blk (.loop [4,5,6,7] [] .d))) .d)))),⟨[(210,F210.c)],gl,false⟩,[],f129⟩
def t4(a:Int)(f:LI)(b g:Int):S:=⟨[(4,.own 0),(5,vi a),(6,vi b),(7,vi g)],[Ai 3 f],[]⟩
def z4:Nat->S->Option R_:=H.i P_ [r,r,r,l,r,d]
def x6(a b:Int):Option R_:=H.e P_ [r,r,r,r] ⟨[(5,vi a),(6,vi b)],[],[]⟩
def x4(a:Int)(f:LI)(b g:Int):Option R_:=H.e P_ [r,r,r,l,r,d] (t4 a f b g)
theorem e6:x6=Vh:=by kernel_rfl
theorem i4(a:Int)(f:LI):∀(q:Nat) (b g:Int),z4 q (t4 a f b g)=Fy a f q b g:=
 ind (λ_ _=>by kernel_rfl) λq ih b g=>Eq.trans (b:=Mf x6 (λb g=>(z4 q) (t4 a f b g)) a f b g) (by kernel_rfl) (by simp only[e6,ih]<;>rfl)
theorem e4:x4=Mm:=by funext a f b g;exact Eq.trans (by kernel_rfl) ((i4 a f Bt b g).trans (by rw[Ak];rfl))
def F:=Jd
theorem rn x:H.u P_ x=F x:=Eq.trans (b:=Uv x4 x) (by kernel_rfl) (by simp only[e4]<;>rfl)
def c:Con:=⟨H.p,H.r,F⟩
theorem ok:ConOk P_ gl 129 c:=co H func129 (.cons F210.ok .nil) rn
end F129
namespace F369
abbrev R_:=UInt32
def H:Hd:=⟨[Su,Si],[Su],(.seq .d (.seq .d (.cut [0,5] [] .d .d))),⟨[],gl,false⟩,[],f369⟩
def x2(a:UInt32)(b:Bool):Option R_:=H.e P_ [r,r,r] ⟨[(0,vu a),(5,vt b)],[],[]⟩
theorem e2:x2=Wj:=by kernel_rfl
def F:=u2 Vu
theorem rn x:H.u P_ x=F x:=Eq.trans (b:=u2 (Vy x2) x) (by kernel_rfl) (by simp only[e2]<;>rfl)
def c:Con:=⟨H.p,H.r,F⟩
theorem ok:ConOk P_ gl 369 c:=co H func369 .nil rn
end F369
namespace F347
abbrev R_:=UInt32
def H:Hd:=⟨[Su,Sc],[Su],(.seq .d (.cut [0] [] (.seq .d (.blk (.loop [0,1,5] [] .d))) .d)),⟨[(369,F369.c)],gl,false⟩,[],f347⟩
def t4(a:UInt32)(b:UInt8)(f:Int):S:=⟨[(0,vu a),(1,vc b),(5,vi f)],[],[]⟩
def z4:Nat->S->Option R_:=H.i P_ [r,l,r,d]
def x6(a:UInt32):Option R_:=H.e P_ [r,r] ⟨[(0,vu a)],[],[]⟩
def x4(a:UInt32)(b:UInt8)(f:Int):Option R_:=H.e P_ [r,l,r,d] (t4 a b f)
theorem e6:x6=Xz:=by kernel_rfl
theorem i4:∀(q:Nat) (a:UInt32) (b:UInt8) (f:Int),z4 q (t4 a b f)=Gz q a b f:=
 ind (λ_ _ _=>by kernel_rfl) λq ih a b f=>Eq.trans (b:=Oh x6 (λa b f=>(z4 q) (t4 a b f)) a b f) (by kernel_rfl) (by simp only[e6,ih]<;>rfl)
theorem e4:x4=IK:=by funext a b f;exact Eq.trans (by kernel_rfl) ((i4 Bt a b f).trans (by rw[Ak];rfl))
def F:=u2 EP
theorem rn x:H.u P_ x=F x:=Eq.trans (b:=u2 (JT x4) x) (by kernel_rfl) (by simp only[e4]<;>rfl)
def c:Con:=⟨H.p,H.r,F⟩
theorem ok:ConOk P_ gl 347 c:=co H func347 (.cons F369.ok .nil) rn
end F347
namespace F295
abbrev R_:=UInt32
def H:Hd:=⟨[Su,Sb],[Su],(.seq .d (.cut [0] [] (.seq .d (.blk (.loop [0,1,5] [] .d))) .d)),⟨[(347,F347.c)],gl,false⟩,[],f295⟩
def t4(b:LB)(a:UInt32)(f:Int):S:=⟨[(0,vu a),(1,vb b),(5,vi f)],[],[]⟩
def z4:Nat->S->Option R_:=H.i P_ [r,l,r,d]
def x6(a:UInt32):Option R_:=H.e P_ [r,r] ⟨[(0,vu a)],[],[]⟩
def x4(b:LB)(a:UInt32)(f:Int):Option R_:=H.e P_ [r,l,r,d] (t4 b a f)
theorem e6:x6=Tm:=by kernel_rfl
theorem i4(b:LB):∀(q:Nat) (a:UInt32) (f:Int),z4 q (t4 b a f)=Ff b q a f:=
 ind (λ_ _=>by kernel_rfl) λq ih a f=>Eq.trans (b:=Kz x6 (λa f=>(z4 q) (t4 b a f)) b a f) (by kernel_rfl) (by simp only[e6,ih]<;>rfl)
theorem e4:x4=Sm:=by funext b a f;exact Eq.trans (by kernel_rfl) ((i4 b Bt a f).trans (by rw[Ak];rfl))
def F:=u2 Yu
theorem rn x:H.u P_ x=F x:=Eq.trans (b:=u2 (Ry x4) x) (by kernel_rfl) (by simp only[e4]<;>rfl)
def c:Con:=⟨H.p,H.r,F⟩
theorem ok:ConOk P_ gl 295 c:=co H func295 (.cons F347.ok .nil) rn
end F295
namespace F212
def H:Hd:=⟨[Sb],[Su],.d,⟨[(295,F295.c)],gl,false⟩,[],f212⟩
def F:=Ni
theorem rn x:H.u P_ x=F x:=by kernel_rfl
def c:Con:=⟨H.p,H.r,F⟩
theorem ok:ConOk P_ gl 212 c:=co H func212 (.cons F295.ok .nil) rn
end F212
namespace F213
def H:Hd:=⟨[.agg [Si,Si,Si,Si,Si]],[Sz],.d,⟨[],gl,false⟩,[],f213⟩
def F:=u5 Pq
theorem rn x:H.u P_ x=F x:=by kernel_rfl
def c:Con:=⟨H.p,H.r,F⟩
theorem ok:ConOk P_ gl 213 c:=co H func213 .nil rn
end F213
namespace F133
def H:Hd:=⟨[Si],[Si],.d,⟨[],gl,false⟩,[],f133⟩
def F:=Nz
theorem rn x:H.u P_ x=F x:=by kernel_rfl
def c:Con:=⟨H.p,H.r,F⟩
theorem ok:ConOk P_ gl 133 c:=co H func133 .nil rn
end F133
namespace F72
abbrev R_:=LI
def H:Hd:=⟨[Si,Si],[Ol 3],(.seq .d (.seq .d (.cut [5] [] (.seq .d (.blk (.loop [0,5,6] [⟨5,[],.own 3 (.int .i64)⟩] .d))) .d))),⟨[(133,F133.c)],gl,false⟩,[],f72⟩
def t4(b f:Int)(a:LI):S:=⟨[(0,vi b),(5,.own 0),(6,vi f)],[Ai 3 a],[]⟩
def z4:Nat->S->Option R_:=H.i P_ [r,r,l,r,d]
def x6(a:LI):Option R_:=H.e P_ [r,r,r] ⟨[(5,.own 0)],[Ai 3 a],[]⟩
def x4(b f:Int)(a:LI):Option R_:=H.e P_ [r,r,l,r,d] (t4 b f a)
theorem e6:x6=Iw:=by kernel_rfl
theorem i4(b:Int):∀(q:Nat) (f:Int) (a:LI),z4 q (t4 b f a)=Da b q f a:=
 ind (λ_ _=>by kernel_rfl) λq ih f a=>Eq.trans (b:=Gb x6 (λf a=>(z4 q) (t4 b f a)) b f a) (by kernel_rfl) (by simp only[e6,ih]<;>rfl)
theorem e4:x4=Uf:=by funext b f a;exact Eq.trans (by kernel_rfl) ((i4 b Bt f a).trans (by rw[Ak];rfl))
def F:=u2 Cm
theorem rn x:H.u P_ x=F x:=Eq.trans (b:=u2 (Uu x4) x) (by kernel_rfl) (by simp only[e4]<;>rfl)
def c:Con:=⟨H.p,H.r,F⟩
theorem ok:ConOk P_ gl 72 c:=co H func72 (.cons F133.ok .nil) rn
end F72
namespace F214
def Ue(h a k f b:Int):Option Bool:=
(λm:Option Bool=>
(λn:Option Bool=>
bo (
n)) (
(Rj (Ch a 0)).bind λ_=>
bo (
m))) (
if(Fv b (Cg 4000 a))then
some true
else
(Cm f b).bind λg=>
some (Fv (Ac g) 1000))
theorem RX: @Ue= @Kg:=by
  unfold Ue Kg;simp only[aR,MS,OY]
def H:Hd:=⟨[.agg [Si,Si,Si,Si,Si]],[Sz],(.seq .d (.seq (.mode false) .d)),⟨[(72,F72.c)],gl,false⟩,[],f214⟩
def F:=u5 Kg
theorem rn x:H.u P_ x=F x:=Eq.trans (b:=u5 Ue x) (by kernel_rfl) (by rw[RX];rfl)
def c:Con:=⟨H.p,H.r,F⟩
theorem ok:ConOk P_ gl 214 c:=co H func214 (.cons F72.ok .nil) rn
end F214
namespace F130
def Ve(j6:UInt64->UInt64->UInt64->UInt64->UInt64->Option (Int×Int×Int×Int×Int×Int))(a:LB):Option (Int×Int×Int×Int×Int×Int):=
(Bv a 4 6).bind λu=>
(Bv a 6 8).bind λp=>
(Bv a 8 10).bind λo=>
(Bv a 10 14).bind λn=>
(Bv a 14 18).bind λm=>
both (
(Al u).bind λk=>
both (
(Al p).bind λh=>
both (
(Al o).bind λg=>
both (
(Al n).bind λf=>
both (
(Al m).bind λb=>
bo (
j6 k h g f b)) [
(Al m).bind λb=>
j6 k h g f b]) [
(Al n).bind λf=>
(Al m).bind λb=>
j6 k h g f b]) [
(Al o).bind λg=>
(Al n).bind λf=>
(Al m).bind λb=>
j6 k h g f b]) [
(Al p).bind λh=>
(Al o).bind λg=>
(Al n).bind λf=>
(Al m).bind λb=>
j6 k h g f b]) [
(Al u).bind λk=>
(Al p).bind λh=>
(Al o).bind λg=>
(Al n).bind λf=>
(Al m).bind λb=>
j6 k h g f b]
theorem RC: @Ve= @Oa:=by
  unfold Ve Oa
  repeat (refine funext λ_=>?_)
  repeat' first
    |with_reducible rfl
    |with_reducible refine Ma ?_ ?_
    |with_reducible refine Lo ?_ ?_ ?_
    |with_reducible refine Mc ?_ ?_ ?_ ?_
    |((with_reducible refine Tg ?_ ?_);focus (intro h;first|(subst h;rfl)|(simp only[h];rfl)|(simp[Cu,Ac,h];done)))
    |with_reducible refine Rr λx=>?_
    |with_reducible refine AN (λ_=>?_) (λ_=>?_)
    |(refine Gl (λh=>by simp only[h,So,Du,Dq,ite_self]) (λx h=>?_);(try simp only[h,Du]))
    |(refine Jb (λh=>?_) (λh=>?_)<;>simp only[h,if_true,if_false,Bool.false_eq_true])
abbrev R_:=(Int×Int×Int×Int×Int×Int)
def H:Hd:=⟨[Sb],[.agg [Si,Si,Si,Si,Si],Si],(.seq .d (.seq .d (.cut [0,2] [] .d (.seq .d (.cut [0,2] [] .d (.cut [2,5] [] .d .d)))))),⟨[(211,F211.c),(212,F212.c),(213,F213.c),(214,F214.c)],gl,false⟩,[],f130⟩
def x6(k h g f b:UInt64):Option R_:=H.e P_ [r,r,r,r,r,r] ⟨[(2,.ptr 0 []),(5,.ptr 1 [])],[.box 33 (.agg [vi 0,vi 0,vi 0,vi 0,vi 0]),.box 33 (.agg [vi (Ad k:Int),vi (Ad h:Int),vi (Ad g:Int),vi (Ad f:Int),vi (Ad b:Int)])],[]⟩
def x5(a:LB):Option R_:=H.e P_ [r,r,r,r,r] ⟨[(0,vb a),(2,.ptr 0 [])],[.box 33 (.agg [vi 0,vi 0,vi 0,vi 0,vi 0])],[]⟩
def x4(a:LB):Option R_:=H.e P_ [r,r,r] ⟨[(0,vb a),(2,.ptr 0 [])],[.box 33 (.agg [vi 0,vi 0,vi 0,vi 0,vi 0])],[]⟩
theorem e6:x6=Xj:=by kernel_rfl
theorem e5:x5=Xo:=Eq.trans (b:=Ve x6) (by kernel_rfl) (by rw[RC];simp only[e6]<;>rfl)
theorem e4:x4=Xl:=Eq.trans (b:=Wv x5) (by kernel_rfl) (by simp only[e5]<;>rfl)
def F:=Ke
theorem rn x:H.u P_ x=F x:=Eq.trans (b:=Wo x4 x) (by kernel_rfl) (by simp only[e4]<;>rfl)
def c:Con:=⟨H.p,H.r,F⟩
theorem ok:ConOk P_ gl 130 c:=co H func130 (.cons F211.ok (.cons F212.ok (.cons F213.ok (.cons F214.ok .nil)))) rn
end F130
namespace F69
def H:Hd:=⟨[Sb],[Si,.agg [Si,Si,Si,Si,Si],Si],(.seq .d (.seq .d (.seq .d (.seq .d (.seq .d (.seq (.mode false) .d)))))),⟨[(129,F129.c),(130,F130.c)],gl,false⟩,[],f69⟩
def F:=AR
theorem rn x:H.u P_ x=F x:=by kernel_rfl
def c:Con:=⟨H.p,H.r,F⟩
theorem ok:ConOk P_ gl 69 c:=co H func69 (.cons F129.ok (.cons F130.ok .nil)) rn
end F69
namespace F370
abbrev R_:=UInt64
def H:Hd:=⟨[Sq,Si],[Sq],(.seq .d (.seq .d (.cut [0,5] [] .d .d))),⟨[],gl,false⟩,[],f370⟩
def x2(a:UInt64)(b:Bool):Option R_:=H.e P_ [r,r,r] ⟨[(0,vq a),(5,vt b)],[],[]⟩
theorem e2:x2=Nl:=by kernel_rfl
def F:=u2 Vv
theorem rn x:H.u P_ x=F x:=Eq.trans (b:=u2 (Xb x2) x) (by kernel_rfl) (by simp only[e2]<;>rfl)
def c:Con:=⟨H.p,H.r,F⟩
theorem ok:ConOk P_ gl 370 c:=co H func370 .nil rn
end F370
namespace F348
abbrev R_:=UInt64
def H:Hd:=⟨[Sq,Sc],[Sq],(.seq .d (.cut [0] [] (.seq .d (.blk (.loop [0,1,5] [] .d))) .d)),⟨[(370,F370.c)],gl,false⟩,[],f348⟩
def t4(b:UInt8)(a:UInt64)(f:Int):S:=⟨[(0,vq a),(1,vc b),(5,vi f)],[],[]⟩
def z4:Nat->S->Option R_:=H.i P_ [r,l,r,d]
def x6(a:UInt64):Option R_:=H.e P_ [r,r] ⟨[(0,vq a)],[],[]⟩
def x4(b:UInt8)(a:UInt64)(f:Int):Option R_:=H.e P_ [r,l,r,d] (t4 b a f)
theorem e6:x6=Wa:=by kernel_rfl
theorem i4(b:UInt8):∀(q:Nat) (a:UInt64) (f:Int),z4 q (t4 b a f)=Ha b q a f:=
 ind (λ_ _=>by kernel_rfl) λq ih a f=>Eq.trans (b:=Om x6 (λa f=>(z4 q) (t4 b a f)) b a f) (by kernel_rfl) (by simp only[e6,ih]<;>rfl)
theorem e4:x4=IJ:=by funext b a f;exact Eq.trans (by kernel_rfl) ((i4 b Bt a f).trans (by rw[Ak];rfl))
def F:=u2 CR
theorem rn x:H.u P_ x=F x:=Eq.trans (b:=u2 (IL x4) x) (by kernel_rfl) (by simp only[e4]<;>rfl)
def c:Con:=⟨H.p,H.r,F⟩
theorem ok:ConOk P_ gl 348 c:=co H func348 (.cons F370.ok .nil) rn
end F348
namespace F296
abbrev R_:=UInt64
def H:Hd:=⟨[Sq,Sb],[Sq],(.seq .d (.cut [0] [] (.seq .d (.blk (.loop [0,1,5] [] .d))) .d)),⟨[(348,F348.c)],gl,false⟩,[],f296⟩
def t4(b:LB)(a:UInt64)(f:Int):S:=⟨[(0,vq a),(1,vb b),(5,vi f)],[],[]⟩
def z4:Nat->S->Option R_:=H.i P_ [r,l,r,d]
def x6(a:UInt64):Option R_:=H.e P_ [r,r] ⟨[(0,vq a)],[],[]⟩
def x4(b:LB)(a:UInt64)(f:Int):Option R_:=H.e P_ [r,l,r,d] (t4 b a f)
theorem e6:x6=Sk:=by kernel_rfl
theorem i4(b:LB):∀(q:Nat) (a:UInt64) (f:Int),z4 q (t4 b a f)=Fe b q a f:=
 ind (λ_ _=>by kernel_rfl) λq ih a f=>Eq.trans (b:=Le x6 (λa f=>(z4 q) (t4 b a f)) b a f) (by kernel_rfl) (by simp only[e6,ih]<;>rfl)
theorem e4:x4=EH:=by funext b a f;exact Eq.trans (by kernel_rfl) ((i4 b Bt a f).trans (by rw[Ak];rfl))
def F:=u2 Ph
theorem rn x:H.u P_ x=F x:=Eq.trans (b:=u2 (CU x4) x) (by kernel_rfl) (by simp only[e4]<;>rfl)
def c:Con:=⟨H.p,H.r,F⟩
theorem ok:ConOk P_ gl 296 c:=co H func296 (.cons F348.ok .nil) rn
end F296
namespace F216
def H:Hd:=⟨[Ss],[Sq],.d,⟨[(296,F296.c)],gl,false⟩,[],f216⟩
def F:=EF
theorem rn x:H.u P_ x=F x:=by kernel_rfl
def c:Con:=⟨H.p,H.r,F⟩
theorem ok:ConOk P_ gl 216 c:=co H func216 (.cons F296.ok .nil) rn
end F216
namespace F131
def H:Hd:=⟨[Ss],[Ob 5],.d,⟨[(215,F215.c),(216,F216.c)],gl,false⟩,[],f131⟩
def F:=Hf
theorem rn x:H.u P_ x=F x:=by kernel_rfl
def c:Con:=⟨H.p,H.r,F⟩
theorem ok:ConOk P_ gl 131 c:=co H func131 (.cons F215.ok (.cons F216.ok .nil)) rn
end F131
namespace F70
def H:Hd:=⟨[Sb,Si,.agg [Si,Si,Si,Si,Si],Ss],[Si,Si],.d,⟨[(131,F131.c)],gl,false⟩,[],f70⟩
def F:=u8 Zd
theorem rn x:H.u P_ x=F x:=by kernel_rfl
def c:Con:=⟨H.p,H.r,F⟩
theorem ok:ConOk P_ gl 70 c:=co H func70 (.cons F131.ok .nil) rn
end F70
namespace F217
abbrev R_:=Int
abbrev K_:=S->Option R_
def H:Hd:=⟨[Sl],[Si],(.seq .d (.seq .d (.seq .d (.cut [3] [] (.seq .d (.blk (.loop [0,3,4] [] (.seq .d (.seq (.blk (.cut [0,3,4] [] .d .d)) .d))))) .d)))),⟨[],gl,false⟩,[],f217⟩
def t6(a:LI)(b f:Int):S:=⟨[(0,vl a),(3,vi b),(4,vi f)],[],[]⟩
def z6:Nat->S->Option R_:=H.i P_ [r,r,r,l,r,d]
def x10(b:Int):Option R_:=H.e P_ [r,r,r,r] ⟨[(3,vi b)],[],[]⟩
def x8(Y1:K_)(a:LI)(b f:Int):Option R_:=H.e P_ [r,r,r,l,r,d,(lp Y1),r,l,d,r] ⟨[(0,vl a),(3,vi b),(4,vi f)],[],[]⟩
def x6(a:LI)(b f:Int):Option R_:=H.e P_ [r,r,r,l,r,d] (t6 a b f)
theorem e10:x10=Sy:=by kernel_rfl
theorem e8(Y1:K_)(a:LI):x8 Y1 a=Ux (λb f=>Y1 (t6 a b f)) a:=by kernel_rfl
theorem i6(a:LI):∀(q:Nat) (b f:Int),z6 q (t6 a b f)=Gd a q b f:=
 ind (λ_ _=>by kernel_rfl) λq ih b f=>Eq.trans (b:=Mq (x8 (z6 q) a) x10 a b f) (by kernel_rfl) (by simp only[e8,e10,ih]<;>rfl)
theorem e6:x6=Vb:=by funext a b f;exact Eq.trans (by kernel_rfl) ((i6 a Bt b f).trans (by rw[Ak];rfl))
def F:=Gm
theorem rn x:H.u P_ x=F x:=Eq.trans (b:=Mg x6 x) (by kernel_rfl) (by simp only[e6]<;>rfl)
def c:Con:=⟨H.p,H.r,F⟩
theorem ok:ConOk P_ gl 217 c:=co H func217 .nil rn
end F217
namespace F132
abbrev R_:=(LI×Int)
def H:Hd:=⟨[Sb,Si],[Ol 3,Si],(.seq .d (.seq .d (.seq .d (.cut [0,1] [] .d (.seq .d (.cut [6] [] (.seq .d (.blk (.loop [0,1,6,7] [⟨6,[],.own 3 (.int .i64)⟩] .d))) .d)))))),⟨[(211,F211.c),(212,F212.c),(217,F217.c)],gl,false⟩,[],f132⟩
def t6(b:LB)(a g:Int)(f:LI):S:=⟨[(0,vb b),(1,vi a),(6,.own 0),(7,vi g)],[Ai 3 f],[]⟩
def z6:Nat->S->Option R_:=H.i P_ [r,r,r,r,r,l,r,d]
def x8(f:LI):Option R_:=H.e P_ [r,r,r,r,r,r] ⟨[(6,.own 0)],[Ai 3 f],[]⟩
def x6(b:LB)(a g:Int)(f:LI):Option R_:=H.e P_ [r,r,r,r,r,l,r,d] (t6 b a g f)
def x5(b:LB)(a:Int):Option R_:=H.e P_ [r,r,r,r] ⟨[(0,vb b),(1,vi a)],[],[]⟩
theorem e8:x8=Nx:=by kernel_rfl
theorem i6(b:LB)(a:Int):∀(q:Nat) (g:Int) (f:LI),z6 q (t6 b a g f)=Gy b a q g f:=
 ind (λ_ _=>by kernel_rfl) λq ih g f=>Eq.trans (b:=Nv x8 (λg f=>(z6 q) (t6 b a g f)) b a g f) (by kernel_rfl) (by simp only[e8,ih]<;>rfl)
theorem e6:x6=Xq:=by funext b a g f;exact Eq.trans (by kernel_rfl) ((i6 b a Bt g f).trans (by rw[Ak];rfl))
theorem e5:x5=Wr:=Eq.trans (b:=Wd x6) (by kernel_rfl) (by simp only[e6]<;>rfl)
def F:=u2 Kf
theorem rn x:H.u P_ x=F x:=Eq.trans (b:=u2 (Wf x5) x) (by kernel_rfl) (by simp only[e5]<;>rfl)
def c:Con:=⟨H.p,H.r,F⟩
theorem ok:ConOk P_ gl 132 c:=co H func132 (.cons F211.ok (.cons F212.ok (.cons F217.ok .nil))) rn
end F132
namespace F71
def H:Hd:=⟨[Sb,Si,.agg [Si,Si,Si,Si,Si]],[Ol 3,Si],.d,⟨[(72,F72.c),(132,F132.c)],gl,false⟩,[],f71⟩
def F:=u7 Se
theorem rn x:H.u P_ x=F x:=by kernel_rfl
def c:Con:=⟨H.p,H.r,F⟩
theorem ok:ConOk P_ gl 71 c:=co H func71 (.cons F72.ok (.cons F132.ok .nil)) rn
end F71
namespace F218
def H:Hd:=⟨[Sq,Sb],[Sq,Si],.d,⟨[(296,F296.c)],gl,false⟩,[],f218⟩
def F:=u2 DZ
theorem rn x:H.u P_ x=F x:=by kernel_rfl
def c:Con:=⟨H.p,H.r,F⟩
theorem ok:ConOk P_ gl 218 c:=co H func218 (.cons F296.ok .nil) rn
end F218
namespace F134
def H:Hd:=⟨[Sb],[Sq,Si],.d,⟨[(218,F218.c)],gl,false⟩,[],f134⟩
def F:=HJ
theorem rn x:H.u P_ x=F x:=by kernel_rfl
def c:Con:=⟨H.p,H.r,F⟩
theorem ok:ConOk P_ gl 134 c:=co H func134 (.cons F218.ok .nil) rn
end F134
namespace F135
abbrev R_:=LX
abbrev K_:=S->Option R_
def H:Hd:=⟨[Sq],[.lf (.vec 16 (.int .i32)) none],(.seq .d (.seq .d (.cut [2,3] [] (.seq .d (.blk (.loop [0,2,3,4] [] (.seq .d (.seq (.blk (.seq .d (.cut [0,2,3,4,5] [] .d .d))) .d))))) .d))),⟨[],gl,false⟩,[],f135⟩
def t6(b:UInt64)(f:Int)(a:LX):S:=⟨[(0,vq b),(2,.ptr 0 []),(3,.ptr 1 []),(4,vi f)],[.box 105 (.val (.vec 16 (.int .i32)) (List.replicate 16 (0:Int32))),.box 105 (.val (.vec 16 (.int .i32)) a)],[]⟩
def z6:Nat->S->Option R_:=H.i P_ [r,r,l,r,d]
def x10(a:LX):Option R_:=H.e P_ [r,r,r] ⟨[(2,.ptr 0 []),(3,.ptr 1 [])],[.box 105 (.val (.vec 16 (.int .i32)) (List.replicate 16 (0:Int32))),.box 105 (.val (.vec 16 (.int .i32)) a)],[]⟩
def x8(Y1:K_)(b:UInt64)(f:Int)(a:LX)(g:Int32):Option R_:=H.e P_ [r,r,l,r,d,(lp Y1),r,l,d,r,r] ⟨[(0,vq b),(2,.ptr 0 []),(3,.ptr 1 []),(4,vi f),(5,vx g)],[.box 105 (.val (.vec 16 (.int .i32)) (List.replicate 16 (0:Int32))),.box 105 (.val (.vec 16 (.int .i32)) a)],[]⟩
def x6(b:UInt64)(f:Int)(a:LX):Option R_:=H.e P_ [r,r,l,r,d] (t6 b f a)
theorem e10:x10=KU:=by kernel_rfl
theorem e8(Y1:K_):x8 Y1=Sn (λb f a=>Y1 (t6 b f a)):=by kernel_rfl
theorem i6:∀(q:Nat) (b:UInt64) (f:Int) (a:LX),z6 q (t6 b f a)=Gw q b f a:=
 ind (λ_ _ _=>by kernel_rfl) λq ih b f a=>Eq.trans (b:=Rv (x8 (z6 q)) x10 b f a) (by kernel_rfl) (by simp only[e8,e10,ih]<;>rfl)
theorem e6:x6=NA:=by funext b f a;exact Eq.trans (by kernel_rfl) ((i6 Bt b f a).trans (by rw[Ak];rfl))
def F:=KH
theorem rn x:H.u P_ x=F x:=Eq.trans (b:=PK x6 x) (by kernel_rfl) (by simp only[e6]<;>rfl)
def c:Con:=⟨H.p,H.r,F⟩
theorem ok:ConOk P_ gl 135 c:=co H func135 .nil rn
end F135
namespace F73
def H:Hd:=⟨[Ss],[.lf (.vec 16 (.int .i32)) none,Si],.d,⟨[(134,F134.c),(135,F135.c)],gl,false⟩,[],f73⟩
def F:=Hn
theorem rn x:H.u P_ x=F x:=by kernel_rfl
def c:Con:=⟨H.p,H.r,F⟩
theorem ok:ConOk P_ gl 73 c:=co H func73 (.cons F134.ok (.cons F135.ok .nil)) rn
end F73
namespace F159
def H:Hd:=⟨[Si],[Si],.d,⟨[],gl,false⟩,[],f159⟩
def F:=Hv
theorem rn x:H.u P_ x=F x:=by kernel_rfl
def c:Con:=⟨H.p,H.r,F⟩
theorem ok:ConOk P_ gl 159 c:=co H func159 .nil rn
end F159
namespace F165
def H:Hd:=⟨[.agg [Si,Si]],[Si],.d,⟨[(159,F159.c)],gl,false⟩,[],f165⟩
def F:=u2 Cj
theorem rn x:H.u P_ x=F x:=by kernel_rfl
def c:Con:=⟨H.p,H.r,F⟩
theorem ok:ConOk P_ gl 165 c:=co H func165 (.cons F159.ok .nil) rn
end F165
namespace F136
def H:Hd:=⟨[.agg [Si,Si],Si],[Si],.d,⟨[(165,F165.c)],gl,false⟩,[],f136⟩
def F:=u3 Dr
theorem rn x:H.u P_ x=F x:=by kernel_rfl
def c:Con:=⟨H.p,H.r,F⟩
theorem ok:ConOk P_ gl 136 c:=co H func136 (.cons F165.ok .nil) rn
end F136
namespace F219
def H:Hd:=⟨[Sb],[Ob 5],.d,⟨[(212,F212.c)],gl,false⟩,[],f219⟩
def F:=Pm
theorem rn x:H.u P_ x=F x:=by kernel_rfl
def c:Con:=⟨H.p,H.r,F⟩
theorem ok:ConOk P_ gl 219 c:=co H func219 (.cons F212.ok .nil) rn
end F219
namespace F137
def H:Hd:=⟨[Sb],[Si],.d,⟨[(219,F219.c)],gl,false⟩,[],f137⟩
def F:=Kt
theorem rn x:H.u P_ x=F x:=by kernel_rfl
def c:Con:=⟨H.p,H.r,F⟩
theorem ok:ConOk P_ gl 137 c:=co H func137 (.cons F219.ok .nil) rn
end F137
namespace F220
def H:Hd:=⟨[],[.agg [Si,Si,Sq,Sq]],.d,⟨[],gl,false⟩,[],f220⟩
noncomputable def F(x:Unit):=Ix
theorem rn x:H.u P_ x=F x:=by kernel_rfl
def c:Con:=⟨H.p,H.r,F⟩
theorem ok:ConOk P_ gl 220 c:=co H func220 .nil rn
end F220
namespace F301
abbrev R_:=UInt64
def H:Hd:=⟨[Si],[Sq],(.seq .d (.seq .d (.cut [3] [] (.seq .d (.blk (.loop [0,3,4] [] .d))) .d))),⟨[],gl,false⟩,[],f301⟩
def t4(b:Int)(a:UInt64)(f:Int):S:=⟨[(0,vi b),(3,vq a),(4,vi f)],[],[]⟩
def z4:Nat->S->Option R_:=H.i P_ [r,r,l,r,d]
def x6(a:UInt64):Option R_:=H.e P_ [r,r,r] ⟨[(3,vq a)],[],[]⟩
def x4(b:Int)(a:UInt64)(f:Int):Option R_:=H.e P_ [r,r,l,r,d] (t4 b a f)
theorem e6:x6=FO:=by kernel_rfl
theorem i4(b:Int):∀(q:Nat) (a:UInt64) (f:Int),z4 q (t4 b a f)=Fw b q a f:=
 ind (λ_ _=>by kernel_rfl) λq ih a f=>Eq.trans (b:=Mr x6 (λa f=>(z4 q) (t4 b a f)) b a f) (by kernel_rfl) (by simp only[e6,ih]<;>rfl)
theorem e4:x4=FX:=by funext b a f;exact Eq.trans (by kernel_rfl) ((i4 b Bt a f).trans (by rw[Ak];rfl))
def F:=Dp
theorem rn x:H.u P_ x=F x:=Eq.trans (b:=FM x4 x) (by kernel_rfl) (by simp only[e4]<;>rfl)
def c:Con:=⟨H.p,H.r,F⟩
theorem ok:ConOk P_ gl 301 c:=co H func301 .nil rn
end F301
namespace F349
def H:Hd:=⟨[.agg [Si,Si,Sq,Sq],Su],[Sz],.d,⟨[(301,F301.c)],gl,false⟩,[],f349⟩
def F:=u5 Qs
theorem rn x:H.u P_ x=F x:=by kernel_rfl
def c:Con:=⟨H.p,H.r,F⟩
theorem ok:ConOk P_ gl 349 c:=co H func349 (.cons F301.ok .nil) rn
end F349
namespace F351
def H:Hd:=⟨[.agg [Si,Si,Sq,Sq],Su],[Su],.d,⟨[(301,F301.c)],gl,false⟩,[],f351⟩
def F:=u5 Jw
theorem rn x:H.u P_ x=F x:=by kernel_rfl
def c:Con:=⟨H.p,H.r,F⟩
theorem ok:ConOk P_ gl 351 c:=co H func351 (.cons F301.ok .nil) rn
end F351
namespace F350
abbrev R_:=(Int×UInt64)
def H:Hd:=⟨[Si,Sq,Sq],[Si,Sq],(.seq .d (.seq .d (.cut [0,1] [] .d .d))),⟨[(301,F301.c)],gl,false⟩,[],f350⟩
def x2(b:Int)(a f:UInt64):Option R_:=H.e P_ [r,r,r] ⟨[(0,vi b),(1,vq (Am (Ae a f) (Cg a (16:UInt64))))],[],[]⟩
theorem e2:x2=Np:=by kernel_rfl
def F:=u3 Ho
theorem rn x:H.u P_ x=F x:=Eq.trans (b:=u3 (Wz x2) x) (by kernel_rfl) (by simp only[e2]<;>rfl)
def c:Con:=⟨H.p,H.r,F⟩
theorem ok:ConOk P_ gl 350 c:=co H func350 (.cons F301.ok .nil) rn
end F350
namespace F297
def Qa(j2:UInt32->Int->Int->UInt64->UInt64->Int->UInt64->Option (Int×Int×UInt64×UInt64))(f a:Int)(g b:UInt64)(h:UInt32):Option (Int×Int×UInt64×UInt64):=
(Qs f a g b h).bind λu=>
if(!u)then
(λw:Option (Int×Int×UInt64×UInt64)=>
(λv:Option (Int×Int×UInt64×UInt64)=>
(λy:Option (Int×Int×UInt64×UInt64)=>
both (
y) [
y,
both (
v) [
v,
(Jw f a g b h).bind λk=>
(λac:Option (Int×Int×UInt64×UInt64)=>
bo (
ac)) (
(Ho a b (Ad k:UInt64)).bind λ(m,n)=>
j2 h f a g b m n)]]) (
both (
w) [
v])) (
bo (
w))) (
(Jw f a g b h).bind λk=>
(Ho a b (Ad k:UInt64)).bind λ(m,n)=>
j2 h f a g b m n)
else
j2 h f a g b a b
theorem PD: @Qa= @Lb:=by
  unfold Qa Lb
  try simp only[aR,MS,OY]
  all_goals
    repeat (refine funext λ_=>?_)
    repeat' first
      |with_reducible rfl
      |with_reducible refine Ma ?_ ?_
      |with_reducible refine Lo ?_ ?_ ?_
      |with_reducible refine Mc ?_ ?_ ?_ ?_
      |((with_reducible refine Tg ?_ ?_);focus (intro h;first|(subst h;rfl)|(simp only[h];rfl)|(simp[Cu,Ac,h];done)))
      |with_reducible refine Rr λx=>?_
      |with_reducible refine AN (λ_=>?_) (λ_=>?_)
      |(refine Gl (λh=>by simp only[h,So,Du,Dq,ite_self]) (λx h=>?_);(try simp only[h,Du]))
      |(refine Jb (λh=>?_) (λh=>?_)<;>simp only[h,if_true,if_false,Bool.false_eq_true])
abbrev R_:=(Int×Int×UInt64×UInt64)
def H:Hd:=⟨[.agg [Si,Si,Sq,Sq],Su],[.agg [Si,Si,Sq,Sq]],(.seq .d (.seq .d (.cut [1,2,4,5] [] (.seq .d (.cond (.mode false) .d)) .d))),⟨[(349,F349.c),(350,F350.c),(351,F351.c)],gl,false⟩,[],f297⟩
def x2(h:UInt32)(f a:Int)(g b:UInt64)(o:Int)(p:UInt64):Option R_:=H.e P_ [r,r,r] ⟨[(1,vu h),(2,.ptr 0 []),(4,.ptr 1 []),(5,.ptr 2 [])],[.box 254 (.agg [vi f,vi a,vq g,vq b]),.box 254 (.agg [vi 0,vi 0,vq 0,vq 0]),.box 254 (.agg [vi f,vi o,vq g,vq p])],[]⟩
theorem e2:x2=Lc:=by kernel_rfl
def F:=u5 Pf
theorem rn x:H.u P_ x=F x:=Eq.trans (b:=u5 (Qa x2) x) (by kernel_rfl) (by unfold F;rw[PD];simp only[e2]<;>rfl)
def c:Con:=⟨H.p,H.r,F⟩
theorem ok:ConOk P_ gl 297 c:=co H func297 (.cons F349.ok (.cons F350.ok (.cons F351.ok .nil))) rn
end F297
namespace F221
abbrev R_:=(Int×Int×UInt64×UInt64)
def H:Hd:=⟨[Si,Sv],[.agg [Si,Si,Sq,Sq]],(.seq .d (.seq .d (.cut [4,5] [] (.seq .d (.blk (.loop [0,1,4,5,6] [] .d))) .d))),⟨[(220,F220.c),(297,F297.c)],gl,false⟩,[],f221⟩
def t4(h:Int)(k:LU)(m a b:Int)(f g:UInt64):S:=⟨[(0,vi h),(1,vv k),(4,.ptr 0 []),(5,.ptr 1 []),(6,vi m)],[.box 254 (.agg [vi 0,vi 0,vq 0,vq 0]),.box 254 (.agg [vi a,vi b,vq f,vq g])],[]⟩
def z4:Nat->S->Option R_:=H.i P_ [r,r,l,r,d]
def x6(a b:Int)(f g:UInt64):Option R_:=H.e P_ [r,r,r] ⟨[(4,.ptr 0 []),(5,.ptr 1 [])],[.box 254 (.agg [vi 0,vi 0,vq 0,vq 0]),.box 254 (.agg [vi a,vi b,vq f,vq g])],[]⟩
def x4(h:Int)(k:LU)(m a b:Int)(f g:UInt64):Option R_:=H.e P_ [r,r,l,r,d] (t4 h k m a b f g)
theorem e6:x6=CT:=by kernel_rfl
theorem i4(h:Int)(k:LU):∀(q:Nat) (m a b:Int) (f g:UInt64),z4 q (t4 h k m a b f g)=Hs h k q m a b f g:=
 ind (λ_ _ _ _ _=>by kernel_rfl) λq ih m a b f g=>Eq.trans (b:=Ta x6 (λm a b f g=>(z4 q) (t4 h k m a b f g)) h k m a b f g) (by kernel_rfl) (by simp only[e6,ih]<;>rfl)
theorem e4:x4=FD:=by funext h k m a b f g;exact Eq.trans (by kernel_rfl) ((i4 h k Bt m a b f g).trans (by rw[Ak];rfl))
def F:=u2 Ks
theorem rn x:H.u P_ x=F x:=Eq.trans (b:=u2 (Rw x4) x) (by kernel_rfl) (by simp only[e4]<;>rfl)
def c:Con:=⟨H.p,H.r,F⟩
theorem ok:ConOk P_ gl 221 c:=co H func221 (.cons F220.ok (.cons F297.ok .nil)) rn
end F221
namespace F224
abbrev R_:=Int
def H:Hd:=⟨[.agg [Sb,Si],Si],[Si],(.seq .d (.seq .d (.cut [5] [] (.seq .d (.blk (.loop [1,5,6] [] .d))) .d))),⟨[],gl,false⟩,[],f224⟩
def t4(b a f:Int):S:=⟨[(1,vi b),(5,vi a),(6,vi f)],[],[]⟩
def z4:Nat->S->Option R_:=H.i P_ [r,r,l,r,d]
def x6(a:Int):Option R_:=H.e P_ [r,r,r] ⟨[(5,vi a)],[],[]⟩
def x4(b a f:Int):Option R_:=H.e P_ [r,r,l,r,d] (t4 b a f)
theorem e6:x6=BB:=by kernel_rfl
theorem i4(b:Int):∀(q:Nat) (a f:Int),z4 q (t4 b a f)=Je b q a f:=
 ind (λ_ _=>by kernel_rfl) λq ih a f=>Eq.trans (b:=Sr x6 (λa f=>(z4 q) (t4 b a f)) b a f) (by kernel_rfl) (by simp only[e6,ih]<;>rfl)
theorem e4:x4=AT:=by funext b a f;exact Eq.trans (by kernel_rfl) ((i4 b Bt a f).trans (by rw[Ak];rfl))
def F:=u3 Ig
theorem rn x:H.u P_ x=F x:=Eq.trans (b:=u3 (AV x4) x) (by kernel_rfl) (by simp only[e4]<;>rfl)
def c:Con:=⟨H.p,H.r,F⟩
theorem ok:ConOk P_ gl 224 c:=co H func224 .nil rn
end F224
namespace F298
abbrev R_:=(LB×Int)
def H:Hd:=⟨[.agg [Ob 5,Si],Si],[.agg [Ob 5,Si]],(.seq .d (.cut [1,2,4] [] .d (.seq .d (.cut [1,2,4,5] [] (.seq .d (.blk (.loop [1,2,4,5,6] [] .d))) .d)))),⟨[],gl,false⟩,[],f298⟩
def t6(b a:Int)(f:LB)(g h:Int):S:=⟨[(1,vi b),(2,.ptr 0 []),(4,.ptr 1 []),(5,vi g),(6,vi h)],[.box 183 (.agg [.own 2,vi a]),.box 183 (.agg [.nils,vi 0]),Ab 5 f],[]⟩
def z6:Nat->S->Option R_:=H.i P_ [r,r,r,l,r,d]
def x8(b g a:Int)(f:LB):Option R_:=H.e P_ [r,r,r,r] ⟨[(1,vi b),(2,.ptr 0 []),(4,.ptr 1 []),(5,vi g)],[.box 183 (.agg [.own 2,vi a]),.box 183 (.agg [.nils,vi 0]),Ab 5 f],[]⟩
def x6(b a:Int)(f:LB)(g h:Int):Option R_:=H.e P_ [r,r,r,l,r,d] (t6 b a f g h)
def x5(b a:Int)(f:LB):Option R_:=H.e P_ [r,r] ⟨[(1,vi b),(2,.ptr 0 []),(4,.ptr 1 [])],[.box 183 (.agg [.own 2,vi a]),.box 183 (.agg [.nils,vi 0]),Ab 5 f],[]⟩
theorem e8:x8=Pg:=by kernel_rfl
theorem i6(b a:Int)(f:LB):∀(q:Nat) (g h:Int),z6 q (t6 b a f g h)=If b a f q g h:=
 ind (λ_ _=>by kernel_rfl) λq ih g h=>Eq.trans (b:=Pz x8 (λg h=>(z6 q) (t6 b a f g h)) b a f g h) (by kernel_rfl) (by simp only[e8,ih]<;>rfl)
theorem e6:x6=Yy:=by funext b a f g h;exact Eq.trans (by kernel_rfl) ((i6 b a f Bt g h).trans (by rw[Ak];rfl))
theorem e5:x5=Pj:=Eq.trans (b:=Zk x6) (by kernel_rfl) (by simp only[e6]<;>rfl)
def F:=u3 Qn
theorem rn x:H.u P_ x=F x:=Eq.trans (b:=u3 (Yz x5) x) (by kernel_rfl) (by simp only[e5]<;>rfl)
def c:Con:=⟨H.p,H.r,F⟩
theorem ok:ConOk P_ gl 298 c:=co H func298 .nil rn
end F298
namespace F222
abbrev R_:=(LB×Int)
def H:Hd:=⟨[.agg [Sb,Si],Si,Si],[.agg [Ob 5,Si]],(.seq .d (.seq .d (.cut [6,7] [] (.seq .d (.blk (.loop [2,3,6,7,8] [⟨7,[0],.own 5 (.int .u8)⟩] .d))) .d))),⟨[(224,F224.c),(298,F298.c)],gl,false⟩,[],f222⟩
def t4(f:Int)(g:LB)(h k a:Int)(b:LB):S:=⟨[(2,vi f),(3,.ptr 0 []),(6,.ptr 1 []),(7,.ptr 2 []),(8,vi k)],[.box 183 (.agg [vb g,vi h]),.box 183 (.agg [.nils,vi 0]),.box 183 (.agg [.own 3,vi a]),Ab 5 b],[]⟩
def z4:Nat->S->Option R_:=H.i P_ [r,r,l,r,d]
def x6(a:Int)(b:LB):Option R_:=H.e P_ [r,r,r] ⟨[(6,.ptr 0 []),(7,.ptr 1 [])],[.box 183 (.agg [.nils,vi 0]),.box 183 (.agg [.own 2,vi a]),Ab 5 b],[]⟩
def x4(f:Int)(g:LB)(h k a:Int)(b:LB):Option R_:=H.e P_ [r,r,l,r,d] (t4 f g h k a b)
theorem e6:x6=CE:=by kernel_rfl
theorem i4(f:Int)(g:LB)(h:Int):∀(q:Nat) (k a:Int) (b:LB),z4 q (t4 f g h k a b)=Em f g h q k a b:=
 ind (λ_ _ _=>by kernel_rfl) λq ih k a b=>Eq.trans (b:=Kb x6 (λk a b=>(z4 q) (t4 f g h k a b)) f g h k a b) (by kernel_rfl) (by simp only[e6,ih]<;>rfl)
theorem e4:x4=CD:=by funext f g h k a b;exact Eq.trans (by kernel_rfl) ((i4 f g h Bt k a b).trans (by rw[Ak];rfl))
def F:=u4 Xd
theorem rn x:H.u P_ x=F x:=Eq.trans (b:=u4 (CI x4) x) (by kernel_rfl) (by simp only[e4]<;>rfl)
def c:Con:=⟨H.p,H.r,F⟩
theorem ok:ConOk P_ gl 222 c:=co H func222 (.cons F224.ok (.cons F298.ok .nil)) rn
end F222
namespace F299
abbrev R_:=UInt64
def H:Hd:=⟨[.agg [Sb,Si],Si,Si],[Sq],(.seq .d (.seq .d (.cut [7] [] (.seq .d (.blk (.loop [1,3,7,8] [] .d))) .d))),⟨[(224,F224.c)],gl,false⟩,[],f299⟩
def t4(b:Int)(f:LB)(g:Int)(a:UInt64)(h:Int):S:=⟨[(1,vi b),(3,.ptr 0 []),(7,vq a),(8,vi h)],[.box 183 (.agg [vb f,vi g])],[]⟩
def z4:Nat->S->Option R_:=H.i P_ [r,r,l,r,d]
def x6(a:UInt64):Option R_:=H.e P_ [r,r,r] ⟨[(7,vq a)],[],[]⟩
def x4(b:Int)(f:LB)(g:Int)(a:UInt64)(h:Int):Option R_:=H.e P_ [r,r,l,r,d] (t4 b f g a h)
theorem e6:x6=FV:=by kernel_rfl
theorem i4(b:Int)(f:LB)(g:Int):∀(q:Nat) (a:UInt64) (h:Int),z4 q (t4 b f g a h)=Fx b f g q a h:=
 ind (λ_ _=>by kernel_rfl) λq ih a h=>Eq.trans (b:=Mo x6 (λa h=>(z4 q) (t4 b f g a h)) b f g a h) (by kernel_rfl) (by simp only[e6,ih]<;>rfl)
theorem e4:x4=Us:=by funext b f g a h;exact Eq.trans (by kernel_rfl) ((i4 b f g Bt a h).trans (by rw[Ak];rfl))
def F:=u4 Mb
theorem rn x:H.u P_ x=F x:=Eq.trans (b:=u4 (Uy x4) x) (by kernel_rfl) (by simp only[e4]<;>rfl)
def c:Con:=⟨H.p,H.r,F⟩
theorem ok:ConOk P_ gl 299 c:=co H func299 (.cons F224.ok .nil) rn
end F299
namespace F352
abbrev R_:=(Int×Int)
def H:Hd:=⟨[.agg [Sb,Si],Si],[Si,Si],(.seq .d (.seq .d (.cut [1,2,6] [] (.blk (.loop [1,2,6] [] .d)) .d))),⟨[(224,F224.c)],gl,false⟩,[],f352⟩
def t4(b:Int)(g:LB)(f a:Int):S:=⟨[(1,vi b),(2,.ptr 0 []),(6,vi a)],[.box 183 (.agg [vb g,vi f])],[]⟩
def z4:Nat->S->Option R_:=H.i P_ [r,r,l,d]
def x6(b a:Int)(g:LB)(f:Int):Option R_:=H.e P_ [r,r,r] ⟨[(1,vi b),(2,.ptr 0 []),(6,vi a)],[.box 183 (.agg [vb g,vi f])],[]⟩
def x4(b:Int)(g:LB)(f a:Int):Option R_:=H.e P_ [r,r,l,d] (t4 b g f a)
theorem e6:x6=Py:=by kernel_rfl
theorem i4(b:Int)(g:LB)(f:Int):∀(q:Nat) (a:Int),z4 q (t4 b g f a)=Hy b g f q a:=
 ind (λ_=>by kernel_rfl) λq ih a=>Eq.trans (b:=Pu x6 (λa=>(z4 q) (t4 b g f a)) b g f a) (by kernel_rfl) (by simp only[e6,ih]<;>rfl)
theorem e4:x4=KT:=by funext b g f a;exact Eq.trans (by kernel_rfl) ((i4 b g f Bt a).trans (by rw[Ak];rfl))
def F:=u3 GU
theorem rn x:H.u P_ x=F x:=Eq.trans (b:=u3 (LG x4) x) (by kernel_rfl) (by simp only[e4]<;>rfl)
def c:Con:=⟨H.p,H.r,F⟩
theorem ok:ConOk P_ gl 352 c:=co H func352 (.cons F224.ok .nil) rn
end F352
namespace F353
def H:Hd:=⟨[Su,Si],[Si],.d,⟨[(301,F301.c)],gl,false⟩,[],f353⟩
def F:=u2 Vk
theorem rn x:H.u P_ x=F x:=by kernel_rfl
def c:Con:=⟨H.p,H.r,F⟩
theorem ok:ConOk P_ gl 353 c:=co H func353 (.cons F301.ok .nil) rn
end F353
namespace F300
abbrev R_:=(UInt32×Int×Int)
def H:Hd:=⟨[.agg [Sb,Si],Si,Si],[Su,Si,Si],(.seq .d (.seq .d (.seq .d (.seq .d (.cut [2,3,9,10,11] [] .d .d))))),⟨[(299,F299.c),(301,F301.c),(352,F352.c),(353,F353.c)],gl,false⟩,[],f300⟩
def x2(g a b:Int)(h:LB)(f k:Int):Option R_:=H.e P_ [r,r,r,r,r] ⟨[(2,vi g),(3,.ptr 0 []),(9,vi a),(10,vi b),(11,vi k)],[.box 183 (.agg [vb h,vi f])],[]⟩
theorem e2:x2=Pw:=by kernel_rfl
def F:=u4 Yh
theorem rn x:H.u P_ x=F x:=Eq.trans (b:=u4 (Yv x2) x) (by kernel_rfl) (by simp only[e2]<;>rfl)
def c:Con:=⟨H.p,H.r,F⟩
theorem ok:ConOk P_ gl 300 c:=co H func300 (.cons F299.ok (.cons F301.ok (.cons F352.ok (.cons F353.ok .nil)))) rn
end F300
namespace F223
def H:Hd:=⟨[.agg [Sb,Si],Si,.agg [Si,Si,Sq,Sq]],[Su,Si,Si],.d,⟨[(224,F224.c),(299,F299.c),(300,F300.c),(301,F301.c)],gl,false⟩,[],f223⟩
def F:=u7 Yf
theorem rn x:H.u P_ x=F x:=by kernel_rfl
def c:Con:=⟨H.p,H.r,F⟩
theorem ok:ConOk P_ gl 223 c:=co H func223 (.cons F224.ok (.cons F299.ok (.cons F300.ok (.cons F301.ok .nil)))) rn
end F223
namespace F138
abbrev R_:=(LU×Int)
abbrev K_:=S->Option R_
def H:Hd:=⟨[Si,Si,Sb],[Ov 43,Si],(.seq .d (.seq .d (.seq .d (.seq .d (.cut [8,9,10] [] (.seq .d (.blk (.loop [0,1,8,9,10,11] [⟨9,[],.own 43 (.int .u32)⟩] (.seq .d (.seq (.blk (.seq .d (.cut [0,1,8,9,10,11,12] [] .d .d))) .d))))) (.seq .d (.cut [9] [] (.blk (.loop [8,9,10] [] .d)) .d))))))),⟨[(220,F220.c),(221,F221.c),(222,F222.c),(223,F223.c),(224,F224.c)],gl,false⟩,[],f138⟩
def t16(a:LB)(b:LU)(m:Int):S:=⟨[(8,.ptr 0 []),(9,.own 1),(10,vi m)],[.box 183 (.agg [vb a,vi (Be (8:Int) (Ac a))]),Av 43 b],[]⟩
def z16:Nat->S->Option R_:=H.i P_ [r,r,r,r,r,r,l,d]
def t10(g h:Int)(a:LB)(f k:Int)(b:LU):S:=⟨[(0,vi g),(1,vi h),(8,.ptr 0 []),(9,.own 1),(10,vi f),(11,vi k)],[.box 183 (.agg [vb a,vi (Be (8:Int) (Ac a))]),Av 43 b],[]⟩
def z10:Nat->S->Option R_:=H.i P_ [r,r,r,r,l,r,d]
def x18(b:LU):Option R_:=H.e P_ [r,r,r,r,r,r,r] ⟨[(9,.own 0)],[Av 43 b],[]⟩
def x16(a:LB)(b:LU)(m:Int):Option R_:=H.e P_ [r,r,r,r,r,r,l,d] (t16 a b m)
def x15(f:Int)(a:LB)(b:LU):Option R_:=H.e P_ [r,r,r,r,r] ⟨[(8,.ptr 0 []),(9,.own 1),(10,vi f)],[.box 183 (.agg [vb a,vi (Be (8:Int) (Ac a))]),Av 43 b],[]⟩
def x13(Agm:K_)(g h:Int)(a:LB)(f k:Int)(b:LU)(o p:Int)(u v:UInt64):Option R_:=H.e P_ [r,r,r,r,l,r,d,(lp Agm),r,l,d,r,r] ⟨[(0,vi g),(1,vi h),(8,.ptr 0 []),(9,.own 1),(10,vi f),(11,vi k),(12,.ptr 2 [])],[.box 183 (.agg [vb a,vi (Be (8:Int) (Ac a))]),Av 43 b,.box 254 (.agg [vi o,vi p,vq u,vq v])],[]⟩
def x10(g h:Int)(a:LB)(f k:Int)(b:LU):Option R_:=H.e P_ [r,r,r,r,l,r,d] (t10 g h a f k b)
theorem e18:x18=FW:=by kernel_rfl
theorem i16(a:LB)(b:LU):∀(q:Nat) (m:Int),z16 q (t16 a b m)=Ga a b q m:=
 ind (λ_=>by kernel_rfl) λq ih m=>Eq.trans (b:=Mn x18 (λm=>(z16 q) (t16 a b m)) a b m) (by kernel_rfl) (by simp only[e18,ih]<;>rfl)
theorem e16:x16=Ut:=by funext a b m;exact Eq.trans (by kernel_rfl) ((i16 a b Bt m).trans (by rw[Ak];rfl))
theorem e15:x15=Mu:=Eq.trans (b:=Uj x16) (by kernel_rfl) (by simp only[e16]<;>rfl)
theorem e13(Agm:K_)(g h:Int)(a:LB):x13 Agm g h a=Fz (λf k b=>Agm (t10 g h a f k b)) g h a:=by kernel_rfl
theorem i10(g h:Int)(a:LB):∀(q:Nat) (f k:Int) (b:LU),z10 q (t10 g h a f k b)=Db g h a q f k b:=
 ind (λ_ _ _=>by kernel_rfl) λq ih f k b=>Eq.trans (b:=Vc (x13 (z10 q) g h a) x15 g h a f k b) (by kernel_rfl) (by simp only[e13,e15,ih]<;>rfl)
theorem e10:x10=FU:=by funext g h a f k b;exact Eq.trans (by kernel_rfl) ((i10 g h a Bt f k b).trans (by rw[Ak];rfl))
def F:=u3 Vl
theorem rn x:H.u P_ x=F x:=Eq.trans (b:=u3 (Xk x10) x) (by kernel_rfl) (by simp only[e10]<;>rfl)
def c:Con:=⟨H.p,H.r,F⟩
theorem ok:ConOk P_ gl 138 c:=co H func138 (.cons F220.ok (.cons F221.ok (.cons F222.ok (.cons F223.ok (.cons F224.ok .nil))))) rn
end F138
namespace F354
def H:Hd:=⟨[Si],[Si,Si],.d,⟨[],gl,false⟩,[],f354⟩
def F:=PL
theorem rn x:H.u P_ x=F x:=by kernel_rfl
def c:Con:=⟨H.p,H.r,F⟩
theorem ok:ConOk P_ gl 354 c:=co H func354 .nil rn
end F354
namespace F302
def H:Hd:=⟨[Si,.lf (.vec 16 (.int .i32)) none],[.agg [Si,.lf (.vec 16 (.int .i32)) none,.lf (.vec 16 (.int .i32)) none],Si],.d,⟨[(354,F354.c)],gl,false⟩,[],f302⟩
def F:=u2 SI
theorem rn x:H.u P_ x=F x:=by kernel_rfl
def c:Con:=⟨H.p,H.r,F⟩
theorem ok:ConOk P_ gl 302 c:=co H func302 (.cons F354.ok .nil) rn
end F302
namespace F225
def H:Hd:=⟨[Si,.lf (.vec 16 (.int .i32)) none],[.agg [Si,Sx,.agg [Si,.lf (.vec 16 (.int .i32)) none,.lf (.vec 16 (.int .i32)) none]],Si],.d,⟨[(302,F302.c)],gl,false⟩,[],f225⟩
def F:=u2 GK
theorem rn x:H.u P_ x=F x:=by kernel_rfl
def c:Con:=⟨H.p,H.r,F⟩
theorem ok:ConOk P_ gl 225 c:=co H func225 (.cons F302.ok .nil) rn
end F225
namespace F227
def H:Hd:=⟨[Su],[Sx],.d,⟨[],gl,false⟩,[],f227⟩
def F:=Ju
theorem rn x:H.u P_ x=F x:=by kernel_rfl
def c:Con:=⟨H.p,H.r,F⟩
theorem ok:ConOk P_ gl 227 c:=co H func227 .nil rn
end F227
namespace F304
def H:Hd:=⟨[Si],[Sx],.d,⟨[],gl,false⟩,[],f304⟩
def F:=Ca
theorem rn x:H.u P_ x=F x:=by kernel_rfl
def c:Con:=⟨H.p,H.r,F⟩
theorem ok:ConOk P_ gl 304 c:=co H func304 .nil rn
end F304
namespace F371
abbrev R_:=Int32
def H:Hd:=⟨[.agg [Si,.lf (.vec 16 (.int .i32)) none,.lf (.vec 16 (.int .i32)) none]],[Sx],(.seq .d (.seq .d (.cut [3] [] (.seq .d (.blk (.loop [1,3,4] [] .d))) .d))),⟨[(304,F304.c)],gl,false⟩,[],f371⟩
def t4(h:Int)(f g:LX)(a b:Int):S:=⟨[(1,.ptr 0 []),(3,vi a),(4,vi b)],[.box 279 (.agg [vi h,.val (.vec 16 (.int .i32)) f,.val (.vec 16 (.int .i32)) g])],[]⟩
def z4:Nat->S->Option R_:=H.i P_ [r,r,l,r,d]
def x6(a:Int):Option R_:=H.e P_ [r,r,r] ⟨[(3,vi a)],[],[]⟩
def x4(h:Int)(f g:LX)(a b:Int):Option R_:=H.e P_ [r,r,l,r,d] (t4 h f g a b)
theorem e6:x6=Yw:=by kernel_rfl
theorem i4(h:Int)(f g:LX):∀(q:Nat) (a b:Int),z4 q (t4 h f g a b)=Ia h f g q a b:=
 ind (λ_ _=>by kernel_rfl) λq ih a b=>Eq.trans (b:=Pe x6 (λa b=>(z4 q) (t4 h f g a b)) h f g a b) (by kernel_rfl) (by simp only[e6,ih]<;>rfl)
theorem e4:x4=KQ:=by funext h f g a b;exact Eq.trans (by kernel_rfl) ((i4 h f g Bt a b).trans (by rw[Ak];rfl))
def F:=u3 GL
theorem rn x:H.u P_ x=F x:=Eq.trans (b:=u3 (LD x4) x) (by kernel_rfl) (by simp only[e4]<;>rfl)
def c:Con:=⟨H.p,H.r,F⟩
theorem ok:ConOk P_ gl 371 c:=co H func371 (.cons F304.ok .nil) rn
end F371
namespace F355
abbrev R_:=Int32
def H:Hd:=⟨[.agg [Si,.lf (.vec 16 (.int .i32)) none,.lf (.vec 16 (.int .i32)) none]],[Sx],(.seq .d (.seq .d (.cut [1,3] [] .d .d))),⟨[(304,F304.c),(371,F371.c)],gl,false⟩,[],f355⟩
def x2(b:Int)(f g:LX)(a:Int):Option R_:=H.e P_ [r,r,r] ⟨[(1,.ptr 0 []),(3,vi a)],[.box 279 (.agg [vi b,.val (.vec 16 (.int .i32)) f,.val (.vec 16 (.int .i32)) g])],[]⟩
theorem e2:x2=Oj:=by kernel_rfl
def F:=u3 Vp
theorem rn x:H.u P_ x=F x:=Eq.trans (b:=u3 (Wk x2) x) (by kernel_rfl) (by simp only[e2]<;>rfl)
def c:Con:=⟨H.p,H.r,F⟩
theorem ok:ConOk P_ gl 355 c:=co H func355 (.cons F304.ok (.cons F371.ok .nil)) rn
end F355
namespace F372
def H:Hd:=⟨[Si],[Sx],.d,⟨[],gl,false⟩,[],f372⟩
def F:=Vw
theorem rn x:H.u P_ x=F x:=by kernel_rfl
def c:Con:=⟨H.p,H.r,F⟩
theorem ok:ConOk P_ gl 372 c:=co H func372 .nil rn
end F372
namespace F373
def H:Hd:=⟨[Sx],[Sx],.d,⟨[],gl,false⟩,[],f373⟩
def F:=Nn
theorem rn x:H.u P_ x=F x:=by kernel_rfl
def c:Con:=⟨H.p,H.r,F⟩
theorem ok:ConOk P_ gl 373 c:=co H func373 .nil rn
end F373
namespace F357
abbrev R_:=(Int×LX×LX)
def H:Hd:=⟨[.agg [Si,.lf (.vec 16 (.int .i32)) none,.lf (.vec 16 (.int .i32)) none],Sx],[.agg [Si,.lf (.vec 16 (.int .i32)) none,.lf (.vec 16 (.int .i32)) none]],(.seq .d (.cut [2,4] [] (.seq .d (.blk (.loop [1,2,4,5] [] .d))) .d)),⟨[(372,F372.c),(373,F373.c)],gl,false⟩,[],f357⟩
def t4(h:Int32)(g:Int)(a:LX)(f:Int)(b:LX):S:=⟨[(1,vx h),(2,.ptr 0 []),(4,.ptr 1 []),(5,vi f)],[.box 279 (.agg [vi g,.val (.vec 16 (.int .i32)) b,.val (.vec 16 (.int .i32)) a]),.box 279 (.agg [vi 0,.val (.vec 16 (.int .i32)) (List.replicate 16 (0:Int32)),.val (.vec 16 (.int .i32)) (List.replicate 16 (0:Int32))])],[]⟩
def z4:Nat->S->Option R_:=H.i P_ [r,l,r,d]
def x6(g:Int)(b a:LX):Option R_:=H.e P_ [r,r] ⟨[(2,.ptr 0 []),(4,.ptr 1 [])],[.box 279 (.agg [vi g,.val (.vec 16 (.int .i32)) b,.val (.vec 16 (.int .i32)) a]),.box 279 (.agg [vi 0,.val (.vec 16 (.int .i32)) (List.replicate 16 (0:Int32)),.val (.vec 16 (.int .i32)) (List.replicate 16 (0:Int32))])],[]⟩
def x4(h:Int32)(g:Int)(a:LX)(f:Int)(b:LX):Option R_:=H.e P_ [r,l,r,d] (t4 h g a f b)
theorem e6:x6=CG:=by kernel_rfl
theorem i4(h:Int32)(g:Int)(a:LX):∀(q:Nat) (f:Int) (b:LX),z4 q (t4 h g a f b)=Er h g a q f b:=
 ind (λ_ _=>by kernel_rfl) λq ih f b=>Eq.trans (b:=Jq x6 (λf b=>(z4 q) (t4 h g a f b)) h g a f b) (by kernel_rfl) (by simp only[e6,ih]<;>rfl)
theorem e4:x4=CB:=by funext h g a f b;exact Eq.trans (by kernel_rfl) ((i4 h g a Bt f b).trans (by rw[Ak];rfl))
def F:=u4 Wg
theorem rn x:H.u P_ x=F x:=Eq.trans (b:=u4 (BW x4) x) (by kernel_rfl) (by simp only[e4]<;>rfl)
def c:Con:=⟨H.p,H.r,F⟩
theorem ok:ConOk P_ gl 357 c:=co H func357 (.cons F372.ok (.cons F373.ok .nil)) rn
end F357
namespace F356
abbrev R_:=(Int×LX×LX)
def H:Hd:=⟨[.agg [Si,.lf (.vec 16 (.int .i32)) none,.lf (.vec 16 (.int .i32)) none],Sx],[.agg [Si,.lf (.vec 16 (.int .i32)) none,.lf (.vec 16 (.int .i32)) none]],(.seq .d (.cut [1,2,4] [] (.seq .d (.blk (.loop [1,2,4,5] [] .d))) .d)),⟨[],gl,false⟩,[],f356⟩
def t4(b:Int32)(f:Int)(g:LX)(h:Int)(a:LX):S:=⟨[(1,vx b),(2,.ptr 0 []),(4,.ptr 1 []),(5,vi h)],[.box 279 (.agg [vi f,.val (.vec 16 (.int .i32)) g,.val (.vec 16 (.int .i32)) a]),.box 279 (.agg [vi 0,.val (.vec 16 (.int .i32)) (List.replicate 16 (0:Int32)),.val (.vec 16 (.int .i32)) (List.replicate 16 (0:Int32))])],[]⟩
def z4:Nat->S->Option R_:=H.i P_ [r,l,r,d]
def x6(b:Int32)(f:Int)(g a:LX):Option R_:=H.e P_ [r,r] ⟨[(1,vx b),(2,.ptr 0 []),(4,.ptr 1 [])],[.box 279 (.agg [vi f,.val (.vec 16 (.int .i32)) g,.val (.vec 16 (.int .i32)) a]),.box 279 (.agg [vi 0,.val (.vec 16 (.int .i32)) (List.replicate 16 (0:Int32)),.val (.vec 16 (.int .i32)) (List.replicate 16 (0:Int32))])],[]⟩
def x4(b:Int32)(f:Int)(g:LX)(h:Int)(a:LX):Option R_:=H.e P_ [r,l,r,d] (t4 b f g h a)
theorem e6:x6=Rq:=by kernel_rfl
theorem i4(b:Int32)(f:Int)(g:LX):∀(q:Nat) (h:Int) (a:LX),z4 q (t4 b f g h a)=Fg b f g q h a:=
 ind (λ_ _=>by kernel_rfl) λq ih h a=>Eq.trans (b:=Lg x6 (λh a=>(z4 q) (t4 b f g h a)) b f g h a) (by kernel_rfl) (by simp only[e6,ih]<;>rfl)
theorem e4:x4=EK:=by funext b f g h a;exact Eq.trans (by kernel_rfl) ((i4 b f g Bt h a).trans (by rw[Ak];rfl))
def F:=u4 Yt
theorem rn x:H.u P_ x=F x:=Eq.trans (b:=u4 (DI x4) x) (by kernel_rfl) (by simp only[e4]<;>rfl)
def c:Con:=⟨H.p,H.r,F⟩
theorem ok:ConOk P_ gl 356 c:=co H func356 .nil rn
end F356
namespace F303
def H:Hd:=⟨[.agg [Si,.lf (.vec 16 (.int .i32)) none,.lf (.vec 16 (.int .i32)) none],Sx],[Sx,.agg [Si,.lf (.vec 16 (.int .i32)) none,.lf (.vec 16 (.int .i32)) none]],.d,⟨[(304,F304.c),(355,F355.c),(356,F356.c),(357,F357.c)],gl,false⟩,[],f303⟩
def F:=u4 Ns
theorem rn x:H.u P_ x=F x:=by kernel_rfl
def c:Con:=⟨H.p,H.r,F⟩
theorem ok:ConOk P_ gl 303 c:=co H func303 (.cons F304.ok (.cons F355.ok (.cons F356.ok (.cons F357.ok .nil)))) rn
end F303
namespace F358
abbrev R_:=Int32
def H:Hd:=⟨[Si,Sx],[Sx],(.seq .d (.seq .d (.cut [1,5] [] .d .d))),⟨[],gl,false⟩,[],f358⟩
def x2(b:Int32)(a:Int):Option R_:=H.e P_ [r,r,r] ⟨[(1,vx b),(5,vi a)],[],[]⟩
theorem e2:x2=Lf:=by kernel_rfl
def F:=u2 Kv
theorem rn x:H.u P_ x=F x:=Eq.trans (b:=u2 (Te x2) x) (by kernel_rfl) (by simp only[e2]<;>rfl)
def c:Con:=⟨H.p,H.r,F⟩
theorem ok:ConOk P_ gl 358 c:=co H func358 .nil rn
end F358
namespace F305
def H:Hd:=⟨[.agg [Si,Sx,.agg [Si,.lf (.vec 16 (.int .i32)) none,.lf (.vec 16 (.int .i32)) none]]],[Si],.d,⟨[(358,F358.c)],gl,false⟩,[],f305⟩
def F:=u5 Pp
theorem rn x:H.u P_ x=F x:=by kernel_rfl
def c:Con:=⟨H.p,H.r,F⟩
theorem ok:ConOk P_ gl 305 c:=co H func305 (.cons F358.ok .nil) rn
end F305
namespace F226
def H:Hd:=⟨[.agg [Si,Sx,.agg [Si,.lf (.vec 16 (.int .i32)) none,.lf (.vec 16 (.int .i32)) none]],Sx],[Sx,.agg [Si,Sx,.agg [Si,.lf (.vec 16 (.int .i32)) none,.lf (.vec 16 (.int .i32)) none]]],.d,⟨[(303,F303.c),(304,F304.c),(305,F305.c)],gl,false⟩,[],f226⟩
def F:=u6 Gx
theorem rn x:H.u P_ x=F x:=by kernel_rfl
def c:Con:=⟨H.p,H.r,F⟩
theorem ok:ConOk P_ gl 226 c:=co H func226 (.cons F303.ok (.cons F304.ok (.cons F305.ok .nil))) rn
end F226
namespace F306
def H:Hd:=⟨[Si,Sw],[Si],.d,⟨[],gl,false⟩,[],f306⟩
def F:=u2 Lu
theorem rn x:H.u P_ x=F x:=by kernel_rfl
def c:Con:=⟨H.p,H.r,F⟩
theorem ok:ConOk P_ gl 306 c:=co H func306 .nil rn
end F306
namespace F307
abbrev R_:=LX
def H:Hd:=⟨[Sw],[Ow 21],(.seq .d (.seq .d (.seq .d (.seq .d (.cut [0,3,4] [] .d (.cut [4] [] (.seq .d (.blk (.loop [0,4,5] [] .d))) .d)))))),⟨[(304,F304.c)],gl,false⟩,[],f307⟩
def t6(a:LX)(f:Int)(b:LX):S:=⟨[(0,vw a),(4,.own 0),(5,vi f)],[Aw 21 b],[]⟩
def z6:Nat->S->Option R_:=H.i P_ [r,r,r,r,r,l,r,d]
def x8(b:LX):Option R_:=H.e P_ [r,r,r,r,r,r] ⟨[(4,.own 0)],[Aw 21 b],[]⟩
def x6(a:LX)(f:Int)(b:LX):Option R_:=H.e P_ [r,r,r,r,r,l,r,d] (t6 a f b)
def x5(a g:LX):Option R_:=H.e P_ [r,r,r,r,r] ⟨[(0,vw a),(3,vi (Ac a)),(4,.own 0)],[Aw 21 g],[]⟩
theorem e8:x8=CC:=by kernel_rfl
theorem i6(a:LX):∀(q:Nat) (f:Int) (b:LX),z6 q (t6 a f b)=El a q f b:=
 ind (λ_ _=>by kernel_rfl) λq ih f b=>Eq.trans (b:=Jy x8 (λf b=>(z6 q) (t6 a f b)) a f b) (by kernel_rfl) (by simp only[e8,ih]<;>rfl)
theorem e6:x6=BH:=by funext a f b;exact Eq.trans (by kernel_rfl) ((i6 a Bt f b).trans (by rw[Ak];rfl))
theorem e5:x5=Jt:=Eq.trans (b:=Re x6) (by kernel_rfl) (by simp only[e6]<;>rfl)
def F:=Of
theorem rn x:H.u P_ x=F x:=Eq.trans (b:=Qg x5 x) (by kernel_rfl) (by simp only[e5]<;>rfl)
def c:Con:=⟨H.p,H.r,F⟩
theorem ok:ConOk P_ gl 307 c:=co H func307 (.cons F304.ok .nil) rn
end F307
namespace F228
abbrev R_:=(LX×Int)
def H:Hd:=⟨[Si,Sw],[Ow 21,Si],(.seq .d (.seq .d (.seq .d (.cut [6] [] (.seq .d (.blk (.loop [0,1,6,7] [⟨6,[],.own 21 (.int .i32)⟩] .d))) .d)))),⟨[(306,F306.c),(307,F307.c)],gl,false⟩,[],f228⟩
def t4(a:Int)(b:LX)(g:Int)(f:LX):S:=⟨[(0,vi a),(1,vw b),(6,.own 0),(7,vi g)],[Aw 21 f],[]⟩
def z4:Nat->S->Option R_:=H.i P_ [r,r,r,l,r,d]
def x6(f:LX):Option R_:=H.e P_ [r,r,r,r] ⟨[(6,.own 0)],[Aw 21 f],[]⟩
def x4(a:Int)(b:LX)(g:Int)(f:LX):Option R_:=H.e P_ [r,r,r,l,r,d] (t4 a b g f)
theorem e6:x6=JP:=by kernel_rfl
theorem i4(a:Int)(b:LX):∀(q:Nat) (g:Int) (f:LX),z4 q (t4 a b g f)=Jk a b q g f:=
 ind (λ_ _=>by kernel_rfl) λq ih g f=>Eq.trans (b:=Xu x6 (λg f=>(z4 q) (t4 a b g f)) a b g f) (by kernel_rfl) (by simp only[e6,ih]<;>rfl)
theorem e4:x4=JE:=by funext a b g f;exact Eq.trans (by kernel_rfl) ((i4 a b Bt g f).trans (by rw[Ak];rfl))
def F:=u2 Vo
theorem rn x:H.u P_ x=F x:=Eq.trans (b:=u2 (Wi x4) x) (by kernel_rfl) (by simp only[e4]<;>rfl)
def c:Con:=⟨H.p,H.r,F⟩
theorem ok:ConOk P_ gl 228 c:=co H func228 (.cons F306.ok (.cons F307.ok .nil)) rn
end F228
namespace F140
def Ot(j29:Int->Int32->LX->Int->Int32->Int->LX->LX->Int->Int32->Int->LX->LX->Option (LX))(j32:Int->LX->Option (LX))(b:LU)(a f:Int)(g:LX)(h k:Int)(m:LX)(n:Int)(o:Int32)(p:Int)(u v:LX):Option (LX):=
if(Cp k (Ac b))then
(Aj b k).bind λah=>
both (
(Ju ah).bind λag=>
(λap:Option (LX)=>
bo (
ap)) (
(Gx n o p u v ag).bind λ(ae,y,aa,ab,ac,ad)=>
j29 k ae m n o p u v y aa ab ac ad)) [
(Ju ah).bind λag=>
(Gx n o p u v ag).bind λ(ae,y,aa,ab,ac,ad)=>
j29 k ae m n o p u v y aa ab ac ad]
else
j32 h m
theorem MF: @Ot= @Jv:=by
  unfold Ot Jv
  try simp only[aR,MS,OY]
  all_goals
    repeat (refine funext λ_=>?_)
    repeat' first
      |with_reducible rfl
      |with_reducible refine Ma ?_ ?_
      |with_reducible refine Lo ?_ ?_ ?_
      |with_reducible refine Mc ?_ ?_ ?_ ?_
      |((with_reducible refine Tg ?_ ?_);focus (intro h;first|(subst h;rfl)|(simp only[h];rfl)|(simp[Cu,Ac,h];done)))
      |with_reducible refine Rr λx=>?_
      |with_reducible refine AN (λ_=>?_) (λ_=>?_)
      |(refine Gl (λh=>by simp only[h,So,Du,Dq,ite_self]) (λx h=>?_);(try simp only[h,Du]))
      |(refine Jb (λh=>?_) (λh=>?_)<;>simp only[h,if_true,if_false,Bool.false_eq_true])
abbrev R_:=LX
abbrev K_:=S->Option R_
def H:Hd:=⟨[.agg [Si,Si],.lf (.vec 16 (.int .i32)) none,Sv],[Ow 21],(.seq .d (.seq .d (.cut [3,7] [] (.seq .d (.blk (.loop [2,3,4,7,8] [] (.seq .d (.cut [2,3,4,7,8] [] (.blk (.seq .d (.seq .d (.blk (.loop [2,3,4,7,8,9,11] [] (.seq .d (.cut [2,3,4,7,8,9,11] [] (.blk (.cut [2,3,4,7,8,9,11,12,13] [] .d .d)) .d))))))) .d))))) .d))),⟨[(225,F225.c),(226,F226.c),(227,F227.c),(228,F228.c)],gl,false⟩,[],f140⟩
def t26(b:LU)(a f:Int)(g:LX)(h k:Int)(m:LX)(n:Int)(o:Int32)(p:Int)(u v:LX):S:=⟨[(2,vv b),(3,.ptr 0 []),(4,.ptr 1 []),(7,.own 2),(8,vi h),(9,.ptr 3 []),(11,vi k)],[.box 104 (.agg [vi a,vi f]),.box 105 (.val (.vec 16 (.int .i32)) g),Aw 21 m,.box 281 (.agg [vi n,vx o,.agg [vi p,.val (.vec 16 (.int .i32)) u,.val (.vec 16 (.int .i32)) v]])],[]⟩
def z26(HP:K_):Nat->S->Option R_:=H.i P_ [r,r,l,r,d,(lp HP),r,l,d,r,r,d]
def t18(b:LU)(a f:Int)(g:LX)(h:Int)(w:LX):S:=⟨[(2,vv b),(3,.ptr 0 []),(4,.ptr 1 []),(7,.own 2),(8,vi h)],[.box 104 (.agg [vi a,vi f]),.box 105 (.val (.vec 16 (.int .i32)) g),Aw 21 w],[]⟩
def z18:Nat->S->Option R_:=H.i P_ [r,r,l,r,d]
def x34(a f:Int)(w:LX):Option R_:=H.e P_ [r,r,r] ⟨[(3,.ptr 0 []),(7,.own 1)],[.box 104 (.agg [vi a,vi f]),Aw 21 w],[]⟩
def x32(HP:K_)(b:LU)(a f:Int)(g:LX)(h:Int)(m:LX):Option R_:=H.e P_ [r,r,l,r,d,(lp HP),r,r] ⟨[(2,vv b),(3,.ptr 0 []),(4,.ptr 1 []),(7,.own 2),(8,vi h)],[.box 104 (.agg [vi a,vi f]),.box 105 (.val (.vec 16 (.int .i32)) g),Aw 21 m],[]⟩
def x30(HP rT:K_)(b:LU)(h a f:Int)(g:LX)(k:Int)(af:LX)(y:Int)(aa:Int32)(ab:Int)(ac ad:LX):Option R_:=H.e P_ [r,r,l,r,d,(lp HP),r,l,d,r,r,d,(lp rT),r,r] ⟨[(2,vv b),(3,.ptr 0 []),(4,.ptr 1 []),(7,.own 2),(8,vi h),(9,.ptr 3 []),(11,vi k)],[.box 104 (.agg [vi a,vi f]),.box 105 (.val (.vec 16 (.int .i32)) g),Aw 21 af,.box 281 (.agg [vi y,vx aa,.agg [vi ab,.val (.vec 16 (.int .i32)) ac,.val (.vec 16 (.int .i32)) ad]])],[]⟩
def x29(HP rT:K_)(b:LU)(h a f:Int)(g:LX)(k:Int)(ae:Int32)(m:LX)(n:Int)(o:Int32)(p:Int)(u v:LX)(y:Int)(aa:Int32)(ab:Int)(ac ad:LX):Option R_:=H.e P_ [r,r,l,r,d,(lp HP),r,l,d,r,r,d,(lp rT),r,l,d,r] ⟨[(2,vv b),(3,.ptr 0 []),(4,.ptr 1 []),(7,.own 2),(8,vi h),(9,.ptr 3 []),(11,vi k),(12,vx ae),(13,.ptr 4 [])],[.box 104 (.agg [vi a,vi f]),.box 105 (.val (.vec 16 (.int .i32)) g),Aw 21 m,.box 281 (.agg [vi n,vx o,.agg [vi p,.val (.vec 16 (.int .i32)) u,.val (.vec 16 (.int .i32)) v]]),.box 281 (.agg [vi y,vx aa,.agg [vi ab,.val (.vec 16 (.int .i32)) ac,.val (.vec 16 (.int .i32)) ad]])],[]⟩
def x26(HP:K_)(b:LU)(a f:Int)(g:LX)(h k:Int)(m:LX)(n:Int)(o:Int32)(p:Int)(u v:LX):Option R_:=H.e P_ [r,r,l,r,d,(lp HP),r,l,d,r,r,d] (t26 b a f g h k m n o p u v)
def x18(b:LU)(a f:Int)(g:LX)(h:Int)(w:LX):Option R_:=H.e P_ [r,r,l,r,d] (t18 b a f g h w)
theorem e34:x34=Jr:=by kernel_rfl
theorem e32(HP:K_)(b:LU)(a f:Int)(g:LX):x32 HP b a f g=Qi (λh w=>HP (t18 b a f g h w)) b a f g:=by kernel_rfl
theorem e30(HP rT:K_)(b:LU)(a f:Int)(g:LX)(h:Int):x30 HP rT b h a f g=Qb (λk m n o p u v=>rT (t26 b a f g h k m n o p u v)) b h a f g:=by kernel_rfl
theorem e29(HP rT:K_)(b:LU)(a f:Int)(g:LX)(h:Int):x29 HP rT b h a f g=Ra (λk m n o p u v=>rT (t26 b a f g h k m n o p u v)) b h a f g:=Eq.trans (b:=Qv (x30 HP rT b h a f g) b h a f g) (by kernel_rfl) (by simp only[e30]<;>rfl)
theorem i26(HP:K_)(b:LU)(a f:Int)(g:LX)(h:Int):∀(q:Nat) (k:Int) (m:LX) (n:Int) (o:Int32) (p:Int) (u v:LX),z26 HP q (t26 b a f g h k m n o p u v)=Hh (λh w=>HP (t18 b a f g h w)) b a f g h q k m n o p u v:=
 ind (λ_ _ _ _ _ _ _=>by kernel_rfl) λq ih k m n o p u v=>Eq.trans (b:=Ot (x29 HP (z26 HP q) b h a f g) (x32 HP b a f g) b a f g h k m n o p u v) (by kernel_rfl) (by rw[MF];simp only[e29,e32,ih]<;>rfl)
theorem e26(HP:K_)(b:LU)(a f:Int)(g:LX):x26 HP b a f g=Qw (λh w=>HP (t18 b a f g h w)) b a f g:=by funext h k m n o p u v;exact Eq.trans (by kernel_rfl) ((i26 HP b a f g h Bt k m n o p u v).trans (by rw[Ak];rfl))
theorem i18(b:LU)(a f:Int)(g:LX):∀(q:Nat) (h:Int) (w:LX),z18 q (t18 b a f g h w)=Dh b a f g q h w:=
 ind (λ_ _=>by kernel_rfl) λq ih h w=>Eq.trans (b:=Js (x26 (z18 q) b a f g) x34 b a f g h w) (by kernel_rfl) (by simp only[e26,e34,ih]<;>rfl)
theorem e18:x18=Rg:=by funext b a f g h w;exact Eq.trans (by kernel_rfl) ((i18 b a f g Bt h w).trans (by rw[Ak];rfl))
def F:=u4 Ic
theorem rn x:H.u P_ x=F x:=Eq.trans (b:=u4 (Ru x18) x) (by kernel_rfl) (by simp only[e18]<;>rfl)
def c:Con:=⟨H.p,H.r,F⟩
theorem ok:ConOk P_ gl 140 c:=co H func140 (.cons F225.ok (.cons F226.ok (.cons F227.ok (.cons F228.ok .nil)))) rn
end F140
namespace F166
abbrev R_:=Int
def H:Hd:=⟨[Si,Sw],[Si],(.seq .d (.seq .d (.seq .d (.seq .d (.cut [] [] (.seq .d (.blk (.loop [1,5,6] [] .d))) .d))))),⟨[(159,F159.c)],gl,false⟩,[],f166⟩
def t4(a:LX)(b f:Int):S:=⟨[(1,vw a),(5,vi b),(6,vi f)],[],[]⟩
def z4:Nat->S->Option R_:=H.i P_ [r,r,r,r,l,r,d]
def x6:Option R_:=H.e P_ [r,r,r,r,r] ⟨[],[],[]⟩
def x4(a:LX)(b f:Int):Option R_:=H.e P_ [r,r,r,r,l,r,d] (t4 a b f)
theorem e6:x6=FN:=by kernel_rfl
theorem i4(a:LX)(b:Int):∀(q:Nat) (f:Int),z4 q (t4 a b f)=Ba a b q f:=
 ind (λ_=>by kernel_rfl) λq ih f=>Eq.trans (b:=By x6 (λf=>(z4 q) (t4 a b f)) a b f) (by kernel_rfl) (by simp only[e6,ih]<;>rfl)
theorem e4:x4=GG:=by funext a b f;exact Eq.trans (by kernel_rfl) ((i4 a b Bt f).trans (by rw[Ak];rfl))
def F:=u2 Ao
theorem rn x:H.u P_ x=F x:=Eq.trans (b:=u2 (Cn x4) x) (by kernel_rfl) (by simp only[e4]<;>rfl)
def c:Con:=⟨H.p,H.r,F⟩
theorem ok:ConOk P_ gl 166 c:=co H func166 (.cons F159.ok .nil) rn
end F166
namespace F139
def H:Hd:=⟨[.agg [Si,Si],Sw],[Sw,Si],.d,⟨[(166,F166.c)],gl,false⟩,[],f139⟩
def F:=u3 Kw
theorem rn x:H.u P_ x=F x:=by kernel_rfl
def c:Con:=⟨H.p,H.r,F⟩
theorem ok:ConOk P_ gl 139 c:=co H func139 (.cons F166.ok .nil) rn
end F139
namespace F74
def Qz(f a b:Int)(g:LX)(h:LU):Option (LX×Int):=
if(Ch f 0)then
some (([]:LX),f)
else
(λu:Option (LX×Int)=>
(λv:Option (LX×Int)=>
(λw:Option (LX×Int)=>
both (
v) [
w,
w]) (
both (
u) [
v])) (
bo (
u))) (
(Ic a b g h).bind λm=>
(Kw a b m).bind λ(n,o)=>
some (n,o))
theorem PT: @Qz= @Hu:=by
  unfold Qz Hu
  try simp only[aR,MS,OY]
  all_goals
    repeat (refine funext λ_=>?_)
    repeat' first
      |with_reducible rfl
      |with_reducible refine Ma ?_ ?_
      |with_reducible refine Lo ?_ ?_ ?_
      |with_reducible refine Mc ?_ ?_ ?_ ?_
      |((with_reducible refine Tg ?_ ?_);focus (intro h;first|(subst h;rfl)|(simp only[h];rfl)|(simp[Cu,Ac,h];done)))
      |with_reducible refine Rr λx=>?_
      |with_reducible refine AN (λ_=>?_) (λ_=>?_)
      |(refine Gl (λh=>by simp only[h,So,Du,Dq,ite_self]) (λx h=>?_);(try simp only[h,Du]))
      |(refine Jb (λh=>?_) (λh=>?_)<;>simp only[h,if_true,if_false,Bool.false_eq_true])
abbrev R_:=(LX×Int)
def H:Hd:=⟨[.agg [Si,Si],.lf (.vec 16 (.int .i32)) none,Si,Sb],[Sw,Si],(.seq .d (.seq .d (.seq .d (.cut [4,5,10,11] [] .d (.seq .d (.seq (.mode false) .d)))))),⟨[(136,F136.c),(137,F137.c),(138,F138.c),(139,F139.c),(140,F140.c)],gl,false⟩,[],f74⟩
def x2(f a b:Int)(g:LX)(h:LU):Option R_:=H.e P_ [r,r,r,r] ⟨[(4,.ptr 0 []),(5,.ptr 1 []),(10,.own 2),(11,vi f)],[.box 104 (.agg [vi a,vi b]),.box 105 (.val (.vec 16 (.int .i32)) g),Av 43 h],[]⟩
theorem e2:x2=Ld:=Eq.trans (b:=Qz) (by kernel_rfl) (by rw[PT];rfl)
def F:=u5 Fm
theorem rn x:H.u P_ x=F x:=Eq.trans (b:=u5 (Tn x2) x) (by kernel_rfl) (by simp only[e2]<;>rfl)
def c:Con:=⟨H.p,H.r,F⟩
theorem ok:ConOk P_ gl 74 c:=co H func74 (.cons F136.ok (.cons F137.ok (.cons F138.ok (.cons F139.ok (.cons F140.ok .nil))))) rn
end F74
namespace F141
def Vd(j5:LB->Int->Int->LB->LB->Option (Int×Int))(a:LB):Option (Int×Int):=
(Bv a (Am (Ac a) 32) (Ac a)).bind λb=>
(Jo b).bind λ(f,g,n)=>
if(!n)then
some (0,12)
else
(Dk f g true).bind λh=>
both (
if(!(b==h))then
(Dk f g false).bind λm=>
if(b !=m)then
some (0,12)
else
j5 a f g b h
else
j5 a f g b h) [
if(!(b==h))then
(Dk f g false).bind λm=>
(λv:Option (Int×Int)=>
bo (
v)) (
if(b !=m)then
some (0,12)
else
j5 a f g b h)
else
j5 a f g b h]
theorem RS: @Vd= @Og:=by
  unfold Vd Og
  try simp only[aR,MS,OY]
  all_goals
    repeat (refine funext λ_=>?_)
    repeat' first
      |with_reducible rfl
      |with_reducible refine Ma ?_ ?_
      |with_reducible refine Lo ?_ ?_ ?_
      |with_reducible refine Mc ?_ ?_ ?_ ?_
      |((with_reducible refine Tg ?_ ?_);focus (intro h;first|(subst h;rfl)|(simp only[h];rfl)|(simp[Cu,Ac,h];done)))
      |with_reducible refine Rr λx=>?_
      |with_reducible refine AN (λ_=>?_) (λ_=>?_)
      |(refine Gl (λh=>by simp only[h,So,Du,Dq,ite_self]) (λx h=>?_);(try simp only[h,Du]))
      |(refine Jb (λh=>?_) (λh=>?_)<;>simp only[h,if_true,if_false,Bool.false_eq_true])
abbrev R_:=(Int×Int)
def H:Hd:=⟨[Sb],[Si,Si],(.seq .d (.cut [0] [] .d (.seq .d (.seq .d (.seq .d (.seq .d (.cut [0,5,6,8] [] (.seq (.mode false) .d) (.seq .d (.cut [0,5,6,8,9] [] .d .d))))))))),⟨[(229,F229.c),(230,F230.c),(231,F231.c)],gl,false⟩,[],f141⟩
def x6(a:LB)(f g:Int)(b h:LB)(k:Int):Option R_:=H.e P_ [r,r,r,r,r,r,r,r,r] ⟨[(0,vb a),(5,vi f),(6,vi g),(8,vt (b==h)),(9,vi k)],[],[]⟩
def x5(a:LB)(f g:Int)(b h:LB):Option R_:=H.e P_ [r,r,r,r,r,r,r] ⟨[(0,vb a),(5,vi f),(6,vi g),(8,vt (b==h))],[],[]⟩
def x4(a:LB):Option R_:=H.e P_ [r,r] ⟨[(0,vb a)],[],[]⟩
theorem e6:x6=Oi:=by kernel_rfl
theorem e5:x5=Ny:=Eq.trans (b:=Nq x6) (by kernel_rfl) (by simp only[e6]<;>rfl)
theorem e4:x4=Xp:=Eq.trans (b:=Vd x5) (by kernel_rfl) (by rw[RS];simp only[e5]<;>rfl)
def F:=Vn
theorem rn x:H.u P_ x=F x:=Eq.trans (b:=Vz x4 x) (by kernel_rfl) (by simp only[e4]<;>rfl)
def c:Con:=⟨H.p,H.r,F⟩
theorem ok:ConOk P_ gl 141 c:=co H func141 (.cons F229.ok (.cons F230.ok (.cons F231.ok .nil))) rn
end F141
namespace F75
abbrev R_:=(Int×Int)
def H:Hd:=⟨[Sb],[Si,Si],(.seq .d (.seq .d (.seq .d (.cut [4] [] (.blk (.loop [0,4] [] .d)) .d)))),⟨[(141,F141.c)],gl,false⟩,[],f75⟩
def t4(b:LB)(a:Int):S:=⟨[(0,vb b),(4,vi a)],[],[]⟩
def z4:Nat->S->Option R_:=H.i P_ [r,r,r,l,d]
def x6(a:Int):Option R_:=H.e P_ [r,r,r,r] ⟨[(4,vi a)],[],[]⟩
def x4(b:LB)(a:Int):Option R_:=H.e P_ [r,r,r,l,d] (t4 b a)
theorem e6:x6=CM:=by kernel_rfl
theorem i4:∀(q:Nat) (b:LB) (a:Int),z4 q (t4 b a)=Hw q b a:=
 ind (λ_ _=>by kernel_rfl) λq ih b a=>Eq.trans (b:=To x6 (λb a=>(z4 q) (t4 b a)) b a) (by kernel_rfl) (by simp only[e6,ih]<;>rfl)
theorem e4:x4=EG:=by funext b a;exact Eq.trans (by kernel_rfl) ((i4 Bt b a).trans (by rw[Ak];rfl))
def F:=Pk
theorem rn x:H.u P_ x=F x:=Eq.trans (b:=Rs x4 x) (by kernel_rfl) (by simp only[e4]<;>rfl)
def c:Con:=⟨H.p,H.r,F⟩
theorem ok:ConOk P_ gl 75 c:=co H func75 (.cons F141.ok .nil) rn
end F75
namespace F25
abbrev R_:=(Int×Int×Int×LX×Int)
abbrev K_:=S->Option R_
def H:Hd:=⟨[Sb,Ss],[.agg [Si,Si,Si,Ow 21],Si],(.seq .d (.seq .d (.seq .d (.seq .d (.seq .d (.seq .d (.seq .d (.seq .d (.seq .d (.seq .d (.seq .d (.seq .d (.cut [0,4,6,13] [] (.seq .d (.blk (.loop [0,4,6,7,9,10,11,13,14] [⟨13,[3],.own 21 (.int .i32)⟩] (.seq .d (.seq (.blk (.seq .d (.cut [0,4,6,7,9,10,11,13,14,15,16] [] .d .d))) .d))))) .d))))))))))))),⟨[(69,F69.c),(70,F70.c),(71,F71.c),(72,F72.c),(73,F73.c),(74,F74.c),(75,F75.c)],gl,false⟩,[],f25⟩
def t7(a:LB)(o b f g k:Int)(h p:LI)(u:LX)(n m:Int)(v:LX):S:=⟨[(0,vb a),(4,.ptr 0 []),(6,vi n),(7,.ptr 1 []),(9,.own 2),(10,.own 3),(11,.ptr 4 []),(13,.ptr 5 []),(14,vi m)],[.box 30 (.agg [vi 0,vi 0,vi 0,.nils]),.box 33 (.agg [vi o,vi b,vi f,vi g,vi k]),Ai 3 h,Ai 3 p,.box 105 (.val (.vec 16 (.int .i32)) u),.box 30 (.agg [vi b,vi f,vi g,.own 6]),Aw 21 v],[]⟩
def z7:Nat->S->Option R_:=H.i P_ [r,r,r,r,r,r,r,r,r,r,r,r,l,r,d]
def x12(a:LB)(n b f g:Int)(v:LX):Option R_:=H.e P_ [r,r,r,r,r,r,r,r,r,r,r,r,r] ⟨[(0,vb a),(4,.ptr 0 []),(6,vi n),(13,.ptr 1 [])],[.box 30 (.agg [vi 0,vi 0,vi 0,.nils]),.box 30 (.agg [vi b,vi f,vi g,.own 2]),Aw 21 v],[]⟩
def x10(kn7:K_)(a:LB)(o b f g k:Int)(h p:LI)(u:LX)(n m:Int)(y:LX)(w:Int)(v:LX):Option R_:=H.e P_ [r,r,r,r,r,r,r,r,r,r,r,r,l,r,d,(lp kn7),r,l,d,r,r] ⟨[(0,vb a),(4,.ptr 0 []),(6,vi n),(7,.ptr 1 []),(9,.own 2),(10,.own 3),(11,.ptr 4 []),(13,.ptr 5 []),(14,vi m),(15,vw y),(16,vi w)],[.box 30 (.agg [vi 0,vi 0,vi 0,.nils]),.box 33 (.agg [vi o,vi b,vi f,vi g,vi k]),Ai 3 h,Ai 3 p,.box 105 (.val (.vec 16 (.int .i32)) u),.box 30 (.agg [vi b,vi f,vi g,.own 6]),Aw 21 v],[]⟩
def x7(a:LB)(o b f g k:Int)(h p:LI)(u:LX)(n m:Int)(v:LX):Option R_:=H.e P_ [r,r,r,r,r,r,r,r,r,r,r,r,l,r,d] (t7 a o b f g k h p u n m v)
theorem e12:x12=Vf:=by kernel_rfl
theorem e10(kn7:K_)(a:LB)(o b f g k:Int)(h p:LI)(u:LX):x10 kn7 a o b f g k h p u=Vg (λn m v=>kn7 (t7 a o b f g k h p u n m v)) a o b f g k h p u:=by kernel_rfl
theorem i7(a:LB)(o b f g k:Int)(h p:LI)(u:LX):∀(q:Nat) (n m:Int) (v:LX),z7 q (t7 a o b f g k h p u n m v)=He a o b f g k h p u q n m v:=
 ind (λ_ _ _=>by kernel_rfl) λq ih n m v=>Eq.trans (b:=Ok (x10 (z7 q) a o b f g k h p u) x12 a o b f g k h p u n m v) (by kernel_rfl) (by simp only[e10,e12,ih]<;>rfl)
theorem e7:x7=Wm:=by funext a o b f g k h p u n m v;exact Eq.trans (by kernel_rfl) ((i7 a o b f g k h p u Bt n m v).trans (by rw[Ak];rfl))
def F:=u2 Bz
theorem rn x:H.u P_ x=F x:=Eq.trans (b:=u2 (Nt x7) x) (by kernel_rfl) (by simp only[e7]<;>rfl)
def c:Con:=⟨H.p,H.r,F⟩
theorem ok:ConOk P_ gl 25 c:=co H func25 (.cons F69.ok (.cons F70.ok (.cons F71.ok (.cons F72.ok (.cons F73.ok (.cons F74.ok (.cons F75.ok .nil))))))) rn
end F25
namespace F101
def H:Hd:=⟨[.agg [Si,Si,Si,Sw]],[.agg [Si,Si]],.d,⟨[],gl,false⟩,[],f101⟩
def F:=u4 NI
theorem rn x:H.u P_ x=F x:=by kernel_rfl
def c:Con:=⟨H.p,H.r,F⟩
theorem ok:ConOk P_ gl 101 c:=co H func101 .nil rn
end F101
namespace F168
def H:Hd:=⟨[.agg [Si,Si,Si,Sw],Si],[Si],.d,⟨[(101,F101.c),(119,F119.c),(123,F123.c)],gl,false⟩,[],f168⟩
def F:=u5 GO
theorem rn x:H.u P_ x=F x:=by kernel_rfl
def c:Con:=⟨H.p,H.r,F⟩
theorem ok:ConOk P_ gl 168 c:=co H func168 (.cons F101.ok (.cons F119.ok (.cons F123.ok .nil))) rn
end F168
namespace F93
def H:Hd:=⟨[.agg [Si,Si,Si,Sw]],[Si],.d,⟨[(168,F168.c),(169,F169.c)],gl,false⟩,[],f93⟩
def F:=u4 Gp
theorem rn x:H.u P_ x=F x:=by kernel_rfl
def c:Con:=⟨H.p,H.r,F⟩
theorem ok:ConOk P_ gl 93 c:=co H func93 (.cons F168.ok (.cons F169.ok .nil)) rn
end F93
namespace F259
def H:Hd:=⟨[.agg [Si,Si,Si]],[Si],.d,⟨[],gl,false⟩,[],f259⟩
def F:=u3 FF
theorem rn x:H.u P_ x=F x:=by kernel_rfl
def c:Con:=⟨H.p,H.r,F⟩
theorem ok:ConOk P_ gl 259 c:=co H func259 .nil rn
end F259
namespace F170
def H:Hd:=⟨[.agg [Si,Si,Si]],[Sz,Si],.d,⟨[(259,F259.c)],gl,false⟩,[],f170⟩
def F:=u3 RP
theorem rn x:H.u P_ x=F x:=by kernel_rfl
def c:Con:=⟨H.p,H.r,F⟩
theorem ok:ConOk P_ gl 170 c:=co H func170 (.cons F259.ok .nil) rn
end F170
namespace F171
abbrev R_:=LB
def H:Hd:=⟨[.agg [Si,Si,Si],Sz,Sq],[Ob 5],(.seq .d (.seq .d (.seq .d (.seq .d (.cut [1,8,9] [] .d (.seq .d (.cut [1,10] [] (.seq .d (.blk (.loop [1,8,10,44,45] [⟨10,[],.own 5 (.int .u8)⟩] .d))) .d))))))),⟨[(103,F103.c)],gl,false⟩,[],f171⟩
def t6(a:Bool)(g:Int)(f:LQ)(h:Int)(b:LB):S:=⟨[(1,vt a),(8,.ptr 0 []),(10,.own 1),(44,vi g),(45,vi h)],[.box 336 (.val (.vec 9 (.int .u64)) f),Ab 5 b],[]⟩
def z6:Nat->S->Option R_:=H.i P_ [r,r,r,r,r,r,l,r,d]
def x8(a:Bool)(b:LB):Option R_:=H.e P_ [r,r,r,r,r,r,r] ⟨[(1,vt a),(10,.own 0)],[Ab 5 b],[]⟩
def x6(a:Bool)(g:Int)(f:LQ)(h:Int)(b:LB):Option R_:=H.e P_ [r,r,r,r,r,r,l,r,d] (t6 a g f h b)
def x5(a:Bool)(g:Int)(f:LQ):Option R_:=H.e P_ [r,r,r,r,r] ⟨[(1,vt a),(8,.ptr 0 []),(9,vi g)],[.box 336 (.val (.vec 9 (.int .u64)) f)],[]⟩
theorem e8:x8=Yl:=by kernel_rfl
theorem i6(a:Bool)(g:Int)(f:LQ):∀(q:Nat) (h:Int) (b:LB),z6 q (t6 a g f h b)=Dg a g f q h b:=
 ind (λ_ _=>by kernel_rfl) λq ih h b=>Eq.trans (b:=Qd x8 (λh b=>(z6 q) (t6 a g f h b)) a g f h b) (by kernel_rfl) (by simp only[e8,ih]<;>rfl)
theorem e6:x6=Ya:=by funext a g f h b;exact Eq.trans (by kernel_rfl) ((i6 a g f Bt h b).trans (by rw[Ak];rfl))
theorem e5:x5=Yq:=Eq.trans (b:=Yn x6) (by kernel_rfl) (by simp only[e6]<;>rfl)
def F:=u5 RZ
theorem rn x:H.u P_ x=F x:=Eq.trans (b:=u5 (GP x5) x) (by kernel_rfl) (by simp only[e5]<;>rfl)
def c:Con:=⟨H.p,H.r,F⟩
theorem ok:ConOk P_ gl 171 c:=co H func171 (.cons F103.ok .nil) rn
end F171
namespace F94
def H:Hd:=⟨[.agg [Si,Si,Si]],[Ob 5,Si],.d,⟨[(170,F170.c),(171,F171.c)],gl,false⟩,[],f94⟩
def F:=u3 FG
theorem rn x:H.u P_ x=F x:=by kernel_rfl
def c:Con:=⟨H.p,H.r,F⟩
theorem ok:ConOk P_ gl 94 c:=co H func94 (.cons F170.ok (.cons F171.ok .nil)) rn
end F94
namespace F95
abbrev R_:=(LB×Int)
abbrev K_:=S->Option R_
def H:Hd:=⟨[Si,Sw],[Ob 5,Si],(.seq .d (.seq .d (.seq .d (.cut [7] [] (.seq .d (.blk (.loop [0,7,17,18,19] [⟨7,[],.own 5 (.int .u8)⟩] (.seq .d (.seq .d (.cut [0,7,17,18,19] [] (.blk (.seq .d (.cut [0,7,9,17,18,19] [] .d (.seq .d (.blk (.loop [0,7,9,17,18,19,28,29] [] .d)))))) .d)))))) .d)))),⟨[(169,F169.c)],gl,false⟩,[],f95⟩
def t26(b:Int)(a:LX)(k:Int32)(f m:Int)(h:LB):S:=⟨[(0,vi b),(7,.own 0),(9,vx k),(17,vw a),(18,vi (Ac a)),(19,vi f),(28,vi (Cg b (8:Int))),(29,vi m)],[Ab 5 h],[]⟩
def z26(Di:K_):Nat->S->Option R_:=H.i P_ [r,r,r,l,r,d,(lp Di),r,r,l,d,r,r,r,d]
def t16(b:Int)(a:LX)(f:Int)(g:LB):S:=⟨[(0,vi b),(7,.own 0),(17,vw a),(18,vi (Ac a)),(19,vi f)],[Ab 5 g],[]⟩
def z16:Nat->S->Option R_:=H.i P_ [r,r,r,l,r,d]
def x30(g:LB):Option R_:=H.e P_ [r,r,r,r] ⟨[(7,.own 0)],[Ab 5 g],[]⟩
def x28(Di:K_)(b:Int)(a:LX)(f:Int)(h:LB):Option R_:=H.e P_ [r,r,r,l,r,d,(lp Di),r,r,r] ⟨[(0,vi b),(7,.own 0),(17,vw a),(18,vi (Ac a)),(19,vi f)],[Ab 5 h],[]⟩
def x26(Di:K_)(b:Int)(a:LX)(k:Int32)(f m:Int)(h:LB):Option R_:=H.e P_ [r,r,r,l,r,d,(lp Di),r,r,l,d,r,r,r,d] (t26 b a k f m h)
def x25(Di:K_)(b:Int)(a:LX)(f:Int)(g:LB)(k:Int32):Option R_:=H.e P_ [r,r,r,l,r,d,(lp Di),r,r,l,d,r,r] ⟨[(0,vi b),(7,.own 0),(9,vx k),(17,vw a),(18,vi (Ac a)),(19,vi f)],[Ab 5 g],[]⟩
def x16(b:Int)(a:LX)(f:Int)(g:LB):Option R_:=H.e P_ [r,r,r,l,r,d] (t16 b a f g)
theorem e30:x30=XC:=by kernel_rfl
theorem e28(Di:K_)(b:Int)(a:LX):x28 Di b a=KI (λf g=>Di (t16 b a f g)) b a:=by kernel_rfl
theorem i26(Di:K_)(b:Int)(a:LX)(k:Int32)(f:Int):∀(q:Nat) (m:Int) (h:LB),z26 Di q (t26 b a k f m h)=Ii (λf g=>Di (t16 b a f g)) b a k f q m h:=
 ind (λ_ _=>by kernel_rfl) λq ih m h=>Eq.trans (b:=AA (x28 Di b a) (λm h=>(z26 Di q) (t26 b a k f m h)) b a k f m h) (by kernel_rfl) (by simp only[e28,ih]<;>rfl)
theorem e26(Di:K_)(b:Int)(a:LX):x26 Di b a=KP (λf g=>Di (t16 b a f g)) b a:=by funext k f m h;exact Eq.trans (by kernel_rfl) ((i26 Di b a k f Bt m h).trans (by rw[Ak];rfl))
theorem e25(Di:K_)(b:Int)(a:LX):x25 Di b a=Kn (λf g=>Di (t16 b a f g)) b a:=Eq.trans (b:=JZ (x26 Di b a) b a) (by kernel_rfl) (by simp only[e26]<;>rfl)
theorem i16(b:Int)(a:LX):∀(q:Nat) (f:Int) (g:LB),z16 q (t16 b a f g)=Fa b a q f g:=
 ind (λ_ _=>by kernel_rfl) λq ih f g=>Eq.trans (b:=AG (x25 (z16 q) b a) x30 b a f g) (by kernel_rfl) (by simp only[e25,e30,ih]<;>rfl)
theorem e16:x16=WZ:=by funext b a f g;exact Eq.trans (by kernel_rfl) ((i16 b a Bt f g).trans (by rw[Ak];rfl))
def F:=u2 CF
theorem rn x:H.u P_ x=F x:=Eq.trans (b:=u2 (OR x16) x) (by kernel_rfl) (by simp only[e16]<;>rfl)
def c:Con:=⟨H.p,H.r,F⟩
theorem ok:ConOk P_ gl 95 c:=co H func95 (.cons F169.ok .nil) rn
end F95
namespace F260
abbrev R_:=Bool
def H:Hd:=⟨[Ss],[Sz],(.seq .d (.cut [0] [] (.seq .d (.blk (.loop [0,6,7,8] [] .d))) .d)),⟨[],gl,false⟩,[],f260⟩
def t4(a:LB)(b:Int):S:=⟨[(0,vs a),(6,.own 0),(7,vi (Ac a)),(8,vi b)],[Ab 5 a],[]⟩
def z4:Nat->S->Option R_:=H.i P_ [r,l,r,d]
def x6(a:LB):Option R_:=H.e P_ [r,r] ⟨[(0,vs a)],[],[]⟩
def x4(a:LB)(b:Int):Option R_:=H.e P_ [r,l,r,d] (t4 a b)
theorem e6:x6=aF:=by kernel_rfl
theorem i4(a:LB):∀(q:Nat) (b:Int),z4 q (t4 a b)=OX a q b:=
 ind (λ_=>by kernel_rfl) λq ih b=>Eq.trans (b:=ZS x6 (λb=>(z4 q) (t4 a b)) a b) (by kernel_rfl) (by simp only[e6,ih]<;>rfl)
theorem e4:x4=YX:=by funext a b;exact Eq.trans (by kernel_rfl) ((i4 a Bt b).trans (by rw[Ak];rfl))
def F:=QD
theorem rn x:H.u P_ x=F x:=Eq.trans (b:=aL x4 x) (by kernel_rfl) (by simp only[e4]<;>rfl)
def c:Con:=⟨H.p,H.r,F⟩
theorem ok:ConOk P_ gl 260 c:=co H func260 .nil rn
end F260
namespace F176
abbrev R_:=Int
def H:Hd:=⟨[.lf (.list (.cons .str (.cons (.list (.int .u8)) .nil))) none],[Si],(.seq .d (.seq .d (.cut [3] [] (.seq .d (.blk (.loop [3,6,7,8] [] .d))) .d))),⟨[],gl,false⟩,[],f176⟩
def t4(b:List (LB×LB×Unit))(a f:Int):S:=⟨[(3,vi a),(6,.val (.list (.cons .str (.cons (.list (.int .u8)) .nil))) b),(7,vi (Ac b)),(8,vi f)],[],[]⟩
def z4:Nat->S->Option R_:=H.i P_ [r,r,l,r,d]
def x6(a:Int):Option R_:=H.e P_ [r,r,r] ⟨[(3,vi a)],[],[]⟩
def x4(b:List (LB×LB×Unit))(a f:Int):Option R_:=H.e P_ [r,r,l,r,d] (t4 b a f)
theorem e6:x6=UR:=by kernel_rfl
theorem i4(b:List (LB×LB×Unit)):∀(q:Nat) (a f:Int),z4 q (t4 b a f)=Yc b q a f:=
 ind (λ_ _=>by kernel_rfl) λq ih a f=>Eq.trans (b:=ED x6 (λa f=>(z4 q) (t4 b a f)) b a f) (by kernel_rfl) (by simp only[e6,ih]<;>rfl)
theorem e4:x4=UC:=by funext b a f;exact Eq.trans (by kernel_rfl) ((i4 b Bt a f).trans (by rw[Ak];rfl))
def F:=GQ
theorem rn x:H.u P_ x=F x:=Eq.trans (b:=UZ x4 x) (by kernel_rfl) (by simp only[e4]<;>rfl)
def c:Con:=⟨H.p,H.r,F⟩
theorem ok:ConOk P_ gl 176 c:=co H func176 .nil rn
end F176
namespace F262
def H:Hd:=⟨[.agg [Ss,Sb]],[Sz],.d,⟨[(260,F260.c)],gl,false⟩,[],f262⟩
def F:=u2 DY
theorem rn x:H.u P_ x=F x:=by kernel_rfl
def c:Con:=⟨H.p,H.r,F⟩
theorem ok:ConOk P_ gl 262 c:=co H func262 (.cons F260.ok .nil) rn
end F262
namespace F172
abbrev R_:=Int
abbrev K_:=S->Option R_
def H:Hd:=⟨[Ss,.lf (.list (.cons .str (.cons (.list (.int .u8)) .nil))) none],[Si],(.seq .d (.seq .d (.cut [] [] (.cut [20] [] (.keep [17,19,20] true) .d) .d))),⟨[(176,F176.c),(260,F260.c),(262,F262.c)],gl,false⟩,[(261,(.seq .d (.cut [4] [] (.keep [4,7,8] true) .d))),(325,(.seq .d (.cut [] [] (.seq .d (.blk (.loop [0,1,7,8] [] (.seq .d (.seq .d (.cut [0,1,7,8] [] (.blk (.seq .d (.cut [0,1,5,7,8,16] [] .d .d))) .d)))))) .d)))],f172⟩
def t19(a:List (LB×LB×Unit))(b:Int):S:=⟨[(0,.val (.list (.cons .str (.cons (.list (.int .u8)) .nil))) a),(1,.fn 262 []),(7,vi (Ac a)),(8,vi b)],[],[[(4,vt false)],[(17,.cst (.bool false))]]⟩
def z19:Nat->S->Option R_:=H.i P_ [r,r,l,l,(call 11 261),r,l,(call 2 325),r,l,r,d]
def t27(a:List (LB×LB×Unit))(f:Int):S:=⟨[(0,.val (.list (.cons .str (.cons (.list (.int .u8)) .nil))) a),(1,.fn 262 []),(7,vi (Ac a)),(8,vi f)],[],[[(4,vt false)],[(17,.cst (.bool false))]]⟩
def z27:Nat->S->Option R_:=H.i P_ [r,r,l,l,(call 11 261),r,l,(call 2 325),r,l,r,d]
def x36:Option R_:=H.e P_ [r,r,r] ⟨[],[],[]⟩
def x35(k:Bool):Option R_:=H.e P_ [r,r,l,r] ⟨[(20,vt k)],[],[]⟩
def x26(m:Bool):Option R_:=H.e P_ [r,r,l,l,(call 11 261),r,r] ⟨[(4,vt m)],[],[[(17,.cst (.bool false))]]⟩
def x25:Option R_:=H.e P_ [r,r,l,l,(call 11 261),r,l,(call 2 325),r,r] ⟨[],[],[[(4,vt false)],[(17,.cst (.bool false))]]⟩
def x23(rU:K_)(a:List (LB×LB×Unit))(b:Int):Option R_:=H.e P_ [r,r,l,l,(call 11 261),r,l,(call 2 325),r,l,r,d,(lp rU),r,r,r] ⟨[(0,.val (.list (.cons .str (.cons (.list (.int .u8)) .nil))) a),(1,.fn 262 []),(7,vi (Ac a)),(8,vi b)],[],[[(4,vt false)],[(17,.cst (.bool false))]]⟩
def x22(rU:K_)(a:List (LB×LB×Unit))(b:Int)(g:Bool):Option R_:=H.e P_ [r,r,l,l,(call 11 261),r,l,(call 2 325),r,l,r,d,(lp rU),r,r,l,d,r,r] ⟨[(0,.val (.list (.cons .str (.cons (.list (.int .u8)) .nil))) a),(1,.fn 262 []),(5,vi b),(7,vi (Ac a)),(8,vi b),(16,vt g)],[],[[(4,vt false)],[(17,.cst (.bool false))]]⟩
def x19(a:List (LB×LB×Unit))(b:Int):Option R_:=H.e P_ [r,r,l,l,(call 11 261),r,l,(call 2 325),r,l,r,d] (t19 a b)
def x34(n:Bool):Option R_:=H.e P_ [r,r,l,l,(call 11 261),r,r] ⟨[(4,vt n)],[],[[(17,.cst (.bool false))]]⟩
def x33:Option R_:=H.e P_ [r,r,l,l,(call 11 261),r,l,(call 2 325),r,r] ⟨[],[],[[(4,vt false)],[(17,.cst (.bool false))]]⟩
def x31(Tt:K_)(a:List (LB×LB×Unit))(f:Int):Option R_:=H.e P_ [r,r,l,l,(call 11 261),r,l,(call 2 325),r,l,r,d,(lp Tt),r,r,r] ⟨[(0,.val (.list (.cons .str (.cons (.list (.int .u8)) .nil))) a),(1,.fn 262 []),(7,vi (Ac a)),(8,vi f)],[],[[(4,vt false)],[(17,.cst (.bool false))]]⟩
def x30(Tt:K_)(a:List (LB×LB×Unit))(f:Int)(h:Bool):Option R_:=H.e P_ [r,r,l,l,(call 11 261),r,l,(call 2 325),r,l,r,d,(lp Tt),r,r,l,d,r,r] ⟨[(0,.val (.list (.cons .str (.cons (.list (.int .u8)) .nil))) a),(1,.fn 262 []),(5,vi f),(7,vi (Ac a)),(8,vi f),(16,vt h)],[],[[(4,vt false)],[(17,.cst (.bool false))]]⟩
def x27(a:List (LB×LB×Unit))(f:Int):Option R_:=H.e P_ [r,r,l,l,(call 11 261),r,l,(call 2 325),r,l,r,d] (t27 a f)
theorem e36:x36=PX:=by kernel_rfl
theorem e35:x35=Xm:=Eq.trans (b:=OT x36) (by kernel_rfl) (by simp only[e36]<;>rfl)
theorem e26:x26=OK:=Eq.trans (b:=YV x35) (by kernel_rfl) (by simp only[e35]<;>rfl)
theorem e25:x25=aU:=Eq.trans (b:=ZJ x26) (by kernel_rfl) (by simp only[e26]<;>rfl)
theorem e23(rU:K_)(a:List (LB×LB×Unit)):x23 rU a=YM (λb=>rU (t19 a b)) a:=by kernel_rfl
theorem e22(rU:K_)(a:List (LB×LB×Unit)):x22 rU a=aQ (λb=>rU (t19 a b)) a:=Eq.trans (b:=bB x26 (x23 rU a) a) (by kernel_rfl) (by simp only[e26,e23]<;>rfl)
theorem i19(a:List (LB×LB×Unit)):∀(q:Nat) (b:Int),z19 q (t19 a b)=NZ a q b:=
 ind (λ_=>by kernel_rfl) λq ih b=>Eq.trans (b:=aJ (x22 (z19 q) a) x25 a b) (by kernel_rfl) (by simp only[e22,e25,ih]<;>rfl)
theorem e19:x19=ZF:=by funext a b;exact Eq.trans (by kernel_rfl) ((i19 a Bt b).trans (by rw[Ak];rfl))
theorem e34:x34=DS:=Eq.trans (b:=NY x35) (by kernel_rfl) (by simp only[e35]<;>rfl)
theorem e33:x33=PB:=Eq.trans (b:=NS x34) (by kernel_rfl) (by simp only[e34]<;>rfl)
theorem e31(Tt:K_)(a:List (LB×LB×Unit)):x31 Tt a=DH (λf=>Tt (t27 a f)) a:=by kernel_rfl
theorem e30(Tt:K_)(a:List (LB×LB×Unit)):x30 Tt a=EZ (λf=>Tt (t27 a f)) a:=Eq.trans (b:=DU x34 (x31 Tt a) a) (by kernel_rfl) (by simp only[e34,e31]<;>rfl)
theorem i27(a:List (LB×LB×Unit)):∀(q:Nat) (f:Int),z27 q (t27 a f)=Qt a q f:=
 ind (λ_=>by kernel_rfl) λq ih f=>Eq.trans (b:=Xs (x30 (z27 q) a) x33 a f) (by kernel_rfl) (by simp only[e30,e33,ih]<;>rfl)
theorem e27:x27=OO:=by funext a f;exact Eq.trans (by kernel_rfl) ((i27 a Bt f).trans (by rw[Ak];rfl))
def F:=u2 Wq
theorem rn x:H.u P_ x=F x:=Eq.trans (b:=u2 (HQ x35 x19 x27) x) (by kernel_rfl) (by simp only[e35,e19,e27]<;>rfl)
def c:Con:=⟨H.p,H.r,F⟩
theorem ok:ConOk P_ gl 172 c:=cr H func172 (.cons F176.ok (.cons F260.ok (.cons F262.ok .nil))) (Ri.cons ent261 (Ri.cons ent325 Ri.nil)) rn
end F172
theorem rL:ConOk Tryz.prog gl 96 VB:=rN ent96 F172.ok F176.ok F103.ok
namespace F38
def H:Hd:=⟨[.agg [Si,Si,Si,Sw]],[Ob 5,Si],.d,⟨[(93,F93.c),(94,F94.c),(95,F95.c),(96,VB)],gl,false⟩,[],f38⟩
def F:=u4 bT
theorem rn x:H.u P_ x=F x:=by kernel_rfl
def c:Con:=⟨H.p,H.r,F⟩
theorem ok:ConOk P_ gl 38 c:=co H func38 (.cons F93.ok (.cons F94.ok (.cons F95.ok (.cons rL .nil)))) rn
end F38
namespace F26
def H:Hd:=⟨[Sb,Ss],[Ob 5,Si],.d,⟨[(24,F24.c),(38,F38.c)],gl,false⟩,[],f26⟩
def F:=u2 MI
theorem rn x:H.u P_ x=F x:=by kernel_rfl
def c:Con:=⟨H.p,H.r,F⟩
theorem ok:ConOk P_ gl 26 c:=co H func26 (.cons F24.ok (.cons F38.ok .nil)) rn
end F26
namespace F144
def H:Hd:=⟨[.agg [Si,Si,Si,Sw]],[.agg [Si,Si,Si]],.d,⟨[],gl,false⟩,[],f144⟩
def F:=u4 Ly
theorem rn x:H.u P_ x=F x:=by kernel_rfl
def c:Con:=⟨H.p,H.r,F⟩
theorem ok:ConOk P_ gl 144 c:=co H func144 .nil rn
end F144
namespace F233
def H:Hd:=⟨[.agg [Si,Si,Si]],[Sz],.d,⟨[],gl,false⟩,[],f233⟩
def F:=u3 AY
theorem rn x:H.u P_ x=F x:=by kernel_rfl
def c:Con:=⟨H.p,H.r,F⟩
theorem ok:ConOk P_ gl 233 c:=co H func233 .nil rn
end F233
namespace F309
def H:Hd:=⟨[.agg [Si,Si,Si],Sq],[Ob 5],.d,⟨[(215,F215.c)],gl,false⟩,[],f309⟩
def F:=u4 Me
theorem rn x:H.u P_ x=F x:=by kernel_rfl
def c:Con:=⟨H.p,H.r,F⟩
theorem ok:ConOk P_ gl 309 c:=co H func309 (.cons F215.ok .nil) rn
end F309
namespace F234
def H:Hd:=⟨[.agg [Si,Si,Si],Su],[Ob 5],.d,⟨[(215,F215.c),(309,F309.c)],gl,false⟩,[],f234⟩
def F:=u4 Zb
theorem rn x:H.u P_ x=F x:=by kernel_rfl
def c:Con:=⟨H.p,H.r,F⟩
theorem ok:ConOk P_ gl 234 c:=co H func234 (.cons F215.ok (.cons F309.ok .nil)) rn
end F234
namespace F235
def H:Hd:=⟨[.agg [Si,Si,Si]],[Ob 5],.d,⟨[(309,F309.c)],gl,false⟩,[],f235⟩
def F:=u3 AW
theorem rn x:H.u P_ x=F x:=by kernel_rfl
def c:Con:=⟨H.p,H.r,F⟩
theorem ok:ConOk P_ gl 235 c:=co H func235 (.cons F309.ok .nil) rn
end F235
namespace F143
def H:Hd:=⟨[.agg [Si,Si,Si]],[Ob 5],.d,⟨[(233,F233.c),(234,F234.c),(235,F235.c)],gl,false⟩,[],f143⟩
def F:=u3 Hq
theorem rn x:H.u P_ x=F x:=by kernel_rfl
def c:Con:=⟨H.p,H.r,F⟩
theorem ok:ConOk P_ gl 143 c:=co H func143 (.cons F233.ok (.cons F234.ok (.cons F235.ok .nil))) rn
end F143
namespace F236
abbrev R_:=LB
def H:Hd:=⟨[Si,Sx],[Ob 5],(.seq .d (.seq .d (.seq .d (.cut [0,5] [] .d .d)))),⟨[(159,F159.c)],gl,false⟩,[],f236⟩
def x2(a b:Int):Option R_:=H.e P_ [r,r,r,r] ⟨[(0,vi a),(5,vi b)],[],[]⟩
theorem e2:x2=Ib:=by kernel_rfl
def F:=u2 Qe
theorem rn x:H.u P_ x=F x:=Eq.trans (b:=u2 (Zj x2) x) (by kernel_rfl) (by simp only[e2]<;>rfl)
def c:Con:=⟨H.p,H.r,F⟩
theorem ok:ConOk P_ gl 236 c:=co H func236 (.cons F159.ok .nil) rn
end F236
namespace F145
abbrev R_:=LB
def H:Hd:=⟨[.agg [Si,Si,Si,Sw]],[Ob 5],(.seq .d (.seq .d (.cut [3] [] (.seq .d (.blk (.loop [1,3,4] [⟨3,[],.own 5 (.int .u8)⟩] .d))) .d))),⟨[(236,F236.c)],gl,false⟩,[],f145⟩
def t4(g f h:Int)(b:LX)(k:Int)(a:LB):S:=⟨[(1,.ptr 0 []),(3,.own 1),(4,vi k)],[.box 30 (.agg [vi g,vi f,vi h,vw b]),Ab 5 a],[]⟩
def z4:Nat->S->Option R_:=H.i P_ [r,r,l,r,d]
def x6(a:LB):Option R_:=H.e P_ [r,r,r] ⟨[(3,.own 0)],[Ab 5 a],[]⟩
def x4(g f h:Int)(b:LX)(k:Int)(a:LB):Option R_:=H.e P_ [r,r,l,r,d] (t4 g f h b k a)
theorem e6:x6=JV:=by kernel_rfl
theorem i4(g f h:Int)(b:LX):∀(q:Nat) (k:Int) (a:LB),z4 q (t4 g f h b k a)=Hg g f h b q k a:=
 ind (λ_ _=>by kernel_rfl) λq ih k a=>Eq.trans (b:=Od x6 (λk a=>(z4 q) (t4 g f h b k a)) g f h b k a) (by kernel_rfl) (by simp only[e6,ih]<;>rfl)
theorem e4:x4=JU:=by funext g f h b k a;exact Eq.trans (by kernel_rfl) ((i4 g f h b Bt k a).trans (by rw[Ak];rfl))
def F:=u4 Dj
theorem rn x:H.u P_ x=F x:=Eq.trans (b:=u4 (Xr x4) x) (by kernel_rfl) (by simp only[e4]<;>rfl)
def c:Con:=⟨H.p,H.r,F⟩
theorem ok:ConOk P_ gl 145 c:=co H func145 (.cons F236.ok .nil) rn
end F145
namespace F232
abbrev R_:=Int
def H:Hd:=⟨[.lf (.list (.cons .str (.cons (.list (.int .u8)) .nil))) none],[Si],(.seq .d (.seq .d (.cut [3] [] (.seq .d (.blk (.loop [0,3,4] [] .d))) .d))),⟨[],gl,false⟩,[],f232⟩
def t4(b:List (LB×LB×Unit))(a f:Int):S:=⟨[(0,.val (.list (.cons .str (.cons (.list (.int .u8)) .nil))) b),(3,vi a),(4,vi f)],[],[]⟩
def z4:Nat->S->Option R_:=H.i P_ [r,r,l,r,d]
def x6(a:Int):Option R_:=H.e P_ [r,r,r] ⟨[(3,vi a)],[],[]⟩
def x4(b:List (LB×LB×Unit))(a f:Int):Option R_:=H.e P_ [r,r,l,r,d] (t4 b a f)
theorem e6:x6=Wu:=by kernel_rfl
theorem i4(b:List (LB×LB×Unit)):∀(q:Nat) (a f:Int),z4 q (t4 b a f)=Hc b q a f:=
 ind (λ_ _=>by kernel_rfl) λq ih a f=>Eq.trans (b:=Jj x6 (λa f=>(z4 q) (t4 b a f)) b a f) (by kernel_rfl) (by simp only[e6,ih]<;>rfl)
theorem e4:x4=Wc:=by funext b a f;exact Eq.trans (by kernel_rfl) ((i4 b Bt a f).trans (by rw[Ak];rfl))
def F:=Vt
theorem rn x:H.u P_ x=F x:=Eq.trans (b:=Xv x4 x) (by kernel_rfl) (by simp only[e4]<;>rfl)
def c:Con:=⟨H.p,H.r,F⟩
theorem ok:ConOk P_ gl 232 c:=co H func232 .nil rn
end F232
namespace F142
abbrev R_:=LB
def H:Hd:=⟨[Ss,.lf (.list (.cons .str (.cons (.list (.int .u8)) .nil))) none],[Ob 5],(.seq .d (.seq .d (.seq .d (.cut [5] [] (.seq .d (.blk (.loop [1,5,6] [] .d))) .d)))),⟨[(215,F215.c),(232,F232.c)],gl,false⟩,[],f142⟩
def t4(a:List (LB×LB×Unit))(b:Int)(f:LB):S:=⟨[(1,.val (.list (.cons .str (.cons (.list (.int .u8)) .nil))) a),(5,.own 0),(6,vi b)],[Ab 5 f],[]⟩
def z4:Nat->S->Option R_:=H.i P_ [r,r,r,l,r,d]
def x6(f:LB):Option R_:=H.e P_ [r,r,r,r] ⟨[(5,.own 0)],[Ab 5 f],[]⟩
def x4(a:List (LB×LB×Unit))(b:Int)(f:LB):Option R_:=H.e P_ [r,r,r,l,r,d] (t4 a b f)
theorem e6:x6=Uk:=by kernel_rfl
theorem i4(a:List (LB×LB×Unit)):∀(q:Nat) (b:Int) (f:LB),z4 q (t4 a b f)=Eb a q b f:=
 ind (λ_ _=>by kernel_rfl) λq ih b f=>Eq.trans (b:=Mh x6 (λb f=>(z4 q) (t4 a b f)) a b f) (by kernel_rfl) (by simp only[e6,ih]<;>rfl)
theorem e4:x4=Uh:=by funext a b f;exact Eq.trans (by kernel_rfl) ((i4 a Bt b f).trans (by rw[Ak];rfl))
def F:=u2 Cx
theorem rn x:H.u P_ x=F x:=Eq.trans (b:=u2 (Va x4) x) (by kernel_rfl) (by simp only[e4]<;>rfl)
def c:Con:=⟨H.p,H.r,F⟩
theorem ok:ConOk P_ gl 142 c:=co H func142 (.cons F215.ok (.cons F232.ok .nil)) rn
end F142
namespace F76
def Sj(f g h:Int)(k:LX):Option (LB):=
(λu:Option (LB)=>
both (
both (
(Ly f g h k).bind λ(n,o,p)=>
both (
(Hq n o p).bind λm=>
(λv:Option (LB)=>
both (
v) [
both (
v) [
(Dj f g h k).bind λa=>
(λw:Option (LB)=>
bo (
w)) (
(Cx ([87,65,86,69]:LB) ([(([102,109,116,32]:LB),m,()),(([100,97,116,97]:LB),a,())]:List (LB×LB×Unit))).bind λb=>
some b)]]) (
(Dj f g h k).bind λa=>
(Cx ([87,65,86,69]:LB) ([(([102,109,116,32]:LB),m,()),(([100,97,116,97]:LB),a,())]:List (LB×LB×Unit))).bind λb=>
some b)) [
(Hq n o p).bind λm=>
both (
(Dj f g h k).bind λa=>
(Cx ([87,65,86,69]:LB) ([(([102,109,116,32]:LB),m,()),(([100,97,116,97]:LB),a,())]:List (LB×LB×Unit))).bind λb=>
some b) [
(Dj f g h k).bind λa=>
(λy:Option (LB)=>
bo (
y)) (
(Cx ([87,65,86,69]:LB) ([(([102,109,116,32]:LB),m,()),(([100,97,116,97]:LB),a,())]:List (LB×LB×Unit))).bind λb=>
some b)]]) [
u]) [
u]) (
(Ly f g h k).bind λ(n,o,p)=>
(Hq n o p).bind λm=>
both (
(Dj f g h k).bind λa=>
(Cx ([87,65,86,69]:LB) ([(([102,109,116,32]:LB),m,()),(([100,97,116,97]:LB),a,())]:List (LB×LB×Unit))).bind λb=>
some b) [
(Dj f g h k).bind λa=>
(λaa:Option (LB)=>
bo (
aa)) (
(Cx ([87,65,86,69]:LB) ([(([102,109,116,32]:LB),m,()),(([100,97,116,97]:LB),a,())]:List (LB×LB×Unit))).bind λb=>
some b)])
theorem PZ: @Sj= @Ja:=by
  unfold Sj Ja
  try simp only[aR,MS,OY]
  all_goals
    repeat (refine funext λ_=>?_)
    repeat' first
      |with_reducible rfl
      |with_reducible refine Ma ?_ ?_
      |with_reducible refine Lo ?_ ?_ ?_
      |with_reducible refine Mc ?_ ?_ ?_ ?_
      |((with_reducible refine Tg ?_ ?_);focus (intro h;first|(subst h;rfl)|(simp only[h];rfl)|(simp[Cu,Ac,h];done)))
      |with_reducible refine Rr λx=>?_
      |with_reducible refine AN (λ_=>?_) (λ_=>?_)
      |(refine Gl (λh=>by simp only[h,So,Du,Dq,ite_self]) (λx h=>?_);(try simp only[h,Du]))
      |(refine Jb (λh=>?_) (λh=>?_)<;>simp only[h,if_true,if_false,Bool.false_eq_true])
def H:Hd:=⟨[.agg [Si,Si,Si,Sw]],[Ob 5],(.seq .d (.seq (.mode false) .d)),⟨[(142,F142.c),(143,F143.c),(144,F144.c),(145,F145.c)],gl,false⟩,[],f76⟩
def F:=u4 Ja
theorem rn x:H.u P_ x=F x:=Eq.trans (b:=u4 Sj x) (by kernel_rfl) (by rw[PZ];rfl)
def c:Con:=⟨H.p,H.r,F⟩
theorem ok:ConOk P_ gl 76 c:=co H func76 (.cons F142.ok (.cons F143.ok (.cons F144.ok (.cons F145.ok .nil)))) rn
end F76
namespace F27
def H:Hd:=⟨[Sb,Ss],[Ob 5,Si],.d,⟨[(25,F25.c),(76,F76.c)],gl,false⟩,[],f27⟩
def F:=u2 Lk
theorem rn x:H.u P_ x=F x:=by kernel_rfl
def c:Con:=⟨H.p,H.r,F⟩
theorem ok:ConOk P_ gl 27 c:=co H func27 (.cons F25.ok (.cons F76.ok .nil)) rn
end F27
namespace F28
abbrev R_:=Bool
def H:Hd:=⟨[.agg [Si,Si,Si,Sw],.agg [Si,Si,Si,Sw]],[Sz],(.seq .d (.seq .d (.cut [] [] (.seq .d (.blk (.loop [2,3,5] [] .d))) .d))),⟨[],gl,false⟩,[],f28⟩
def t4(f g h:Int)(a:LX)(k m n:Int)(b:LX)(o:Int):S:=⟨[(2,.ptr 0 []),(3,.ptr 1 []),(5,vi o)],[.box 30 (.agg [vi f,vi g,vi h,vw a]),.box 30 (.agg [vi k,vi m,vi n,vw b])],[]⟩
def z4:Nat->S->Option R_:=H.i P_ [r,r,l,r,d]
def x6:Option R_:=H.e P_ [r,r,r] ⟨[],[],[]⟩
def x4(f g h:Int)(a:LX)(k m n:Int)(b:LX)(o:Int):Option R_:=H.e P_ [r,r,l,r,d] (t4 f g h a k m n b o)
theorem e6:x6=JS:=by kernel_rfl
theorem i4(f g h:Int)(a:LX)(k m n:Int)(b:LX):∀(q:Nat) (o:Int),z4 q (t4 f g h a k m n b o)=Hb f g h a k m n b q o:=
 ind (λ_=>by kernel_rfl) λq ih o=>Eq.trans (b:=Oe x6 (λo=>(z4 q) (t4 f g h a k m n b o)) f g h a k m n b o) (by kernel_rfl) (by simp only[e6,ih]<;>rfl)
theorem e4:x4=IF:=by funext f g h a k m n b o;exact Eq.trans (by kernel_rfl) ((i4 f g h a k m n b Bt o).trans (by rw[Ak];rfl))
def F:=u8 Vr
theorem rn x:H.u P_ x=F x:=Eq.trans (b:=u8 (Xx x4) x) (by kernel_rfl) (by simp only[e4]<;>rfl)
def c:Con:=⟨H.p,H.r,F⟩
theorem ok:ConOk P_ gl 28 c:=co H func28 .nil rn
end F28
namespace F29
def H:Hd:=⟨[Sb,Ss],[Si],.d,⟨[(24,F24.c)],gl,false⟩,[],f29⟩
def F:=u2 aN
theorem rn x:H.u P_ x=F x:=by kernel_rfl
def c:Con:=⟨H.p,H.r,F⟩
theorem ok:ConOk P_ gl 29 c:=co H func29 (.cons F24.ok .nil) rn
end F29
namespace F5
def H:Hd:=⟨[Sb,Ss],[Sz],.d,⟨[(23,F23.c),(24,F24.c),(25,F25.c),(26,F26.c),(27,F27.c),(28,F28.c),(29,F29.c)],gl,false⟩,[],f5⟩
def F:=u2 Rh
theorem rn x:H.u P_ x=F x:=by kernel_rfl
def c:Con:=⟨H.p,H.r,F⟩
theorem ok:ConOk P_ gl 5 c:=co H func5 (.cons F23.ok (.cons F24.ok (.cons F25.ok (.cons F26.ok (.cons F27.ok (.cons F28.ok (.cons F29.ok .nil))))))) rn
end F5
end
end Go.Proofs.YtjjeabieimfcpaaGreatDoor
