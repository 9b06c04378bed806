/- A part of a proof (see the text that ends in Proof). No conditions. -/
import Derived.Test.YtaicmmejgiaafaaGreatDoorVnHA
set_option linter.unusedVariables false
set_option linter.unusedSimpArgs false
set_option maxRecDepth 10000
namespace Go.Proofs.YtaicmmejgiaafaaGreatDoor
open Go Go.Lv Go.Pl Go.Rx Go.Rx.PS
noncomputable section
def g0:List Value:=[.int .i64 2,.int .i64 2,.int .i64 2,.int .i64 4,.int .i64 4]
def g2:List Value:=[.int .i64 2,.int .i64 2,.int .i64 4,.int .i64 4,.int .i64 2,.int .i64 2,.int .i64 2,.int .i64 2,.int .i64 4]
def g3:List Value:=[.int .u8 1,.int .u8 0,.int .u8 0,.int .u8 0,.int .u8 0,.int .u8 0,.int .u8 16,.int .u8 0,.int .u8 128,.int .u8 0,.int .u8 0,.int .u8 170,.int .u8 0,.int .u8 56,.int .u8 155,.int .u8 113]
def g7:List Value:=[.int .u8 0,.int .u8 1,.int .u8 56,.int .u8 2,.int .u8 57,.int .u8 49,.int .u8 28,.int .u8 3,.int .u8 61,.int .u8 58,.int .u8 42,.int .u8 50,.int .u8 38,.int .u8 29,.int .u8 17,.int .u8 4,.int .u8 62,.int .u8 47,.int .u8 59,.int .u8 36,.int .u8 45,.int .u8 43,.int .u8 51,.int .u8 22,.int .u8 53,.int .u8 39,.int .u8 33,.int .u8 30,.int .u8 24,.int .u8 18,.int .u8 12,.int .u8 5,.int .u8 63,.int .u8 55,.int .u8 48,.int .u8 27,.int .u8 60,.int .u8 41,.int .u8 37,.int .u8 16,.int .u8 46,.int .u8 35,.int .u8 44,.int .u8 21,.int .u8 52,.int .u8 32,.int .u8 23,.int .u8 11,.int .u8 54,.int .u8 26,.int .u8 40,.int .u8 15,.int .u8 34,.int .u8 20,.int .u8 31,.int .u8 10,.int .u8 25,.int .u8 14,.int .u8 19,.int .u8 9,.int .u8 13,.int .u8 8,.int .u8 7,.int .u8 6]
def gl:List (Nat×List Value):=[(0,g0),(2,g2),(3,g3),(7,g7)]
theorem mixed:Tryz.prog.follows .mixedOrders=true:=C7
noncomputable abbrev P_:=Tryz.prog
noncomputable def kt(l:List (Kc P_ gl))(v:Bool)(c:Bool:=false):=rQ l v c
theorem co(H:Hd){f:Nat}{F:Iz (Fv H.p)->Option (Iz (Fv H.r))}(hf:P_.funcs[f]? =some H.f)(h:∀x,H.u P_ x=F x:=by intro x;kernel_rfl)(hT:Jk P_ H.T:=by exact eY _ _ _)(hb:uB P_ H=true:=by kernel_rfl):ConOk P_ H.T.gl f ⟨H.p,H.r,F⟩:=Hd.cn mixed H hf hT hb h
theorem ent10:Ent Tryz.prog 10:=Ent.mk Tryz.func10 C7 rfl
theorem ent55:Ent Tryz.prog 55:=Ent.mk Tryz.func55 C7 rfl
theorem ent60:Ent Tryz.prog 60:=Ent.mk Tryz.func60 C7 rfl
abbrev u2{A B R:Type}(f:A->B->R)(x:A×B):=f x.1 x.2
abbrev u3{A B C R:Type}(f:A->B->C->R):=u2 λa=>u2 (f a)
abbrev u4{A B C D R:Type}(f:A->B->C->D->R):=u2 λa=>u3 (f a)
abbrev u5{A B C D E R:Type}(f:A->B->C->D->E->R):=u2 λa=>u4 (f a)
abbrev u6{A B C D E F R:Type}(f:A->B->C->D->E->F->R):=u2 λa=>u5 (f a)
abbrev u7{A B C D E F G R:Type}(f:A->B->C->D->E->F->G->R):=u2 λa=>u6 (f a)
open Go.Proofs.Tryz
namespace F26
def H:Hd:=⟨[],[.agg [Si,Si,Si,Ow 21]],.d,kt [] false,[],f26⟩
def k:Kc P_ gl:=⟨(26,⟨H.p,H.r,λ_=>Kw⟩),co H func26⟩
end F26
namespace F81
def H:Hd:=⟨[.agg [Si,Si,Si,Sw]],[.agg [Si,Si]],.d,kt [] false,[],f81⟩
def k:Kc P_ gl:=⟨(81,⟨H.p,H.r,u4 CJ⟩),co H func81⟩
end F81
namespace F120
abbrev R_:=(Int32×Int32×Int)
def H:Hd:=⟨[Si],[Sx,Sx,Si],(.seq .d (.seq (.seq .d (.blk (.cut [0,7] [] .d .d))) .d)),kt [] false,[],f120⟩
def k:Kc P_ gl:=⟨(120,⟨H.p,H.r,Zc⟩),co H func120⟩
end F120
namespace F67
def H:Hd:=⟨[.agg [Si,Si]],[Si],.d,kt [F120.k] false,[],f67⟩
def k:Kc P_ gl:=⟨(67,⟨H.p,H.r,u2 Ki⟩),co H func67⟩
end F67
namespace F170
def H:Hd:=⟨[Si],[Si,Si],.d,kt [] false,[],f170⟩
def k:Kc P_ gl:=⟨(170,⟨H.p,H.r,Se⟩),co H func170⟩
end F170
namespace F158
def H:Hd:=⟨[Si,Si],[Si,Si],.d,kt [F170.k] false,[],f158⟩
def k:Kc P_ gl:=⟨(158,⟨H.p,H.r,u2 Ke⟩),co H func158⟩
end F158
namespace F99
def H:Hd:=⟨[.agg [Si,Si,Si,Sw],Si],[Si],.d,kt [F67.k,F81.k,F158.k] false,[],f99⟩
def k:Kc P_ gl:=⟨(99,⟨H.p,H.r,u5 TG⟩),co H func99⟩
end F99
namespace F100
abbrev R_:=Int
def H:Hd:=⟨[Si,Sw],[Si],(.seq .d (.seq .d (.seq .d (.seq .d (.cut [] [] (.seq .d (.blk (.loop [5,6,22,23,24] [] .d))) .d))))),kt [F120.k] false,[],f100⟩
def t4(b f:Int32)(a:LX)(g:Int):S:=⟨[(5,vx b),(6,vx f),(22,vw a),(23,vi (Aa a)),(24,vi g)],[],[]⟩
def z4:Nat->S->Option R_:=H.i P_ [r,r,r,r,l,r,d]
theorem i4(b f:Int32)(a:LX):∀(q:Nat) (g:Int),z4 q (t4 b f a g)=Mr b f a q g:=
 ind (λ_=>by kernel_rfl) λq ih g=>Eq.trans (b:=Vt Xv (λg=>(z4 q) (t4 b f a g)) b f a g) C7 (by simp only[ih]<;>rfl)
def k:Kc P_ gl:=⟨(100,⟨H.p,H.r,u2 Kr⟩),co H func100 (λx=>Eq.trans (b:=u2 (Xq (λb f a g=>z4 Bi (t4 b f a g))) x) C7 (by simp only[i4,Am]<;>rfl))⟩
end F100
namespace F52
def H:Hd:=⟨[.agg [Si,Si,Si,Sw]],[Si],.d,kt [F99.k,F100.k] false,[],f52⟩
def k:Kc P_ gl:=⟨(52,⟨H.p,H.r,u4 If⟩),co H func52⟩
end F52
namespace F36
def Lg(j2:LB->Int->Int->Int->LX->Option (Int×Int×Int×Int×Int×Int))(a b f:Int)(g:LX)(h:LB):Option (Int×Int×Int×Int×Int×Int):=
(If a b f g).bind λk=>
if(Bp k 0)then
some (0,0,0,0,0,k)
else
if(Eo (Aa h) 64)then
some (0,0,0,0,0,2)
else
(Dt (Bp a 0)).bind λ_=>
bo (
j2 h a b f g)
theorem CN: @Lg= @Mg:=by
  unfold Lg Mg;simp only[JS,Vi,Ye]
abbrev R_:=(Int×Int×Int×Int×Int×Int)
def H:Hd:=⟨[.agg [Si,Si,Si,Sw],Ss],[.agg [Si,Si,Si,Si,Si],Si],(.seq .d (.seq .d (.seq .d (.cut [1,4,7] [] .d .d)))),kt [F52.k] false,[],f36⟩
def k:Kc P_ gl:=⟨(36,⟨H.p,H.r,u5 JJ⟩),co H func36 (λx=>Eq.trans (b:=u5 (Lg Xc) x) C7 (by simp only[CN]<;>rfl))⟩
end F36
namespace F119
abbrev R_:=(UInt64×Int)
abbrev K_:=S->Option R_
def H:Hd:=⟨[Sq,Sb],[Sq,Si],(.seq .d (.seq .d (.cut [4,5] [] (.keep [0,1,4,5,9,10,11,12] true) .d))),kt [] false,[(173,(.seq .d (.cut [1] [] (.seq .d (.blk (.loop [0,1,9,10,11] [] .d))) .d))),(174,(.seq .d (.seq .d (.cut [1] [] (.seq .d (.blk (.loop [1,5] [] (.seq .d (.seq .d (.cut [1,5] [] (.blk (.seq .d (.seq .d (.cut [1,2,3,5] [] (.seq .d (.blk (.loop [1,2,3,5,11] [] .d))) .d)))) .d)))))) .d))))],f119⟩
def t27(a:LB)(b:UInt64)(f:LQ)(h:UInt64)(m:Int):S:=⟨[(0,.ptr 0 []),(1,vq h),(9,vb a),(10,vi (Aa a)),(11,vi m)],[.box 301 (.val (.vec 256 (.int .u64)) f)],[[(0,vq b),(1,vb a),(4,vq 0),(5,vi 0),(9,.ptr 0 []),(10,vq b),(11,vb a)]]⟩
def z27:Nat->S->Option R_:=H.i P_ [r,r,l,(call 3 173),r,l,r,d]
def t21(b:UInt64)(a:LB)(g:Int)(f:LQ)(k:UInt64)(n:Int):S:=⟨[(1,.ptr 0 []),(2,vi g),(3,vq k),(5,vi g),(11,vi n)],[.box 301 (.val (.vec 256 (.int .u64)) f)],[[(0,vq b),(1,vb a),(4,vq 0),(5,vi 0)]]⟩
def z21(Ft:K_):Nat->S->Option R_:=H.i P_ [r,r,l,(call 0 174),r,r,l,r,d,(lp Ft),r,r,l,d,r,r,l,r,d]
def t16(b:UInt64)(a:LB)(g:Int)(f:LQ):S:=⟨[(1,.ptr 0 []),(5,vi g)],[.box 301 (.val (.vec 256 (.int .u64)) f)],[[(0,vq b),(1,vb a),(4,vq 0),(5,vi 0)]]⟩
def z16:Nat->S->Option R_:=H.i P_ [r,r,l,(call 0 174),r,r,l,r,d]
def x27(a:LB)(b:UInt64)(f:LQ)(h:UInt64)(m:Int):Option R_:=H.e P_ [r,r,l,(call 3 173),r,l,r,d] (t27 a b f h m)
def x21(Ft:K_)(b:UInt64)(a:LB)(g:Int)(f:LQ)(k:UInt64)(n:Int):Option R_:=H.e P_ [r,r,l,(call 0 174),r,r,l,r,d,(lp Ft),r,r,l,d,r,r,l,r,d] (t21 b a g f k n)
theorem i27(a:LB)(b:UInt64)(f:LQ):∀(q:Nat) (h:UInt64) (m:Int),z27 q (t27 a b f h m)=Mu a b f q h m:=
 ind (λ_ _=>by kernel_rfl) λq ih h m=>Eq.trans (b:=Ws Xp (λh m=>(z27 q) (t27 a b f h m)) a b f h m) C7 (by simp only[ih]<;>rfl)
theorem e27:x27=Wg:=by funext a b f h m;exact Eq.trans C7 ((i27 a b f Bi h m).trans (by rw[Am];rfl))
theorem i21(Ft:K_)(b:UInt64)(a:LB)(g:Int)(f:LQ):∀(q:Nat) (k:UInt64) (n:Int),z21 Ft q (t21 b a g f k n)=Np (λg f=>Ft (t16 b a g f)) b a g f q k n:=
 ind (λ_ _=>by kernel_rfl) λq ih k n=>Eq.trans (b:=Vk (We (λg f=>Ft (t16 b a g f)) b a) (λk n=>(z21 Ft q) (t21 b a g f k n)) b a g f k n) C7 (by simp only[ih]<;>rfl)
theorem e21(Ft:K_)(b:UInt64)(a:LB):x21 Ft b a=Yv (λg f=>Ft (t16 b a g f)) b a:=by funext g f k n;exact Eq.trans C7 ((i21 Ft b a g f Bi k n).trans (by rw[Am];rfl))
theorem i16(b:UInt64)(a:LB):∀(q:Nat) (g:Int) (f:LQ),z16 q (t16 b a g f)=Oc b a q g f:=
 ind (λ_ _=>by kernel_rfl) λq ih g f=>Eq.trans (b:=Wx (x21 (z16 q) b a) (Vs x27) b a g f) C7 (by simp only[e21,e27,ih]<;>rfl)
def k:Kc P_ gl:=⟨(119,⟨H.p,H.r,u2 QL⟩),co H func119 (λx=>Eq.trans (b:=u2 (BL (λb a g f=>z16 Bi (t16 b a g f))) x) C7 (by simp only[i16,Am]<;>rfl))⟩
end F119
namespace F65
def H:Hd:=⟨[Sb],[Sq,Si],.d,kt [F119.k] false,[],f65⟩
def k:Kc P_ gl:=⟨(65,⟨H.p,H.r,HG⟩),co H func65⟩
end F65
namespace F66
abbrev R_:=LX
def H:Hd:=⟨[Sq],[.lf (.vec 16 (.int .i32)) none],(.seq .d (.seq .d (.cut [2,3] [] (.seq .d (.blk (.loop [0,2,3,5] [] .d))) .d))),kt [] false,[],f66⟩
def t4(f:UInt64)(a:Int)(b:LX):S:=⟨[(0,vq f),(2,.ptr 0 []),(3,.ptr 1 []),(5,vi a)],[.box 64 (.val (.vec 16 (.int .i32)) (List.replicate 16 (0:Int32))),.box 64 (.val (.vec 16 (.int .i32)) b)],[]⟩
def z4:Nat->S->Option R_:=H.i P_ [r,r,l,r,d]
theorem i4(f:UInt64):∀(q:Nat) (a:Int) (b:LX),z4 q (t4 f a b)=CV f q a b:=
 ind (λ_ _=>by kernel_rfl) λq ih a b=>Eq.trans (b:=RP MZ (λa b=>(z4 q) (t4 f a b)) f a b) C7 (by simp only[ih]<;>rfl)
def k:Kc P_ gl:=⟨(66,⟨H.p,H.r,dH⟩),co H func66 (λx=>Eq.trans (b:=QM (λf a b=>z4 Bi (t4 f a b)) x) C7 (by simp only[i4,Am]<;>rfl))⟩
end F66
namespace F30
def H:Hd:=⟨[Ss],[.lf (.vec 16 (.int .i32)) none,Si],.d,kt [F65.k,F66.k] false,[],f30⟩
def k:Kc P_ gl:=⟨(30,⟨H.p,H.r,Rv⟩),co H func30⟩
end F30
namespace F236
def H:Hd:=⟨[Sq,Sq],[Sq,Sq],.d,kt [] false,[],f236⟩
def k:Kc P_ gl:=⟨(236,⟨H.p,H.r,u2 Um⟩),co H func236⟩
end F236
namespace F213
def H:Hd:=⟨[Sq,Sq],[Sq,Sq],.d,kt [F236.k] false,[],f213⟩
def k:Kc P_ gl:=⟨(213,⟨H.p,H.r,u2 BQ⟩),co H func213⟩
end F213
namespace F171
def Ek(j10:LI->Option (LI))(aY:Int->LI->Option (LI))(b:Int)(a:LI):Option (LI):=
if(Ci b (Aa a))then
both (
(RU (Aa a) b (Aa a)).bind λ_=>
(RU (Aa a) 0 b).bind λ_=>
aY (Ad b (BF ((Aa a)-b) (Xr a 0 (b-(0:Int))).length)) (Ie a b ((Aa a)-b) (Xr a 0 (b-(0:Int))))) [
(RU (Aa a) 0 b).bind λ_=>
(RU (Aa a) b (Aa a)).bind λ_=>
aY (Ad b (BF ((Aa a)-b) (Xr a 0 (b-(0:Int))).length)) (Ie a b ((Aa a)-b) (Xr a 0 (b-(0:Int))))]
else
j10 a
theorem Ld: @Ek= @Ep:=by
  unfold Ek Ep
  repeat (refine funext λ_=>?_)
  repeat' first
    |with_reducible rfl
    |with_reducible refine Ht ?_ ?_
    |with_reducible refine Hm ?_ ?_ ?_
    |with_reducible refine Hv ?_ ?_ ?_ ?_
    |((with_reducible refine Kj ?_ ?_);focus (intro h;first|(subst h;rfl)|(simp only[h];rfl)|(simp[Cd,Aa,h];done)))
    |with_reducible refine Ka λx=>?_
    |with_reducible refine Qe (λ_=>?_) (λ_=>?_)
    |(refine En (λh=>by simp only[h,Kf,Du,Dq,ite_self]) (λx h=>?_);(try simp only[h,Du]))
    |(refine Fw (λh=>?_) (λh=>?_)<;>simp only[h,if_true,if_false,Bool.false_eq_true])
abbrev R_:=LI
def H:Hd:=⟨[Sl,Si],[Ol 3],(.seq .d (.cut [0,1] [] .d (.seq .d (.cut [0,6] [] .d (.seq .d (.seq .d (.cut [7] [] (.blk (.loop [7,8] [] (.seq .d (.blk (.mode false))))) .d))))))),kt [F213.k] true,[],f171⟩
def t8(b:Int)(a:LI):S:=⟨[(7,.own 0),(8,vi b)],[Ai 3 a],[]⟩
def z8:Nat->S->Option R_:=H.i P_ [r,r,r,r,r,r,l,d]
theorem i8:∀(q:Nat) (b:Int) (a:LI),z8 q (t8 b a)=Et q b a:=
 ind (λ_ _=>by kernel_rfl) λq ih b a=>Eq.trans (b:=Ek Gy (λb a=>(z8 q) (t8 b a)) b a) C7 (by rw[Ld];simp only[ih]<;>rfl)
def k:Kc P_ gl:=⟨(171,⟨H.p,H.r,u2 Jl⟩),co H func171 (λx=>Eq.trans (b:=u2 (Hy (Hp (Hz (λb a=>z8 Bi (t8 b a))))) x) C7 (by simp only[i8,Am]<;>rfl))⟩
end F171
namespace F214
abbrev R_:=LI
def H:Hd:=⟨[.lf (.list (.list (.int .i64))) none],[Ol 3],(.seq .d (.seq .d (.cut [0,3] [] (.seq .d (.blk (.loop [0,3,9,10,11] [] .d))) (.cut [0,6] [⟨6,[],.own 3 (.int .i64)⟩] (.keep [0,3,6,23,24] true) (.cut [6] [] (.seq .d (.blk (.loop [6,25,26,27] [] .d))) .d))))),kt [] true,[(237,(.seq .d (.cut [0,1] [] .d .d)))],f214⟩
def t14(a:List LI)(g:Int)(f:LI):S:=⟨[(6,.own 0),(25,.val (.list (.list (.int .i64))) a),(26,vi (Aa a)),(27,vi g)],[Ai 3 f],[]⟩
def z14:Nat->S->Option R_:=H.i P_ [r,r,r,r,l,r,d]
def t9(a:List LI)(b h:Int):S:=⟨[(0,.val (.list (.list (.int .i64))) a),(3,vi b),(9,.val (.list (.list (.int .i64))) a),(10,vi (Aa a)),(11,vi h)],[],[]⟩
def z9:Nat->S->Option R_:=H.i P_ [r,r,l,r,d]
def x14(a:List LI)(g:Int)(f:LI):Option R_:=H.e P_ [r,r,r,r,l,r,d] (t14 a g f)
theorem i14(a:List LI):∀(q:Nat) (g:Int) (f:LI),z14 q (t14 a g f)=Ej a q g f:=
 ind (λ_ _=>by kernel_rfl) λq ih g f=>Eq.trans (b:=Gz He (λg f=>(z14 q) (t14 a g f)) a g f) C7 (by simp only[ih]<;>rfl)
theorem e14:x14=Hc:=by funext a g f;exact Eq.trans C7 ((i14 a Bi g f).trans (by rw[Am];rfl))
theorem i9(a:List LI):∀(q:Nat) (b h:Int),z9 q (t9 a b h)=Er a q b h:=
 ind (λ_ _=>by kernel_rfl) λq ih b h=>Eq.trans (b:=Hs (Hf (Hb (Ha x14))) (λb h=>(z9 q) (t9 a b h)) a b h) C7 (by simp only[e14,ih]<;>rfl)
def k:Kc P_ gl:=⟨(214,⟨H.p,H.r,Jj⟩),co H func214 (λx=>Eq.trans (b:=Hw (λa b h=>z9 Bi (t9 a b h)) x) C7 (by simp only[i9,Am]<;>rfl))⟩
end F214
namespace F172
def H:Hd:=⟨[Sl,Sl],[Ol 3],.d,kt [F214.k] false,[],f172⟩
def k:Kc P_ gl:=⟨(172,⟨H.p,H.r,u2 Xe⟩),co H func172⟩
end F172
namespace F117
def H:Hd:=⟨[Si,Si],[Ol 3,Si],.d,kt [F158.k,F170.k,F171.k,F172.k] false,[],f117⟩
def k:Kc P_ gl:=⟨(117,⟨H.p,H.r,u2 Kn⟩),co H func117⟩
end F117
namespace F187
def H:Hd:=⟨[.agg [Si,Si],Sw],[Si],.d,kt [F67.k,F100.k] false,[],f187⟩
def k:Kc P_ gl:=⟨(187,⟨H.p,H.r,u3 AR⟩),co H func187⟩
end F187
namespace F183
def H:Hd:=⟨[Si,Sw],[Si],.d,kt [] false,[],f183⟩
def k:Kc P_ gl:=⟨(183,⟨H.p,H.r,u2 HQ⟩),co H func183⟩
end F183
namespace F184
def Dv(a:LX):Option (LX):=
UM a (
some ([]:LX)) (
(Cd ([]:LX) a).bind λb=>
some b)
theorem Ji: @Dv= @Cn:=by
  unfold Dv Cn
  repeat (refine funext λ_=>?_)
  repeat' first
    |with_reducible rfl
    |with_reducible refine Ht ?_ ?_
    |with_reducible refine Hm ?_ ?_ ?_
    |with_reducible refine Hv ?_ ?_ ?_ ?_
    |((with_reducible refine Kj ?_ ?_);focus (intro h;first|(subst h;rfl)|(simp only[h];rfl)|(simp[Cd,Aa,h];done)))
    |with_reducible refine Ka λx=>?_
    |with_reducible refine Qe (λ_=>?_) (λ_=>?_)
    |(refine En (λh=>by simp only[h,Kf,Du,Dq,ite_self]) (λx h=>?_);(try simp only[h,Du]))
    |(refine Fw (λh=>?_) (λh=>?_)<;>simp only[h,if_true,if_false,Bool.false_eq_true])
def H:Hd:=⟨[Sw],[Ow 21],.d,kt [] false,[],f184⟩
def k:Kc P_ gl:=⟨(184,⟨H.p,H.r,Cn⟩),co H func184 (λx=>Eq.trans (b:=Dv x) C7 (by simp only[Ji]<;>rfl))⟩
end F184
namespace F188
abbrev R_:=(LX×Int)
abbrev K_:=S->Option R_
def H:Hd:=⟨[Si,Sw],[Ow 21,Si],(.seq .d (.seq .d (.seq .d (.cut [7] [] (.seq .d (.blk (.loop [0,7,8] [] (.seq .d (.cut [0,7,8] [] (.blk (.keep [0,7,8,24,25,26,27,28,29] true)) .d))))) .d)))),kt [F183.k,F184.k] true,[(222,(.seq .d (.cut [0,2] [] (.seq .d (.blk (.loop [0,2,7,8] [] .d))) .d)))],f188⟩
def t17(b a f:Int)(g:LX):S:=⟨[(0,.view true 0 [] (.int .i32) a ((Ad a b)-a)),(2,vi (Ah ((Ad a b)-a) (1:Int))),(7,vi (Ah ((Ad a b)-a) (1:Int))),(8,vi f)],[Aw 21 g],[[(0,vi b),(7,.own 0),(8,vi a),(24,.own 0),(25,vi a),(26,vi a),(27,vi b),(28,vi (Ad a b)),(29,.view true 0 [] (.int .i32) a ((Ad a b)-a))]]⟩
def z17(Lm:K_):Nat->S->Option R_:=H.i P_ [r,r,r,l,r,d,(lp Lm),r,l,d,(call 6 222),r,l,r,d]
def t12(b a:Int)(h:LX):S:=⟨[(0,vi b),(7,.own 0),(8,vi a)],[Aw 21 h],[]⟩
def z12:Nat->S->Option R_:=H.i P_ [r,r,r,l,r,d]
def x17(Lm:K_)(b a f:Int)(g:LX):Option R_:=H.e P_ [r,r,r,l,r,d,(lp Lm),r,l,d,(call 6 222),r,l,r,d] (t17 b a f g)
theorem i17(Lm:K_)(b a:Int):∀(q:Nat) (f:Int) (g:LX),z17 Lm q (t17 b a f g)=Xu (λa h=>Lm (t12 b a h)) b a q f g:=
 ind (λ_ _=>by kernel_rfl) λq ih f g=>Eq.trans (b:=IE (II (λa h=>Lm (t12 b a h)) b) (λf g=>(z17 Lm q) (t17 b a f g)) b a f g) C7 (by simp only[ih]<;>rfl)
theorem e17(Lm:K_)(b:Int):x17 Lm b=IU (λa h=>Lm (t12 b a h)) b:=by funext a f g;exact Eq.trans C7 ((i17 Lm b a Bi f g).trans (by rw[Am];rfl))
theorem i12(b:Int):∀(q:Nat) (a:Int) (h:LX),z12 q (t12 b a h)=Za b q a h:=
 ind (λ_ _=>by kernel_rfl) λq ih a h=>Eq.trans (b:=IP (x17 (z12 q) b) IG b a h) C7 (by simp only[e17,ih]<;>rfl)
def k:Kc P_ gl:=⟨(188,⟨H.p,H.r,u2 eZ⟩),co H func188 (λx=>Eq.trans (b:=u2 (OQ (λb a h=>z12 Bi (t12 b a h))) x) C7 (by simp only[i12,Am]<;>rfl))⟩
end F188
namespace F179
abbrev R_:=(Int×LX×LX×Int)
def H:Hd:=⟨[Si,.lf (.vec 16 (.int .i32)) none],[.agg [Si,.lf (.vec 16 (.int .i32)) none,.lf (.vec 16 (.int .i32)) none],Si],(.seq .d (.seq .d (.seq (.seq .d (.blk (.cut [4,6,9,11] [] .d .d))) .d))),kt [] false,[],f179⟩
def k:Kc P_ gl:=⟨(179,⟨H.p,H.r,u2 QJ⟩),co H func179⟩
end F179
namespace F128
def H:Hd:=⟨[Si,.lf (.vec 16 (.int .i32)) none],[.agg [Si,Sx,.agg [Si,.lf (.vec 16 (.int .i32)) none,.lf (.vec 16 (.int .i32)) none]],Si],.d,kt [F179.k] false,[],f128⟩
def k:Kc P_ gl:=⟨(128,⟨H.p,H.r,u2 IB⟩),co H func128⟩
end F128
namespace F180
def H:Hd:=⟨[.agg [Si,Sx,.agg [Si,.lf (.vec 16 (.int .i32)) none,.lf (.vec 16 (.int .i32)) none]]],[Si],.d,kt [F179.k] false,[],f180⟩
def k:Kc P_ gl:=⟨(180,⟨H.p,H.r,u5 Kq⟩),co H func180⟩
end F180
namespace F218
def H:Hd:=⟨[Si],[Si,Si],.d,kt [] false,[],f218⟩
def k:Kc P_ gl:=⟨(218,⟨H.p,H.r,JC⟩),co H func218⟩
end F218
namespace F219
def H:Hd:=⟨[Si,Sx],[Sx],.d,kt [] false,[],f219⟩
def k:Kc P_ gl:=⟨(219,⟨H.p,H.r,u2 IF⟩),co H func219⟩
end F219
namespace F181
def H:Hd:=⟨[Si,Sx],[Sx,Si],.d,kt [F218.k,F219.k] false,[],f181⟩
def k:Kc P_ gl:=⟨(181,⟨H.p,H.r,u2 Ks⟩),co H func181⟩
end F181
namespace F240
def H:Hd:=⟨[.agg [Si,.lf (.vec 16 (.int .i32)) none,.lf (.vec 16 (.int .i32)) none]],[Si],.d,kt [] false,[],f240⟩
def k:Kc P_ gl:=⟨(240,⟨H.p,H.r,u3 Nn⟩),co H func240⟩
end F240
namespace F220
abbrev R_:=(Int32×Int)
def H:Hd:=⟨[.agg [Si,.lf (.vec 16 (.int .i32)) none,.lf (.vec 16 (.int .i32)) none]],[Sx,Si],(.seq .d (.seq .d (.seq .d (.cut [1,5] [] (.seq .d (.blk (.loop [1,5,18,19] [] .d))) .d)))),kt [F240.k] false,[],f220⟩
def t4(b:LX)(a:Int)(f:LX)(h:Int32)(g:Int):S:=⟨[(1,.ptr 0 []),(5,vx h),(18,.val (.vec 16 (.int .i32)) b),(19,vi g)],[.box 200 (.agg [vi a,.val (.vec 16 (.int .i32)) b,.val (.vec 16 (.int .i32)) f])],[]⟩
def z4:Nat->S->Option R_:=H.i P_ [r,r,r,l,r,d]
theorem i4(b:LX)(a:Int)(f:LX):∀(q:Nat) (h:Int32) (g:Int),z4 q (t4 b a f h g)=Qp b a f q h g:=
 ind (λ_ _=>by kernel_rfl) λq ih h g=>Eq.trans (b:=BA AV (λh g=>(z4 q) (t4 b a f h g)) b a f h g) C7 (by simp only[ih]<;>rfl)
def k:Kc P_ gl:=⟨(220,⟨H.p,H.r,u3 CS⟩),co H func220 (λx=>Eq.trans (b:=u3 (AO (λb a f h g=>z4 Bi (t4 b a f h g))) x) C7 (by simp only[i4,Am]<;>rfl))⟩
end F220
namespace F247
def H:Hd:=⟨[Si],[Sx],.d,kt [] false,[],f247⟩
def k:Kc P_ gl:=⟨(247,⟨H.p,H.r,GW⟩),co H func247⟩
end F247
namespace F241
abbrev R_:=(Int×LX×LX×Int)
def H:Hd:=⟨[.agg [Si,.lf (.vec 16 (.int .i32)) none,.lf (.vec 16 (.int .i32)) none],Sx],[.agg [Si,.lf (.vec 16 (.int .i32)) none,.lf (.vec 16 (.int .i32)) none],Si],(.seq .d (.seq .d (.seq .d (.cut [2,4] [] (.seq .d (.blk (.loop [1,2,4,19,20] [] .d))) .d)))),kt [F240.k,F247.k] false,[],f241⟩
def t4(h:Int32)(f:LX)(g a:Int)(b:LX):S:=⟨[(1,vx h),(2,.ptr 0 []),(4,.ptr 1 []),(19,.val (.vec 16 (.int .i32)) f),(20,vi a)],[.box 200 (.agg [vi g,.val (.vec 16 (.int .i32)) b,.val (.vec 16 (.int .i32)) f]),.box 200 (.agg [vi 0,.val (.vec 16 (.int .i32)) (List.replicate 16 (0:Int32)),.val (.vec 16 (.int .i32)) (List.replicate 16 (0:Int32))])],[]⟩
def z4:Nat->S->Option R_:=H.i P_ [r,r,r,l,r,d]
theorem i4(h:Int32)(f:LX)(g:Int):∀(q:Nat) (a:Int) (b:LX),z4 q (t4 h f g a b)=Qc h f g q a b:=
 ind (λ_ _=>by kernel_rfl) λq ih a b=>Eq.trans (b:=BB BC (λa b=>(z4 q) (t4 h f g a b)) h f g a b) C7 (by simp only[ih]<;>rfl)
def k:Kc P_ gl:=⟨(241,⟨H.p,H.r,u4 RQ⟩),co H func241 (λx=>Eq.trans (b:=u4 (BK (λh f g a b=>z4 Bi (t4 h f g a b))) x) C7 (by simp only[i4,Am]<;>rfl))⟩
end F241
namespace F242
def Pv(j2:Int32->Int->LX->LX->Option (Int×LX×LX×Int))(b:Int)(f a:LX)(g:Int32):Option (Int×LX×LX×Int):=
(Nn b f a).bind λh=>
if(Bp h 0)then
some (0,(List.replicate 16 (0:Int32)),(List.replicate 16 (0:Int32)),h)
else
both (
(RU 16 1 16).bind λ_=>
(RU 16 0 16).bind λ_=>
j2 g b f a) [
(RU 16 0 16).bind λ_=>
(RU 16 1 16).bind λ_=>
j2 g b f a]
theorem HW: @Pv= @Th:=by
  unfold Pv Th
  repeat (refine funext λ_=>?_)
  repeat' first
    |with_reducible rfl
    |with_reducible refine Ht ?_ ?_
    |with_reducible refine Hm ?_ ?_ ?_
    |with_reducible refine Hv ?_ ?_ ?_ ?_
    |((with_reducible refine Kj ?_ ?_);focus (intro h;first|(subst h;rfl)|(simp only[h];rfl)|(simp[Cd,Aa,h];done)))
    |with_reducible refine Ka λx=>?_
    |with_reducible refine Qe (λ_=>?_) (λ_=>?_)
    |(refine En (λh=>by simp only[h,Kf,Du,Dq,ite_self]) (λx h=>?_);(try simp only[h,Du]))
    |(refine Fw (λh=>?_) (λh=>?_)<;>simp only[h,if_true,if_false,Bool.false_eq_true])
abbrev R_:=(Int×LX×LX×Int)
def H:Hd:=⟨[.agg [Si,.lf (.vec 16 (.int .i32)) none,.lf (.vec 16 (.int .i32)) none],Sx],[.agg [Si,.lf (.vec 16 (.int .i32)) none,.lf (.vec 16 (.int .i32)) none],Si],(.seq .d (.seq .d (.cut [1,2,4] [] .d .d))),kt [F240.k] false,[],f242⟩
def k:Kc P_ gl:=⟨(242,⟨H.p,H.r,u4 UF⟩),co H func242 (λx=>Eq.trans (b:=u4 (Pv FI) x) C7 (by simp only[HW]<;>rfl))⟩
end F242
namespace F221
def H:Hd:=⟨[.agg [Si,.lf (.vec 16 (.int .i32)) none,.lf (.vec 16 (.int .i32)) none],Sx,Sx],[.agg [Si,.lf (.vec 16 (.int .i32)) none,.lf (.vec 16 (.int .i32)) none]],.d,kt [F241.k,F242.k] false,[],f221⟩
def k:Kc P_ gl:=⟨(221,⟨H.p,H.r,u5 CB⟩),co H func221⟩
end F221
namespace F223
def H:Hd:=⟨[.agg [Si,.lf (.vec 16 (.int .i32)) none,.lf (.vec 16 (.int .i32)) none],Sx],[Sx,.agg [Si,.lf (.vec 16 (.int .i32)) none,.lf (.vec 16 (.int .i32)) none],Si],.d,kt [F220.k,F221.k] false,[],f223⟩
def k:Kc P_ gl:=⟨(223,⟨H.p,H.r,u4 Zj⟩),co H func223⟩
end F223
namespace F189
def Je(a:Int)(b:Int32)(f:Int)(g h:LX)(k:Int32):Option (Int32×Int×Int32×Int×LX×LX×Int):=
(Kq a b f g h).bind λm=>
if(Bp m 0)then
some (0,0,0,0,(List.replicate 16 (0:Int32)),(List.replicate 16 (0:Int32)),m)
else
(Ks a b).bind λ(n,y)=>
(Zj f g h (Ah k n)).bind λ(o,p,u,v,w)=>
bo (
some (o,a,k,p,u,v,w))
theorem Yd: @Je= @Kb:=by
  unfold Je Kb;simp only[JS,Vi,Ye]
def H:Hd:=⟨[.agg [Si,Sx,.agg [Si,.lf (.vec 16 (.int .i32)) none,.lf (.vec 16 (.int .i32)) none]],Sx],[Sx,.agg [Si,Sx,.agg [Si,.lf (.vec 16 (.int .i32)) none,.lf (.vec 16 (.int .i32)) none]],Si],(.seq .d (.seq .d (.seq .d (.seq .d (.seq (.mode false) .d))))),kt [F180.k,F181.k,F223.k] false,[],f189⟩
def k:Kc P_ gl:=⟨(189,⟨H.p,H.r,u6 Kb⟩),co H func189 (λx=>Eq.trans (b:=u6 Je x) C7 (by simp only[Yd]<;>rfl))⟩
end F189
namespace F190
def H:Hd:=⟨[Sx],[Su],.d,kt [] false,[],f190⟩
def k:Kc P_ gl:=⟨(190,⟨H.p,H.r,TK⟩),co H func190⟩
end F190
namespace F137
abbrev R_:=(LU×Int)
def H:Hd:=⟨[.agg [Si,Si],.lf (.vec 16 (.int .i32)) none,Sw],[Ov 134,Si],(.seq .d (.seq .d (.seq .d (.seq .d (.seq .d (.cut [3,9,11] [] (.seq .d (.blk (.loop [3,4,9,11,36] [] .d))) (.seq .d (.cut [13] [] (.seq .d (.blk (.loop [3,11,13,49,50,51] [⟨13,[],.own 134 (.int .u32)⟩] .d))) .d)))))))),kt [F128.k,F187.k,F188.k,F189.k,F190.k] false,[],f137⟩
def t10(b:LX)(a f g:Int)(k:List (Int×Int32×(Int×LX×LX×Unit)×Unit))(h:LU):S:=⟨[(3,.ptr 0 []),(11,.ptr 1 []),(13,.own 2),(49,.own 3),(50,vi (Aa b)),(51,vi g)],[.box 63 (.agg [vi a,vi f]),.box 203 (.val (.vec 6 (.cons (.int .i64) (.cons (.int .i32) (.cons (.cons (.int .i64) (.cons (.vec 16 (.int .i32)) (.cons (.vec 16 (.int .i32)) .nil))) .nil)))) k),Av 134 h,Aw 21 b],[]⟩
def z10:Nat->S->Option R_:=H.i P_ [r,r,r,r,r,r,r,l,r,d]
def t7(a f:Int)(n b:LX)(o:Int)(m:List (Int×Int32×(Int×LX×LX×Unit)×Unit)):S:=⟨[(3,.ptr 0 []),(4,.ptr 1 []),(9,.own 2),(11,.ptr 3 []),(36,vi o)],[.box 63 (.agg [vi a,vi f]),.box 64 (.val (.vec 16 (.int .i32)) n),Aw 21 b,.box 203 (.val (.vec 6 (.cons (.int .i64) (.cons (.int .i32) (.cons (.cons (.int .i64) (.cons (.vec 16 (.int .i32)) (.cons (.vec 16 (.int .i32)) .nil))) .nil)))) m)],[]⟩
def z7:Nat->S->Option R_:=H.i P_ [r,r,r,r,r,l,r,d]
def x10(b:LX)(a f g:Int)(k:List (Int×Int32×(Int×LX×LX×Unit)×Unit))(h:LU):Option R_:=H.e P_ [r,r,r,r,r,r,r,l,r,d] (t10 b a f g k h)
theorem i10(b:LX)(a f:Int):∀(q:Nat) (g:Int) (k:List (Int×Int32×(Int×LX×LX×Unit)×Unit)) (h:LU),z10 q (t10 b a f g k h)=Ih b a f q g k h:=
 ind (λ_ _ _=>by kernel_rfl) λq ih g k h=>Eq.trans (b:=Od On (λg k h=>(z10 q) (t10 b a f g k h)) b a f g k h) C7 (by simp only[ih]<;>rfl)
theorem e10:x10=Mp:=by funext b a f g k h;exact Eq.trans C7 ((i10 b a f Bi g k h).trans (by rw[Am];rfl))
theorem i7(a f:Int)(n b:LX):∀(q:Nat) (o:Int) (m:List (Int×Int32×(Int×LX×LX×Unit)×Unit)),z7 q (t7 a f n b o m)=Iy a f n b q o m:=
 ind (λ_ _=>by kernel_rfl) λq ih o m=>Eq.trans (b:=Pe (Pb x10) (λo m=>(z7 q) (t7 a f n b o m)) a f n b o m) C7 (by simp only[e10,ih]<;>rfl)
def k:Kc P_ gl:=⟨(137,⟨H.p,H.r,u4 Wi⟩),co H func137 (λx=>Eq.trans (b:=u4 (Pk (λa f n b o m=>z7 Bi (t7 a f n b o m))) x) C7 (by simp only[i7,Am]<;>rfl))⟩
end F137
namespace F123
def H:Hd:=⟨[],[.agg [Si,Si,Sq,Sq]],.d,kt [] false,[],f123⟩
def k:Kc P_ gl:=⟨(123,⟨H.p,H.r,λ_=>DQ⟩),co H func123⟩
end F123
namespace F138
abbrev R_:=((List (Int×Int×UInt64×UInt64×Unit)))
def H:Hd:=⟨[],[.lf (.vec 6 (.cons (.int .i64) (.cons (.int .i64) (.cons (.int .u64) (.cons (.int .u64) .nil))))) none],(.seq .d (.seq .d (.cut [0,1] [] (.seq .d (.blk (.loop [0,1,3] [] .d))) .d))),kt [F123.k] false,[],f138⟩
def t4(b:Int)(a:List (Int×Int×UInt64×UInt64×Unit)):S:=⟨[(0,.ptr 0 []),(1,.ptr 1 []),(3,vi b)],[.box 192 (.val (.vec 6 (.cons (.int .i64) (.cons (.int .i64) (.cons (.int .u64) (.cons (.int .u64) .nil))))) (List.replicate 6 ((0:Int),(0:Int),(0:UInt64),(0:UInt64),()))),.box 192 (.val (.vec 6 (.cons (.int .i64) (.cons (.int .i64) (.cons (.int .u64) (.cons (.int .u64) .nil))))) a)],[]⟩
def z4:Nat->S->Option R_:=H.i P_ [r,r,l,r,d]
theorem i4:∀(q:Nat) (b:Int) (a:List (Int×Int×UInt64×UInt64×Unit)),z4 q (t4 b a)=Iv q b a:=
 ind (λ_ _=>by kernel_rfl) λq ih b a=>Eq.trans (b:=Ps Pr (λb a=>(z4 q) (t4 b a)) b a) C7 (by simp only[ih]<;>rfl)
def k:Kc P_ gl:=⟨(138,⟨H.p,H.r,λ_=>Xm⟩),co H func138 (λx=>Eq.trans (b:=Ph (λb a=>z4 Bi (t4 b a))) C7 (by simp only[i4,Am]<;>rfl))⟩
end F138
namespace F126
def H:Hd:=⟨[.agg [Sb,Si]],[Si],.d,kt [] false,[],f126⟩
def k:Kc P_ gl:=⟨(126,⟨H.p,H.r,u2 Eg⟩),co H func126⟩
end F126
namespace F176
def Nb(j4:Int->Int->UInt64->UInt64->Option Int)(a b:Int)(f g:UInt64):Option Int:=
both (
bo (
j4 a b f g)) [
j4 a b f g]
theorem EO: @Nb= @Qb:=by
  unfold Nb Qb
  repeat (refine funext λ_=>?_)
  repeat' first
    |with_reducible rfl
    |with_reducible refine Ht ?_ ?_
    |with_reducible refine Hm ?_ ?_ ?_
    |with_reducible refine Hv ?_ ?_ ?_ ?_
    |((with_reducible refine Kj ?_ ?_);focus (intro h;first|(subst h;rfl)|(simp only[h];rfl)|(simp[Cd,Aa,h];done)))
    |with_reducible refine Ka λx=>?_
    |with_reducible refine Qe (λ_=>?_) (λ_=>?_)
    |(refine En (λh=>by simp only[h,Kf,Du,Dq,ite_self]) (λx h=>?_);(try simp only[h,Du]))
    |(refine Fw (λh=>?_) (λh=>?_)<;>simp only[h,if_true,if_false,Bool.false_eq_true])
def Mf(j3:Int->Int->UInt64->UInt64->Option Int)(a b:Int)(f g:UInt64):Option Int:=
both (
bo (
j3 a b f g)) [
j3 a b f g]
theorem FD: @Mf= @Qh:=by
  unfold Mf Qh
  repeat (refine funext λ_=>?_)
  repeat' first
    |with_reducible rfl
    |with_reducible refine Ht ?_ ?_
    |with_reducible refine Hm ?_ ?_ ?_
    |with_reducible refine Hv ?_ ?_ ?_ ?_
    |((with_reducible refine Kj ?_ ?_);focus (intro h;first|(subst h;rfl)|(simp only[h];rfl)|(simp[Cd,Aa,h];done)))
    |with_reducible refine Ka λx=>?_
    |with_reducible refine Qe (λ_=>?_) (λ_=>?_)
    |(refine En (λh=>by simp only[h,Kf,Du,Dq,ite_self]) (λx h=>?_);(try simp only[h,Du]))
    |(refine Fw (λh=>?_) (λh=>?_)<;>simp only[h,if_true,if_false,Bool.false_eq_true])
abbrev R_:=Int
def H:Hd:=⟨[.agg [Si,Si,Sq,Sq]],[Si],(.seq .d (.seq .d (.cut [1,3] [] (.mode false) (.cut [1,3] [] (.mode false) .d)))),kt [] false,[],f176⟩
def x3(a b:Int)(f g:UInt64):Option R_:=H.e P_ [r,r,r] ⟨[(1,.ptr 0 []),(3,.ptr 1 [])],[.box 191 (.agg [vi a,vi b,vq f,vq g]),.box 191 (.agg [vi (Ev (YN a (0:Int)) (24:Int)),vi (Ev (YN b (0:Int)) (24:Int)),vq f,vq g])],[]⟩
theorem e3:x3=BR:=Eq.trans (b:=Nb AJ) C7 (by rw[EO];rfl)
def k:Kc P_ gl:=⟨(176,⟨H.p,H.r,u4 DF⟩),co H func176 (λx=>Eq.trans (b:=u4 (Mf x3) x) C7 (by rw[FD];simp only[e3]<;>rfl))⟩
end F176
namespace F191
def H:Hd:=⟨[.agg [Si,Si,Sq,Sq],Su],[Si,Su],.d,kt [] false,[],f191⟩
def k:Kc P_ gl:=⟨(191,⟨H.p,H.r,u5 Tl⟩),co H func191⟩
end F191
namespace F122
def Ed(a:LB):Option (LB):=
UM a (
some ([]:LB)) (
(Cd ([]:LB) a).bind λb=>
some b)
theorem Lb: @Ed= @De:=by
  unfold Ed De
  repeat (refine funext λ_=>?_)
  repeat' first
    |with_reducible rfl
    |with_reducible refine Ht ?_ ?_
    |with_reducible refine Hm ?_ ?_ ?_
    |with_reducible refine Hv ?_ ?_ ?_ ?_
    |((with_reducible refine Kj ?_ ?_);focus (intro h;first|(subst h;rfl)|(simp only[h];rfl)|(simp[Cd,Aa,h];done)))
    |with_reducible refine Ka λx=>?_
    |with_reducible refine Qe (λ_=>?_) (λ_=>?_)
    |(refine En (λh=>by simp only[h,Kf,Du,Dq,ite_self]) (λx h=>?_);(try simp only[h,Du]))
    |(refine Fw (λh=>?_) (λh=>?_)<;>simp only[h,if_true,if_false,Bool.false_eq_true])
def H:Hd:=⟨[Sb],[Ob 5],.d,kt [] false,[],f122⟩
def k:Kc P_ gl:=⟨(122,⟨H.p,H.r,De⟩),co H func122 (λx=>Eq.trans (b:=Ed x) C7 (by simp only[Lb]<;>rfl))⟩
end F122
namespace F224
def H:Hd:=⟨[.agg [Sb,Si]],[.agg [Ob 5,Si]],.d,kt [F122.k] false,[],f224⟩
def k:Kc P_ gl:=⟨(224,⟨H.p,H.r,u2 HF⟩),co H func224⟩
end F224
namespace F192
abbrev R_:=(LB×Int×Int)
abbrev K_:=S->Option R_
def H:Hd:=⟨[.agg [Sb,Si],Sq,Si],[.agg [Ob 5,Si],Si],(.seq .d (.seq .d (.seq .d (.cut [3,6] [] (.keep [1,2,3,6,40,41] true) .d)))),kt [F126.k,F224.k] false,[(175,(.blk (.loop [0,1,2] [] (.seq .d (.blk (.cut [0,1,2] [] .d (.seq .d (.cut [0,1,2,7] [] .d .d))))))))],f192⟩
def t15(b:UInt64)(a:Int)(m:UInt64)(h f:Int)(o:LB):S:=⟨[(0,.ptr 0 []),(1,vq m),(2,vi h)],[.box 113 (.agg [.own 2,vi f]),.box 113 (.agg [.nils,vi 0]),Ab 5 o],[[(1,vq b),(2,vi a),(3,.ptr 0 []),(6,.ptr 1 []),(40,vq b),(41,vi a)]]⟩
def z15:Nat->S->Option R_:=H.i P_ [r,r,r,l,(call 2 175),d]
def t22(b:UInt64)(a:Int)(n:UInt64)(k g:Int)(p:LB):S:=⟨[(0,.ptr 0 []),(1,vq n),(2,vi k)],[.box 113 (.agg [.own 2,vi g]),.box 113 (.agg [.nils,vi 0]),Ab 5 p],[[(1,vq b),(2,vi a),(3,.ptr 0 []),(6,.ptr 1 []),(40,vq b),(41,vi a)]]⟩
def z22:Nat->S->Option R_:=H.i P_ [r,r,r,l,(call 2 175),d]
theorem i15(b:UInt64)(a:Int):∀(q:Nat) (m:UInt64) (h f:Int) (o:LB),z15 q (t15 b a m h f o)=Sm b a q m h f o:=
 ind (λ_ _ _ _=>by kernel_rfl) λq ih m h f o=>Eq.trans (b:=EU (ER (λm h f o=>(z15 q) (t15 b a m h f o)) b a) EF b a m h f o) C7 (by simp only[ih]<;>rfl)
theorem i22(b:UInt64)(a:Int):∀(q:Nat) (n:UInt64) (k g:Int) (p:LB),z22 q (t22 b a n k g p)=Te b a q n k g p:=
 ind (λ_ _ _ _=>by kernel_rfl) λq ih n k g p=>Eq.trans (b:=DU (FG (λn k g p=>(z22 q) (t22 b a n k g p)) b a) FX b a n k g p) C7 (by simp only[ih]<;>rfl)
def k:Kc P_ gl:=⟨(192,⟨H.p,H.r,u4 Xw⟩),co H func192 (λx=>Eq.trans (b:=u4 (IS (λb a m h f o=>z15 Bi (t15 b a m h f o)) (λb a n k g p=>z22 Bi (t22 b a n k g p))) x) C7 (by simp only[i15,i22,Am]<;>rfl))⟩
end F192
namespace F216
def H:Hd:=⟨[Su,Si],[Sz],.d,kt [] false,[],f216⟩
def k:Kc P_ gl:=⟨(216,⟨H.p,H.r,u2 Tt⟩),co H func216⟩
end F216
namespace F243
def H:Hd:=⟨[Si],[Si,Si],.d,kt [] false,[],f243⟩
def k:Kc P_ gl:=⟨(243,⟨H.p,H.r,FR⟩),co H func243⟩
end F243
namespace F225
def H:Hd:=⟨[.agg [Sb,Si],Si],[.agg [Ob 5,Si],Si],.d,kt [F126.k,F192.k,F243.k] false,[],f225⟩
def k:Kc P_ gl:=⟨(225,⟨H.p,H.r,u3 JL⟩),co H func225⟩
end F225
namespace F193
abbrev R_:=(LB×Int×Int)
def H:Hd:=⟨[.agg [Sb,Si],Su,Si],[.agg [Ob 5,Si],Si],(.seq .d (.seq .d (.seq .d (.seq .d (.cut [3,6,9,10,11] [] .d .d))))),kt [F126.k,F192.k,F216.k,F225.k] false,[],f193⟩
def k:Kc P_ gl:=⟨(193,⟨H.p,H.r,u4 PA⟩),co H func193⟩
end F193
namespace F139
def Li(k u n:Int)(a:UInt64)(b:UInt32)(o:UInt64)(m:LB):Option (LB×Int×Int×Int×UInt64×UInt64×Int):=
(λaf:Option (LB×Int×Int×Int×UInt64×UInt64×Int)=>
both (
bo (
af)) [
af]) (
some (m,k,u,n,(Ad a (Ah (Aj b:UInt64) (Bz a (GI.toZ (4:UInt64)).toNat))),o,0))
theorem CW: @Li= @Oo:=by
  unfold Li Oo
  try simp only[JS,Vi,Ye]
  all_goals
    repeat (refine funext λ_=>?_)
    repeat' first
      |with_reducible rfl
      |with_reducible refine Ht ?_ ?_
      |with_reducible refine Hm ?_ ?_ ?_
      |with_reducible refine Hv ?_ ?_ ?_ ?_
      |((with_reducible refine Kj ?_ ?_);focus (intro h;first|(subst h;rfl)|(simp only[h];rfl)|(simp[Cd,Aa,h];done)))
      |with_reducible refine Ka λx=>?_
      |with_reducible refine Qe (λ_=>?_) (λ_=>?_)
      |(refine En (λh=>by simp only[h,Kf,Du,Dq,ite_self]) (λx h=>?_);(try simp only[h,Du]))
      |(refine Fw (λh=>?_) (λh=>?_)<;>simp only[h,if_true,if_false,Bool.false_eq_true])
abbrev R_:=(LB×Int×Int×Int×UInt64×UInt64×Int)
def H:Hd:=⟨[.agg [Sb,Si],.agg [Si,Si,Sq,Sq],Su],[.agg [Ob 5,Si],.agg [Si,Si,Sq,Sq],Si],(.seq .d (.cut [2,3,4,6,7] [] .d (.seq .d (.seq .d (.cut [2,3,4,6,7,11] [] .d (.seq .d (.cut [3,4,6,7] [] (.keep [2,3,4,6,7,65] true) (.seq (.mode false) .d)))))))),kt [F126.k,F176.k,F191.k,F192.k,F193.k] false,[(178,(.seq .d (.seq .d (.seq .d (.blk (.cut [0,1,4] [] (.blk (.seq .d (.keep [0,1,4,6,18,19,20,21,22,23,24,25] true))) (.cut [] [] (.keep [0,1,4,27,28,29,30,31,32,33,34] true) .d))))))),(217,.d)],f139⟩
def x10(k u n:Int)(a:UInt64)(b:UInt32)(o:UInt64)(m:LB):Option R_:=H.e P_ [r,r,r,r,r,r,r] ⟨[(3,.ptr 0 []),(4,.ptr 1 []),(6,.ptr 2 []),(7,.ptr 3 [])],[.box 113 (.agg [.own 4,vi k]),.box 191 (.agg [vi u,vi n,vq (Ad a (Ah (Aj b:UInt64) (Bz a (GI.toZ (4:UInt64)).toNat))),vq o]),.box 113 (.agg [.nils,vi 0]),.box 191 (.agg [vi 0,vi 0,vq 0,vq 0]),Ab 5 m],[]⟩
def x8(b:UInt32)(f:Int)(a:UInt64)(k:Int)(m:LB)(n:Int)(o:UInt64):Option R_:=H.e P_ [r,r,r,r,r,r,l,(call 1 178),r,r,r,d,r] ⟨[(0,.ptr 0 []),(1,vu b),(4,.fn 217 [])],[.box 191 (.agg [vi f,vi n,vq a,vq o]),.box 113 (.agg [.own 4,vi k]),.box 113 (.agg [.nils,vi 0]),.box 191 (.agg [vi 0,vi 0,vq 0,vq 0]),Ab 5 m],[[(2,vu b),(3,.ptr 1 []),(4,.ptr 0 []),(6,.ptr 2 []),(7,.ptr 3 []),(65,vu b)]]⟩
theorem e10:x10=Yw:=Eq.trans (b:=Li) C7 (by rw[CW];rfl)
theorem e8:x8=AP:=Eq.trans (b:=AN (BH x10)) C7 (by simp only[e10]<;>rfl)
def k:Kc P_ gl:=⟨(139,⟨H.p,H.r,u7 OH⟩),co H func139 (λx=>Eq.trans (b:=u7 (BT (BN (AK x8))) x) C7 (by simp only[e8]<;>rfl))⟩
end F139
namespace F143
abbrev R_:=(UInt32×Int)
abbrev K_:=S->Option R_
def H:Hd:=⟨[Su,Sb],[Su,Si],(.seq .d (.seq .d (.cut [0,1,6] [] (.keep [0,1,6,12] true) (.cut [0] [] (.seq .d (.blk (.loop [0,6,13,14,15] [] .d))) .d)))),kt [] false,[(195,(.seq .d (.seq .d (.cut [1] [] (.seq .d (.blk (.loop [1,5] [] (.seq .d (.seq .d (.cut [1,5] [] (.blk (.seq .d (.seq .d (.cut [1,2,3,5] [] (.seq .d (.blk (.loop [1,2,3,5,10] [] .d))) .d)))) .d)))))) .d))))],f143⟩
def t28(a:LB)(b:LU)(h:UInt32)(m:Int):S:=⟨[(0,vu h),(6,.ptr 0 []),(13,vb a),(14,vi (Aa a)),(15,vi m)],[.box 313 (.val (.vec 256 (.int .u32)) b)],[]⟩
def z28:Nat->S->Option R_:=H.i P_ [r,r,r,l,r,d]
def t21(f:UInt32)(a:LB)(g:Int)(b:LU)(k:UInt32)(n:Int):S:=⟨[(1,.ptr 0 []),(2,vi g),(3,vu k),(5,vi g),(10,vi n)],[.box 313 (.val (.vec 256 (.int .u32)) b)],[[(0,vu f),(1,vb a)]]⟩
def z21(Ft:K_):Nat->S->Option R_:=H.i P_ [r,r,l,(call 0 195),r,r,l,r,d,(lp Ft),r,r,l,d,r,r,l,r,d]
def t16(f:UInt32)(a:LB)(g:Int)(b:LU):S:=⟨[(1,.ptr 0 []),(5,vi g)],[.box 313 (.val (.vec 256 (.int .u32)) b)],[[(0,vu f),(1,vb a)]]⟩
def z16:Nat->S->Option R_:=H.i P_ [r,r,l,(call 0 195),r,r,l,r,d]
def x28(a:LB)(b:LU)(h:UInt32)(m:Int):Option R_:=H.e P_ [r,r,r,l,r,d] (t28 a b h m)
def x21(Ft:K_)(f:UInt32)(a:LB)(g:Int)(b:LU)(k:UInt32)(n:Int):Option R_:=H.e P_ [r,r,l,(call 0 195),r,r,l,r,d,(lp Ft),r,r,l,d,r,r,l,r,d] (t21 f a g b k n)
theorem i28(a:LB)(b:LU):∀(q:Nat) (h:UInt32) (m:Int),z28 q (t28 a b h m)=Na a b q h m:=
 ind (λ_ _=>by kernel_rfl) λq ih h m=>Eq.trans (b:=Yg Wh (λh m=>(z28 q) (t28 a b h m)) a b h m) C7 (by simp only[ih]<;>rfl)
theorem e28:x28=Xd:=by funext a b h m;exact Eq.trans C7 ((i28 a b Bi h m).trans (by rw[Am];rfl))
theorem i21(Ft:K_)(f:UInt32)(a:LB)(g:Int)(b:LU):∀(q:Nat) (k:UInt32) (n:Int),z21 Ft q (t21 f a g b k n)=Mo (λg b=>Ft (t16 f a g b)) f a g b q k n:=
 ind (λ_ _=>by kernel_rfl) λq ih k n=>Eq.trans (b:=Wc (Wp (λg b=>Ft (t16 f a g b)) f a) (λk n=>(z21 Ft q) (t21 f a g b k n)) f a g b k n) C7 (by simp only[ih]<;>rfl)
theorem e21(Ft:K_)(f:UInt32)(a:LB):x21 Ft f a=Vp (λg b=>Ft (t16 f a g b)) f a:=by funext g b k n;exact Eq.trans C7 ((i21 Ft f a g b Bi k n).trans (by rw[Am];rfl))
theorem i16(f:UInt32)(a:LB):∀(q:Nat) (g:Int) (b:LU),z16 q (t16 f a g b)=Ml f a q g b:=
 ind (λ_ _=>by kernel_rfl) λq ih g b=>Eq.trans (b:=Yh (x21 (z16 q) f a) (Wk (Wq x28)) f a g b) C7 (by simp only[e21,e28,ih]<;>rfl)
def k:Kc P_ gl:=⟨(143,⟨H.p,H.r,u2 RE⟩),co H func143 (λx=>Eq.trans (b:=u2 (AX (λf a g b=>z16 Bi (t16 f a g b))) x) C7 (by simp only[i16,Am]<;>rfl))⟩
end F143
namespace F84
def H:Hd:=⟨[Sb],[Su,Si],.d,kt [F143.k] false,[],f84⟩
def k:Kc P_ gl:=⟨(84,⟨H.p,H.r,Jn⟩),co H func84⟩
end F84
namespace F142
def H:Hd:=⟨[Sq,Si],[Sz],.d,kt [] false,[],f142⟩
def k:Kc P_ gl:=⟨(142,⟨H.p,H.r,u2 eP⟩),co H func142⟩
end F142
namespace F83
abbrev R_:=(LB×Int)
def H:Hd:=⟨[Sq,Si],[Ob 5,Si],(.seq .d (.seq .d (.seq .d (.seq .d (.cut [6] [] (.seq .d (.blk (.loop [0,6,21,22] [] .d))) .d))))),kt [F142.k] false,[],f83⟩
def t4(f:UInt64)(g:LB)(a:Int)(b:LB):S:=⟨[(0,vq f),(6,.own 0),(21,vi (Aa g)),(22,vi a)],[Ab 5 b],[]⟩
def z4:Nat->S->Option R_:=H.i P_ [r,r,r,r,l,r,d]
theorem i4(f:UInt64)(g:LB):∀(q:Nat) (a:Int) (b:LB),z4 q (t4 f g a b)=Xn f g q a b:=
 ind (λ_ _=>by kernel_rfl) λq ih a b=>Eq.trans (b:=IX IM (λa b=>(z4 q) (t4 f g a b)) f g a b) C7 (by simp only[ih]<;>rfl)
def k:Kc P_ gl:=⟨(83,⟨H.p,H.r,u2 Ex⟩),co H func83 (λx=>Eq.trans (b:=u2 (JD (λf g a b=>z4 Bi (t4 f g a b))) x) C7 (by simp only[i4,Am]<;>rfl))⟩
end F83
namespace F141
abbrev R_:=LB
def H:Hd:=⟨[.lf (.list (.list (.int .u8))) none],[Ob 5],(.seq .d (.seq .d (.cut [0,3] [] (.seq .d (.blk (.loop [0,3,9,10,11] [] .d))) (.cut [0,6] [⟨6,[],.own 5 (.int .u8)⟩] (.keep [0,3,6,23,24] true) (.cut [6] [] (.seq .d (.blk (.loop [6,25,26,27] [] .d))) .d))))),kt [] true,[(194,(.seq .d (.cut [0,1] [] .d .d)))],f141⟩
def t14(a:List LB)(g:Int)(f:LB):S:=⟨[(6,.own 0),(25,.val (.list (.list (.int .u8))) a),(26,vi (Aa a)),(27,vi g)],[Ab 5 f],[]⟩
def z14:Nat->S->Option R_:=H.i P_ [r,r,r,r,l,r,d]
def t9(a:List LB)(b h:Int):S:=⟨[(0,.val (.list (.list (.int .u8))) a),(3,vi b),(9,.val (.list (.list (.int .u8))) a),(10,vi (Aa a)),(11,vi h)],[],[]⟩
def z9:Nat->S->Option R_:=H.i P_ [r,r,l,r,d]
def x14(a:List LB)(g:Int)(f:LB):Option R_:=H.e P_ [r,r,r,r,l,r,d] (t14 a g f)
theorem i14(a:List LB):∀(q:Nat) (g:Int) (f:LB),z14 q (t14 a g f)=Dy a q g f:=
 ind (λ_ _=>by kernel_rfl) λq ih g f=>Eq.trans (b:=Gc Gb (λg f=>(z14 q) (t14 a g f)) a g f) C7 (by simp only[ih]<;>rfl)
theorem e14:x14=Ga:=by funext a g f;exact Eq.trans C7 ((i14 a Bi g f).trans (by rw[Am];rfl))
theorem i9(a:List LB):∀(q:Nat) (b h:Int),z9 q (t9 a b h)=Ef a q b h:=
 ind (λ_ _=>by kernel_rfl) λq ih b h=>Eq.trans (b:=Gl (Ge (Gh (Gd x14))) (λb h=>(z9 q) (t9 a b h)) a b h) C7 (by simp only[e14,ih]<;>rfl)
def k:Kc P_ gl:=⟨(141,⟨H.p,H.r,It⟩),co H func141 (λx=>Eq.trans (b:=Gt (λa b h=>z9 Bi (t9 a b h)) x) C7 (by simp only[i9,Am]<;>rfl))⟩
end F141
namespace F80
abbrev R_:=(LB×Int)
abbrev K_:=S->Option R_
def H:Hd:=⟨[.agg [Si,Si],.lf (.vec 16 (.int .i32)) none,Sw],[Ob 5,Si],(.seq .d (.seq .d (.seq .d (.seq .d (.seq .d (.cut [11] [] (.seq .d (.blk (.loop [3,10,11,30,31,32] [⟨11,[0],.own 5 (.int .u8)⟩] (.seq .d (.seq .d (.cut [3,10,11,30,31,32] [] (.blk (.seq .d (.seq .d (.seq .d (.seq .d (.keep [3,10,11,14,30,31,32,59] true)))))) .d)))))) .d)))))),kt [F83.k,F84.k,F137.k,F138.k,F139.k,F141.k] false,[(140,(.seq .d (.seq .d (.blk (.loop [0,3,7,8] [] (.seq .d (.seq .d (.seq (.blk (.seq .d (.cut [0,3,4,7,8] [] .d (.seq .d (.cut [0,3,7,8] [] .d .d))))) .d))))))))],f80⟩
def t44(b:LU)(a g h f:Int)(n:List (Int×Int×UInt64×UInt64×Unit))(m:LB)(o k:Int)(w:LB):S:=⟨[(0,.ptr 0 []),(3,.ptr 1 []),(7,vi h),(8,vi o)],[.box 113 (.agg [.own 7,vi k]),.box 113 (.agg [.own 6,vi h]),.box 63 (.agg [vi a,vi g]),.box 192 (.val (.vec 6 (.cons (.int .i64) (.cons (.int .i64) (.cons (.int .u64) (.cons (.int .u64) .nil))))) n),.box 113 (.agg [.own 6,vi h]),Av 134 b,Ab 5 m,Ab 5 w],[[(3,.ptr 2 []),(10,.ptr 3 []),(11,.ptr 0 []),(14,.ptr 4 []),(30,.own 5),(31,vi (Aa b)),(32,vi f),(59,.agg [.own 6,vi h])]]⟩
def z44(Ln:K_):Nat->S->Option R_:=H.i P_ [r,r,r,r,r,l,r,d,(lp Ln),r,r,l,d,r,r,r,r,(call 1 140),r,r,d]
def t27(b:LU)(a g f:Int)(u:List (Int×Int×UInt64×UInt64×Unit))(v:Int)(p:LB):S:=⟨[(3,.ptr 0 []),(10,.ptr 1 []),(11,.ptr 2 []),(30,.own 3),(31,vi (Aa b)),(32,vi f)],[.box 63 (.agg [vi a,vi g]),.box 192 (.val (.vec 6 (.cons (.int .i64) (.cons (.int .i64) (.cons (.int .u64) (.cons (.int .u64) .nil))))) u),.box 113 (.agg [.own 4,vi v]),Av 134 b,Ab 5 p],[]⟩
def z27:Nat->S->Option R_:=H.i P_ [r,r,r,r,r,l,r,d]
def x44(Ln:K_)(b:LU)(a g h f:Int)(n:List (Int×Int×UInt64×UInt64×Unit))(m:LB)(o k:Int)(w:LB):Option R_:=H.e P_ [r,r,r,r,r,l,r,d,(lp Ln),r,r,l,d,r,r,r,r,(call 1 140),r,r,d] (t44 b a g h f n m o k w)
theorem i44(Ln:K_)(b:LU)(a g h f:Int)(n:List (Int×Int×UInt64×UInt64×Unit))(m:LB):∀(q:Nat) (o k:Int) (w:LB),z44 Ln q (t44 b a g h f n m o k w)=Ij (λf u v p=>Ln (t27 b a g f u v p)) b a g h f n m q o k w:=
 ind (λ_ _ _=>by kernel_rfl) λq ih o k w=>Eq.trans (b:=Og (Mz (λo k w=>(z44 Ln q) (t44 b a g h f n m o k w)) h b f a g n m) (Oj (λf u v p=>Ln (t27 b a g f u v p)) b a g) b a g h f n m o k w) C7 (by simp only[ih]<;>rfl)
theorem e44(Ln:K_)(b:LU)(a g:Int):x44 Ln b a g=Nl (λf u v p=>Ln (t27 b a g f u v p)) b a g:=by funext h f n m o k w;exact Eq.trans C7 ((i44 Ln b a g h f n m Bi o k w).trans (by rw[Am];rfl))
theorem i27(b:LU)(a g:Int):∀(q:Nat) (f:Int) (u:List (Int×Int×UInt64×UInt64×Unit)) (v:Int) (p:LB),z27 q (t27 b a g f u v p)=Ii b a g q f u v p:=
 ind (λ_ _ _ _=>by kernel_rfl) λq ih f u v p=>Eq.trans (b:=Nq (x44 (z27 q) b a g) Nk b a g f u v p) C7 (by simp only[e44,ih]<;>rfl)
def k:Kc P_ gl:=⟨(80,⟨H.p,H.r,u4 Jf⟩),co H func80 (λx=>Eq.trans (b:=u4 (Pf (λb a g f u v p=>z27 Bi (t27 b a g f u v p))) x) C7 (by simp only[i27,Am]<;>rfl))⟩
end F80
theorem LM:ConOk Tryz.prog gl 37 Qd:=OM F52.k.2 F30.k.2 F117.k.2 F80.k.2 F81.k.2
namespace F115
abbrev R_:=Bool
def H:Hd:=⟨[.agg [Si,Si,Si,Si,Si]],[Sz],(.seq .d (.cut [1] [] .d .d)),kt [] false,[],f115⟩
def k:Kc P_ gl:=⟨(115,⟨H.p,H.r,u5 Pu⟩),co H func115⟩
end F115
namespace F116
def H:Hd:=⟨[.agg [Si,Si,Si,Si,Si]],[Sz],.d,kt [F158.k] false,[],f116⟩
def k:Kc P_ gl:=⟨(116,⟨H.p,H.r,u5 Ym⟩),co H func116⟩
end F116
namespace F82
def H:Hd:=⟨[.agg [Si,Si,Si,Si,Si]],[Si],.d,kt [F115.k,F116.k] false,[],f82⟩
def k:Kc P_ gl:=⟨(82,⟨H.p,H.r,u5 Sd⟩),co H func82⟩
end F82
namespace F38
abbrev R_:=(LB×Int)
def H:Hd:=⟨[.agg [Si,Si,Si,Si,Si]],[Ob 5,Si],(.seq .d (.seq .d (.seq .d (.cut [5] [] (.seq .d (.blk (.loop [5,31,32] [] .d))) .d)))),kt [F82.k,F83.k,F84.k] false,[],f38⟩
def t4(b f g h k m:Int)(a:LB):S:=⟨[(5,.own 0),(31,.val (.vec 5 (.int .i64)) ([b,f,g,h,k]:LI)),(32,vi m)],[Ab 5 a],[]⟩
def z4:Nat->S->Option R_:=H.i P_ [r,r,r,l,r,d]
theorem i4(b f g h k:Int):∀(q:Nat) (m:Int) (a:LB),z4 q (t4 b f g h k m a)=Le b f g h k q m a:=
 ind (λ_ _=>by kernel_rfl) λq ih m a=>Eq.trans (b:=Uq Us (λm a=>(z4 q) (t4 b f g h k m a)) b f g h k m a) C7 (by simp only[ih]<;>rfl)
def k:Kc P_ gl:=⟨(38,⟨H.p,H.r,u5 FC⟩),co H func38 (λx=>Eq.trans (b:=u5 (Uw (λb f g h k m a=>z4 Bi (t4 b f g h k m a))) x) C7 (by simp only[i4,Am]<;>rfl))⟩
end F38
namespace F85
def H:Hd:=⟨[Ss],[Sq,Si],.d,kt [F65.k] false,[],f85⟩
def k:Kc P_ gl:=⟨(85,⟨H.p,H.r,TS⟩),co H func85⟩
end F85
namespace F39
def H:Hd:=⟨[Ss],[Ob 5,Si],.d,kt [F83.k,F85.k] false,[],f39⟩
def k:Kc P_ gl:=⟨(39,⟨H.p,H.r,Tj⟩),co H func39⟩
end F39
namespace F86
abbrev R_:=Int
def H:Hd:=⟨[Sl],[Si],(.seq .d (.seq .d (.seq .d (.cut [] [] (.seq .d (.blk (.loop [3,14,15,16] [] .d))) .d)))),kt [] false,[],f86⟩
def t4(a:LI)(f b:Int):S:=⟨[(3,vi f),(14,vl a),(15,vi (Aa a)),(16,vi b)],[],[]⟩
def z4:Nat->S->Option R_:=H.i P_ [r,r,r,l,r,d]
theorem i4(a:LI):∀(q:Nat) (f b:Int),z4 q (t4 a f b)=Nc a q f b:=
 ind (λ_ _=>by kernel_rfl) λq ih f b=>Eq.trans (b:=Zd Zk (λf b=>(z4 q) (t4 a f b)) a f b) C7 (by simp only[ih]<;>rfl)
def k:Kc P_ gl:=⟨(86,⟨H.p,H.r,Ys⟩),co H func86 (λx=>Eq.trans (b:=Xy (λa f b=>z4 Bi (t4 a f b)) x) C7 (by simp only[i4,Am]<;>rfl))⟩
end F86
namespace F40
abbrev R_:=(LB×Int)
abbrev K_:=S->Option R_
def H:Hd:=⟨[Sl],[Ob 5,Si],(.seq .d (.seq .d (.seq .d (.seq .d (.cut [5,6] [] (.seq .d (.blk (.loop [5,6,17,18,19] [⟨5,[],.own 5 (.int .u8)⟩,⟨6,[0],.own 5 (.int .u8)⟩] (.seq .d (.seq .d (.cut [5,6,17,18,19] [] (.blk (.seq .d (.keep [5,6,8,17,18,19,23,24,25] true))) .d)))))) (.seq .d (.cut [5] [] (.keep [5,6,9,33,34,35] true) .d))))))),kt [F83.k,F84.k,F86.k] false,[(87,.d)],f40⟩
def t8(a:LI)(f:Int)(b:LB):S:=⟨[(5,.ptr 0 []),(6,.fn 87 [.ptr 0 []]),(17,vl a),(18,vi (Aa a)),(19,vi f)],[.box 22 (.own 1),Ab 5 b],[]⟩
def z8:Nat->S->Option R_:=H.i P_ [r,r,r,r,l,r,d]
theorem i8(a:LI):∀(q:Nat) (f:Int) (b:LB),z8 q (t8 a f b)=Mh a q f b:=
 ind (λ_ _=>by kernel_rfl) λq ih f b=>Eq.trans (b:=Zb (Ui (λf b=>(z8 q) (t8 a f b)) a) Uc a f b) C7 (by simp only[ih]<;>rfl)
def k:Kc P_ gl:=⟨(40,⟨H.p,H.r,JP⟩),co H func40 (λx=>Eq.trans (b:=Wj (λa f b=>z8 Bi (t8 a f b)) x) C7 (by simp only[i8,Am]<;>rfl))⟩
end F40
namespace F42
def H:Hd:=⟨[Sb],[Si],.d,kt [] false,[],f42⟩
def k:Kc P_ gl:=⟨(42,⟨H.p,H.r,AT⟩),co H func42⟩
end F42
namespace F43
abbrev R_:=LB
def H:Hd:=⟨[.lf (.list (.list (.int .u8))) none],[Ob 5],(.seq .d (.seq .d (.cut [3] [] (.seq .d (.blk (.loop [3,6,7,8] [⟨3,[],.own 5 (.int .u8)⟩] .d))) .d))),kt [] false,[],f43⟩
def t4(a:List LB)(f:Int)(b:LB):S:=⟨[(3,.own 0),(6,.val (.list (.list (.int .u8))) a),(7,vi (Aa a)),(8,vi f)],[Ab 5 b],[]⟩
def z4:Nat->S->Option R_:=H.i P_ [r,r,l,r,d]
theorem i4(a:List LB):∀(q:Nat) (f:Int) (b:LB),z4 q (t4 a f b)=Oe a q f b:=
 ind (λ_ _=>by kernel_rfl) λq ih f b=>Eq.trans (b:=Xo Yo (λf b=>(z4 q) (t4 a f b)) a f b) C7 (by simp only[ih]<;>rfl)
def k:Kc P_ gl:=⟨(43,⟨H.p,H.r,JR⟩),co H func43 (λx=>Eq.trans (b:=Wl (λa f b=>z4 Bi (t4 a f b)) x) C7 (by simp only[i4,Am]<;>rfl))⟩
end F43
namespace F15
abbrev R_:=(LB×Int)
abbrev K_:=S->Option R_
def H:Hd:=⟨[.agg [Si,Si,Si,Sw],Ss],[Ob 5,Si],(.seq .d (.seq .d (.seq .d (.seq .d (.seq .d (.seq .d (.seq .d (.seq .d (.cut [8,9,10] [⟨10,[],.own 5 (.int .u8)⟩] .d (.cut [7,8,9,10,11] [] (.keep [7,8,9,10,11,46,48,49,50,51] true) .d)))))))))),kt [F36.k,⟨(37,Qd),LM⟩,F38.k,F39.k,F40.k,F42.k,F43.k] false,[(41,(.seq .d (.seq .d (.cut [5] [] (.seq .d (.blk (.loop [1,5,11,12,13] [] (.seq .d (.seq .d (.cut [1,5,11,12,13] [] .d .d)))))) .d))))],f15⟩
def t9(a:List LB)(b f:LB)(g:Int)(h:LI):S:=⟨[(1,.fn 42 []),(5,.own 0),(11,.own 1),(12,vi (Aa a)),(13,vi g)],[Ai 3 h,.arr 22 (.list (.int .u8)) a,Ab 5 b,Ab 5 f],[[(8,.own 1),(9,.own 2),(10,.own 3)]]⟩
def z9:Nat->S->Option R_:=H.i P_ [r,r,r,r,r,r,r,r,r,l,(call 1 41),r,r,l,r,d]
theorem i9(a:List LB)(b f:LB):∀(q:Nat) (g:Int) (h:LI),z9 q (t9 a b f g h)=Nv a b f q g h:=
 ind (λ_ _=>by kernel_rfl) λq ih g h=>Eq.trans (b:=Xh (Uh (λg h=>(z9 q) (t9 a b f g h)) a b f) Ut a b f g h) C7 (by simp only[ih]<;>rfl)
def k:Kc P_ gl:=⟨(15,⟨H.p,H.r,u5 JN⟩),co H func15 (λx=>Eq.trans (b:=u5 (Wb (Vr (λa b f g h=>z9 Bi (t9 a b f g h)))) x) C7 (by simp only[i9,Am]<;>rfl))⟩
end F15
namespace F7
def H:Hd:=⟨[Ss],[Ob 5],.d,kt [F15.k,F26.k] false,[],f7⟩
def k:Kc P_ gl:=⟨(7,⟨H.p,H.r,Cl⟩),co H func7⟩
end F7
namespace F118
def H:Hd:=⟨[Sb,Sb],[Sz],.d,kt [] false,[],f118⟩
def k:Kc P_ gl:=⟨(118,⟨H.p,H.r,u2 Gs⟩),co H func118⟩
end F118
namespace F132
def H:Hd:=⟨[Sb,Sb],[Sz],.d,kt [F118.k] false,[],f132⟩
def k:Kc P_ gl:=⟨(132,⟨H.p,H.r,u2 Fp⟩),co H func132⟩
end F132
namespace F233
abbrev R_:=(Int×Int)
def H:Hd:=⟨[Sb],[Si,Si],(.seq .d (.seq .d (.seq .d (.cut [4] [] (.seq .d (.blk (.loop [4,10,11,12] [] .d))) .d)))),kt [] false,[],f233⟩
def t4(a:LB)(b f:Int):S:=⟨[(4,vi b),(10,vb a),(11,vi (Aa a)),(12,vi f)],[],[]⟩
def z4:Nat->S->Option R_:=H.i P_ [r,r,r,l,r,d]
theorem i4(a:LB):∀(q:Nat) (b f:Int),z4 q (t4 a b f)=Jm a q b f:=
 ind (λ_ _=>by kernel_rfl) λq ih b f=>Eq.trans (b:=Re Rr (λb f=>(z4 q) (t4 a b f)) a b f) C7 (by simp only[ih]<;>rfl)
def k:Kc P_ gl:=⟨(233,⟨H.p,H.r,AZ⟩),co H func233 (λx=>Eq.trans (b:=Rp (λa b f=>z4 Bi (t4 a b f)) x) C7 (by simp only[i4,Am]<;>rfl))⟩
end F233
namespace F211
def Ju(j5:LB->UInt8->UInt8->Option (Int×Int))(a:LB):Option (Int×Int):=
(Fp a ([(73:UInt8),(68:UInt8),(51:UInt8)]:LB)).bind λn=>
if(!n)then
some (0,6)
else
if(Ci (Aa a) 10)then
some (0,24)
else
(Ak a 3).bind λf=>
(Ak a 5).bind λb=>
(λo:Option (Int×Int)=>
(λp:Option (Int×Int)=>
both (
both (
bo (
j5 a f b)) [
o,
o]) [
vN (
bo (
j5 a f b)),
p,
p]) (
both (
o) [
bo (
j5 a f b),
both (
bo (
j5 a f b)) [
j5 a f b]])) (
both (
j5 a f b) [
bo (
j5 a f b)])
theorem AD: @Ju= @Lf:=by
  unfold Ju Lf
  try simp only[JS,Vi,Ye]
  all_goals
    repeat (refine funext λ_=>?_)
    repeat' first
      |with_reducible rfl
      |with_reducible refine Ht ?_ ?_
      |with_reducible refine Hm ?_ ?_ ?_
      |with_reducible refine Hv ?_ ?_ ?_ ?_
      |((with_reducible refine Kj ?_ ?_);focus (intro h;first|(subst h;rfl)|(simp only[h];rfl)|(simp[Cd,Aa,h];done)))
      |with_reducible refine Ka λx=>?_
      |with_reducible refine Qe (λ_=>?_) (λ_=>?_)
      |(refine En (λh=>by simp only[h,Kf,Du,Dq,ite_self]) (λx h=>?_);(try simp only[h,Du]))
      |(refine Fw (λh=>?_) (λh=>?_)<;>simp only[h,if_true,if_false,Bool.false_eq_true])
abbrev R_:=(Int×Int)
def H:Hd:=⟨[Sb],[Si,Si],(.seq .d (.seq .d (.seq .d (.cut [0,4,5] [] (.mode false) (.seq .d (.seq .d (.cut [0,5,6] [] (.cut [0,5,6,43] [] (.keep [0,5,6,7,8,31,32,33,34,35,36,37,38,39,40,41,42,43] true) .d) (.seq .d (.cut [0,5,6] [] .d .d))))))))),kt [F118.k,F132.k,F233.k] false,[(234,.d)],f211⟩
def x6(a:LB)(g:Int)(b:UInt8)(m:Bool):Option R_:=H.e P_ [r,r,r,r,r,r,l,r] ⟨[(0,vb a),(5,.ptr 0 []),(6,vi g),(43,vt m)],[.box 5 (vc b)],[]⟩
def x5(a:LB)(f b:UInt8):Option R_:=H.e P_ [r,r,r,r] ⟨[(0,vb a),(4,.ptr 0 []),(5,.ptr 1 [])],[.box 5 (vc f),.box 5 (vc b)],[]⟩
theorem e6:x6=Ua:=C7
theorem e5:x5=Uf:=Eq.trans (b:=Uu x6) C7 (by simp only[e6]<;>rfl)
def k:Kc P_ gl:=⟨(211,⟨H.p,H.r,DV⟩),co H func211 (λx=>Eq.trans (b:=Ju x5 x) C7 (by rw[AD];simp only[e5]<;>rfl))⟩
end F211
namespace F121
abbrev R_:=(UInt64×Int)
def H:Hd:=⟨[Sb],[Sq,Si],(.seq .d (.seq .d (.seq .d (.cut [4] [] (.seq .d (.blk (.loop [4,15,16,17] [] .d))) .d)))),kt [] false,[],f121⟩
def t4(a:LB)(f:UInt64)(b:Int):S:=⟨[(4,vq f),(15,vb a),(16,vi (Aa a)),(17,vi b)],[],[]⟩
def z4:Nat->S->Option R_:=H.i P_ [r,r,r,l,r,d]
theorem i4(a:LB):∀(q:Nat) (f:UInt64) (b:Int),z4 q (t4 a f b)=Vo a q f b:=
 ind (λ_ _=>by kernel_rfl) λq ih f b=>Eq.trans (b:=JB IV (λf b=>(z4 q) (t4 a f b)) a f b) C7 (by simp only[ih]<;>rfl)
def k:Kc P_ gl:=⟨(121,⟨H.p,H.r,ND⟩),co H func121 (λx=>Eq.trans (b:=JU (λa f b=>z4 Bi (t4 a f b)) x) C7 (by simp only[i4,Am]<;>rfl))⟩
end F121
namespace F114
def H:Hd:=⟨[Sb,Si,Si],[Sq,Si],.d,kt [F121.k] false,[],f114⟩
def k:Kc P_ gl:=⟨(114,⟨H.p,H.r,u3 QN⟩),co H func114⟩
end F114
namespace F47
abbrev R_:=LB
def H:Hd:=⟨[Si,Si,Sq],[Ob 5],(.seq .d (.seq .d (.cut [7] [] (.seq .d (.blk (.loop [7,20,21,22] [] .d))) .d))),kt [F83.k] false,[],f47⟩
def t4(a b:Int)(f:UInt64)(h:Int)(g:LB):S:=⟨[(7,.own 0),(20,.own 1),(21,vi (Aa ([(2000:UInt64),(Aj (Ad a (32:Int)):UInt64),(Aj b:UInt64),f,(0:UInt64),(0:UInt64)]:LQ))),(22,vi h)],[Ab 5 g,.arr 88 (.int .u64) ([(2000:UInt64),(Aj (Ad a (32:Int)):UInt64),(Aj b:UInt64),f,(0:UInt64),(0:UInt64)]:LQ)],[]⟩
def z4:Nat->S->Option R_:=H.i P_ [r,r,l,r,d]
theorem i4(a b:Int)(f:UInt64):∀(q:Nat) (h:Int) (g:LB),z4 q (t4 a b f h g)=DP a b f q h g:=
 ind (λ_ _=>by kernel_rfl) λq ih h g=>Eq.trans (b:=OT OO (λh g=>(z4 q) (t4 a b f h g)) a b f h g) C7 (by simp only[ih]<;>rfl)
def k:Kc P_ gl:=⟨(47,⟨H.p,H.r,u3 LA⟩),co H func47 (λx=>Eq.trans (b:=u3 (QU (λa b f h g=>z4 Bi (t4 a b f h g))) x) C7 (by simp only[i4,Am]<;>rfl))⟩
end F47
namespace F133
def H:Hd:=⟨[Sb,Sq],[.agg [Si,Si],Sz],.d,kt [F47.k,F114.k,F118.k] false,[],f133⟩
def k:Kc P_ gl:=⟨(133,⟨H.p,H.r,u2 Zr⟩),co H func133⟩
end F133
namespace F212
def H:Hd:=⟨[Sb],[Si,Si],.d,kt [F47.k,F118.k,F132.k,F133.k] false,[],f212⟩
def k:Kc P_ gl:=⟨(212,⟨H.p,H.r,TR⟩),co H func212⟩
end F212
namespace F168
def H:Hd:=⟨[Sb],[Si,Si],.d,kt [F211.k,F212.k] false,[],f168⟩
def k:Kc P_ gl:=⟨(168,⟨H.p,H.r,Jr⟩),co H func168⟩
end F168
theorem QV:ConOk Tryz.prog gl 60 Qv:=PZ ent60 F168.k.2
namespace F169
def H:Hd:=⟨[Ss,Ss],[Sz],.d,kt [] false,[],f169⟩
def k:Kc P_ gl:=⟨(169,⟨H.p,H.r,u2 Fa⟩),co H func169⟩
end F169
namespace F113
def H:Hd:=⟨[Ss,Ss],[Sz],.d,kt [F169.k] false,[],f113⟩
def k:Kc P_ gl:=⟨(113,⟨H.p,H.r,u2 Pd⟩),co H func113⟩
end F113
namespace F61
abbrev R_:=(Int×Int×Int×Int×Int×Int)
def H:Hd:=⟨[Sb],[.agg [Si,Si,Si,Si,Si],Si],(.seq .d (.seq .d (.seq .d (.seq .d (.seq .d (.seq .d (.seq .d (.cut [2,8] [] (.seq .d (.blk (.loop [0,2,8,9,44,45] [] .d))) .d)))))))),kt [F84.k,F113.k,F114.k,F115.k,F116.k] false,[],f61⟩
def t4(b:LB)(g f:Int)(a:LI):S:=⟨[(0,vb b),(2,.ptr 0 []),(8,.ptr 1 []),(9,vi g),(44,.val (.vec 5 (.int .i64)) ([(2:Int),(2:Int),(2:Int),(4:Int),(4:Int)]:LI)),(45,vi f)],[.box 54 (.agg [vi 0,vi 0,vi 0,vi 0,vi 0]),.box 132 (.val (.vec 5 (.int .i64)) a)],[]⟩
def z4:Nat->S->Option R_:=H.i P_ [r,r,r,r,r,r,r,l,r,d]
theorem i4(b:LB):∀(q:Nat) (g f:Int) (a:LI),z4 q (t4 b g f a)=Mk b q g f a:=
 ind (λ_ _ _=>by kernel_rfl) λq ih g f a=>Eq.trans (b:=Vx Vv (λg f a=>(z4 q) (t4 b g f a)) b g f a) C7 (by simp only[ih]<;>rfl)
def k:Kc P_ gl:=⟨(61,⟨H.p,H.r,IW⟩),co H func61 (λx=>Eq.trans (b:=Ya (λb g f a=>z4 Bi (t4 b g f a)) x) C7 (by simp only[i4,Am]<;>rfl))⟩
end F61
namespace F62
def H:Hd:=⟨[.agg [Si,Si,Si,Si,Si]],[Ol 3,Si],.d,kt [F82.k,F117.k] false,[],f62⟩
def k:Kc P_ gl:=⟨(62,⟨H.p,H.r,u5 AQ⟩),co H func62⟩
end F62
namespace F27
def H:Hd:=⟨[Sb],[.agg [.agg [Si,Si,Si,Si,Si],.agg [Si,Si,Si,Si,Si],Ol 3],Si],.d,kt [⟨(60,Qv),QV⟩,F61.k,F62.k] false,[],f27⟩
def k:Kc P_ gl:=⟨(27,⟨H.p,H.r,Kl⟩),co H func27⟩
end F27
namespace F63
abbrev R_:=(LI×Int)
def H:Hd:=⟨[Sb,Si],[Ol 3,Si],(.seq .d (.seq .d (.seq .d (.seq .d (.seq .d (.seq .d (.cut [10] [] (.seq .d (.blk (.loop [0,10,48,49] [] .d))) .d))))))),kt [F84.k,F86.k,F114.k] false,[],f63⟩
def t4(a:LB)(f:LI)(g:Int)(b:LI):S:=⟨[(0,vb a),(10,.own 0),(48,vi (Aa f)),(49,vi g)],[Ai 3 b],[]⟩
def z4:Nat->S->Option R_:=H.i P_ [r,r,r,r,r,r,l,r,d]
theorem i4(a:LB)(f:LI):∀(q:Nat) (g:Int) (b:LI),z4 q (t4 a f g b)=Qg a f q g b:=
 ind (λ_ _=>by kernel_rfl) λq ih g b=>Eq.trans (b:=AY AM (λg b=>(z4 q) (t4 a f g b)) a f g b) C7 (by simp only[ih]<;>rfl)
def k:Kc P_ gl:=⟨(63,⟨H.p,H.r,u2 CQ⟩),co H func63 (λx=>Eq.trans (b:=u2 (BS (λa f g b=>z4 Bi (t4 a f g b))) x) C7 (by simp only[i4,Am]<;>rfl))⟩
end F63
namespace F8
abbrev R_:=(Int×Int×Int×Int×Int×Int)
def H:Hd:=⟨[Sb],[.agg [Si,Si,Si,Si,Si],Si],(.seq .d (.seq .d (.seq .d (.cut [0,2,4] [] (.cut [0,2,4,7] [] (.keep [0,2,4,7,17,18,19,20,21] true) .d) .d)))),kt [F27.k,F63.k] false,[(28,(.seq .d (.seq .d (.cut [0,6,7] [] .d (.seq .d (.seq .d (.seq .d (.cut [6] [] (.seq .d (.blk (.loop [0,6,60,61,62] [] .d))) .d))))))))],f8⟩
def t8(k:LI)(a:LB)(m n o p u f g b:Int)(h:LI)(w v:Int):S:=⟨[(0,.ptr 0 []),(6,.own 1),(60,.own 1),(61,vi (Aa k)),(62,vi w)],[.box 57 (.agg [.agg [vi m,vi n,vi o,vi p,vi u],.agg [vi f,vi g,vi b,vi (Ad (Ad b (Db (4:Int) (Aa k))) (4:Int)),vi v],.own 3]),Ai 3 k,.box 25 (.agg [vi 0,vi 0,vi 0,vi 0,vi 0]),Ai 3 h],[[(0,vb a),(2,.ptr 2 []),(4,.ptr 0 []),(18,vb a)]]⟩
def z8:Nat->S->Option R_:=H.i P_ [r,r,r,l,l,(call 1 28),r,r,r,r,r,r,l,r,d]
theorem i8(k:LI)(a:LB)(m n o p u f g b:Int)(h:LI):∀(q:Nat) (w v:Int),z8 q (t8 k a m n o p u f g b h w v)=Mn k a m n o p u f g b h q w v:=
 ind (λ_ _=>by kernel_rfl) λq ih w v=>Eq.trans (b:=Vq Up (λw v=>(z8 q) (t8 k a m n o p u f g b h w v)) k a m n o p u f g b h w v) C7 (by simp only[ih]<;>rfl)
def k:Kc P_ gl:=⟨(8,⟨H.p,H.r,Cm⟩),co H func8 (λx=>Eq.trans (b:=Mx Fo (Yk Fo (λk a m n o p u f g b h w v=>z8 Bi (t8 k a m n o p u f g b h w v))) x) C7 (by simp only[i8,Am]<;>rfl))⟩
end F8
namespace F64
def H:Hd:=⟨[Sb,Ss],[Sz,Si],.d,kt [F39.k,F118.k] false,[],f64⟩
def k:Kc P_ gl:=⟨(64,⟨H.p,H.r,u2 FT⟩),co H func64⟩
end F64
namespace F68
def H:Hd:=⟨[Sb],[Sb,Si],.d,kt [F84.k,F121.k] false,[],f68⟩
def k:Kc P_ gl:=⟨(68,⟨H.p,H.r,Xf⟩),co H func68⟩
end F68
namespace F69
def H:Hd:=⟨[Sb],[.agg [Ob 5,Si],Si],.d,kt [F122.k] false,[],f69⟩
def k:Kc P_ gl:=⟨(69,⟨H.p,H.r,eR⟩),co H func69⟩
end F69
namespace F127
abbrev R_:=UInt64
def H:Hd:=⟨[.agg [Sb,Si],Si,Si],[Sq],(.seq .d (.seq .d (.cut [7] [] (.blk (.loop [1,2,3,7,8] [] .d)) .d))),kt [] false,[],f127⟩
def t4(b f:Int)(h:LB)(k:Int)(g:UInt64)(a:Int):S:=⟨[(1,vi b),(2,vi f),(3,.ptr 0 []),(7,vq g),(8,vi a)],[.box 113 (.agg [vb h,vi k])],[]⟩
def z4:Nat->S->Option R_:=H.i P_ [r,r,l,d]
theorem i4(b f:Int)(h:LB)(k:Int):∀(q:Nat) (g:UInt64) (a:Int),z4 q (t4 b f h k g a)=Xg b f h k q g a:=
 ind (λ_ _=>by kernel_rfl) λq ih g a=>Eq.trans (b:=JF JI (λg a=>(z4 q) (t4 b f h k g a)) b f h k g a) C7 (by simp only[ih]<;>rfl)
def k:Kc P_ gl:=⟨(127,⟨H.p,H.r,u4 QQ⟩),co H func127 (λx=>Eq.trans (b:=u4 (IJ (λb f h k g a=>z4 Bi (t4 b f h k g a))) x) C7 (by simp only[i4,Am]<;>rfl))⟩
end F127
namespace F124
abbrev R_:=(LB×Int×Int)
abbrev K_:=S->Option R_
def H:Hd:=⟨[.agg [Sb,Si],Si,Si],[.agg [Ob 5,Si],Si],(.seq .d (.seq .d (.seq .d (.seq .d (.cut [6,8] [] (.seq .d (.blk (.loop [2,3,6,8,9] [⟨8,[0],.own 5 (.int .u8)⟩] (.seq .d (.cut [2,3,6,8,9] [] (.blk (.seq .d (.keep [2,3,6,8,9,10,39,40,41,42,43] true))) .d))))) .d))))),kt [F126.k,F127.k] false,[(175,(.blk (.loop [0,1,2] [] (.seq .d (.blk (.cut [0,1,2] [] .d (.seq .d (.cut [0,1,2,7] [] .d .d))))))))],f124⟩
def t44(a:Int)(g:LB)(b f:Int)(m n:UInt64)(k h:Int)(u:LB):S:=⟨[(0,.ptr 0 []),(1,vq n),(2,vi k)],[.box 113 (.agg [.own 3,vi h]),.box 113 (.agg [vb g,vi b]),.box 113 (.agg [.nils,vi 0]),Ab 5 u],[[(2,vi a),(3,.ptr 1 []),(6,.ptr 2 []),(8,.ptr 0 []),(9,vi f),(10,vi (Ev (64:Int) (Ah a f))),(39,.agg [vb g,vi b]),(40,vi f),(41,vi (Ev (64:Int) (Ah a f))),(42,vq m),(43,vi (Ev (64:Int) (Ah a f)))]]⟩
def z44(Ln:K_):Nat->S->Option R_:=H.i P_ [r,r,r,r,l,r,d,(lp Ln),r,l,d,r,(call 5 175),d]
def t27(a:Int)(g:LB)(b f o:Int)(p:LB):S:=⟨[(2,vi a),(3,.ptr 0 []),(6,.ptr 1 []),(8,.ptr 2 []),(9,vi f)],[.box 113 (.agg [vb g,vi b]),.box 113 (.agg [.nils,vi 0]),.box 113 (.agg [.own 3,vi o]),Ab 5 p],[]⟩
def z27:Nat->S->Option R_:=H.i P_ [r,r,r,r,l,r,d]
def x44(Ln:K_)(a:Int)(g:LB)(b f:Int)(m n:UInt64)(k h:Int)(u:LB):Option R_:=H.e P_ [r,r,r,r,l,r,d,(lp Ln),r,l,d,r,(call 5 175),d] (t44 a g b f m n k h u)
theorem i44(Ln:K_)(a:Int)(g:LB)(b f:Int)(m:UInt64):∀(q:Nat) (n:UInt64) (k h:Int) (u:LB),z44 Ln q (t44 a g b f m n k h u)=So (λf o p=>Ln (t27 a g b f o p)) a g b f m q n k h u:=
 ind (λ_ _ _ _=>by kernel_rfl) λq ih n k h u=>Eq.trans (b:=EN (EY (λn k h u=>(z44 Ln q) (t44 a g b f m n k h u)) a f g b m) (DS (λf o p=>Ln (t27 a g b f o p)) a g b) a g b f m n k h u) C7 (by simp only[ih]<;>rfl)
theorem e44(Ln:K_)(a:Int)(g:LB)(b:Int):x44 Ln a g b=FQ (λf o p=>Ln (t27 a g b f o p)) a g b:=by funext f m n k h u;exact Eq.trans C7 ((i44 Ln a g b f m Bi n k h u).trans (by rw[Am];rfl))
theorem i27(a:Int)(g:LB)(b:Int):∀(q:Nat) (f o:Int) (p:LB),z27 q (t27 a g b f o p)=Sj a g b q f o p:=
 ind (λ_ _ _=>by kernel_rfl) λq ih f o p=>Eq.trans (b:=FN (x44 (z27 q) a g b) EH a g b f o p) C7 (by simp only[e44,ih]<;>rfl)
def k:Kc P_ gl:=⟨(124,⟨H.p,H.r,u4 PC⟩),co H func124 (λx=>Eq.trans (b:=u4 (JH (λa g b f o p=>z27 Bi (t27 a g b f o p))) x) C7 (by simp only[i27,Am]<;>rfl))⟩
end F124
namespace F71
def H:Hd:=⟨[.agg [Sb,Si],Si,Si],[Sq,Si],.d,kt [F126.k,F127.k] false,[],f71⟩
def k:Kc P_ gl:=⟨(71,⟨H.p,H.r,u4 Nr⟩),co H func71⟩
end F71
namespace F239
def H:Hd:=⟨[Sq],[Si],.d,kt [] false,[],f239⟩
def k:Kc P_ gl:=⟨(239,⟨H.p,H.r,Gx⟩),co H func239⟩
end F239
namespace F215
def Oq(j6:Int->UInt64->Int->LB->Int->Option (Int×Int×Int))(g:LB)(b a:Int):Option (Int×Int×Int):=
(Eg g b).bind λm=>
if(Bp m 0)then
some (0,0,m)
else
if(Ci a 0)then
some (0,0,2)
else
if(Hl a b)then
some (0,0,24)
else
(λn:Option (Int×Int×Int)=>
(λo:Option (Int×Int×Int)=>
vN (
o)) (
bo (
n))) (
(Nr g b a (Ev 48 (Ah b a))).bind λ(k,h)=>
j6 h k a g b)
theorem DX: @Oq= @Qn:=by
  unfold Oq Qn;simp only[JS,Vi,Ye]
abbrev R_:=(Int×Int×Int)
def H:Hd:=⟨[.agg [Sb,Si],Si],[Si,Si,Si],(.seq .d (.seq .d (.seq .d (.seq .d (.seq .d (.cut [3,5,6,8,9] [] (.keep [2,3,5,6,8,9,22,23,24,25,26,27,28,29] false) (.seq .d (.seq .d (.cut [] [] (.blk (.seq (.blk (.seq (.blk (.cut [] [] (.cut [3,4,5] [] (.cut [3,4,5,36] [] (.keep [3,4,5,8,36,37,38,39,40] true) .d) .d) .d)) .d)) .d)) .d))))))))),kt [F71.k,F126.k,F239.k] false,[(238,.d)],f215⟩
def k:Kc P_ gl:=⟨(215,⟨H.p,H.r,u3 PK⟩),co H func215 (λx=>Eq.trans (b:=u3 (Oq AU) x) C7 (by simp only[DX]<;>rfl))⟩
end F215
namespace F177
abbrev R_:=(UInt32×Int×Int)
def H:Hd:=⟨[.agg [Sb,Si],Si,Si],[Su,Si,Si],(.seq .d (.seq .d (.seq .d (.seq .d (.seq .d (.seq .d (.cut [2,3,7,10,11] [] .d .d))))))),kt [F71.k,F126.k,F215.k,F216.k] false,[],f177⟩
def k:Kc P_ gl:=⟨(177,⟨H.p,H.r,u4 TW⟩),co H func177⟩
end F177
namespace F125
abbrev R_:=(UInt32×Int×Int×Int×UInt64×UInt64×Int)
def H:Hd:=⟨[.agg [Sb,Si],Si,.agg [Si,Si,Sq,Sq]],[Su,Si,.agg [Si,Si,Sq,Sq],Si],(.seq .d (.cut [1,3,5,8] [] .d (.seq .d (.seq .d (.cut [5,6,7,8] [] .d (.cut [5,6,7,8] [] (.keep [5,6,7,8,81] true) .d)))))),kt [F71.k,F126.k,F176.k,F177.k,F191.k] false,[(178,(.seq .d (.seq .d (.seq .d (.blk (.cut [0,1,4] [] (.blk (.seq .d (.keep [0,1,4,6,18,19,20,21,22,23,24,25] true))) (.cut [] [] (.keep [0,1,4,27,28,29,30,31,32,33,34] true) .d))))))),(217,.d)],f125⟩
def x8(f:UInt32)(k a:Int)(b:UInt64)(m:Int)(n:UInt64):Option R_:=H.e P_ [r,r,r,r,r,l,(call 1 178),r,r,r,d,r] ⟨[(0,.ptr 0 []),(1,vu f),(4,.fn 217 [])],[.box 191 (.agg [vi a,vi m,vq b,vq n]),.box 191 (.agg [vi 0,vi 0,vq 0,vq 0])],[[(5,.ptr 0 []),(6,vu f),(7,vi k),(8,.ptr 1 []),(81,vu f)]]⟩
theorem e8:x8=FU:=C7
def k:Kc P_ gl:=⟨(125,⟨H.p,H.r,u7 Rh⟩),co H func125 (λx=>Eq.trans (b:=u7 (GF (ES (EI x8))) x) C7 (by simp only[e8]<;>rfl))⟩
end F125
namespace F70
def Hi(j21:Int->Int->Int->UInt32->Int-> (List (Int×Int×UInt64×UInt64×Unit))->LU->Int->Int->UInt64->UInt64->Option (LU×Int×Int))(j24:Int->LU->Option (LU×Int×Int))(a f:Int)(g:LB)(b k h:Int)(m:List (Int×Int×UInt64×UInt64×Unit))(n:LU):Option (LU×Int×Int):=
if(Ci h (Db f a))then
(PC g b k (Ev (Ad k 81) b)).bind λ(ag,ae,af)=>
if(Bp af 0)then
some (([]:LU),0,af)
else
(Dt (Bp a 0)).bind λ_=>
(Ak m (Gk h a)).bind λ_=>
(λai:Option (LU×Int×Int)=>
both (
both (
(Ak m (Gk h a)).bind λo=>
(λao:Option (LU×Int×Int)=>
bo (
ao)) (
(Rh ag ae 0 o.1 o.2.1 o.2.2.1 o.2.2.2.1).bind λ(w,v,aa,ab,ac,ad,y)=>
j21 k h y w v m n aa ab ac ad)) [
ai]) [
(Ak m (Gk h a)).bind λo=>
(λaj:Option (LU×Int×Int)=>
both (
bo (
aj)) [
aj]) (
(Rh ag ae 0 o.1 o.2.1 o.2.2.1 o.2.2.2.1).bind λ(w,v,aa,ab,ac,ad,y)=>
j21 k h y w v m n aa ab ac ad),
bo (
ai)]) (
(Ak m (Gk h a)).bind λo=>
(Rh ag ae 0 o.1 o.2.1 o.2.2.1 o.2.2.2.1).bind λ(w,v,aa,ab,ac,ad,y)=>
j21 k h y w v m n aa ab ac ad)
else
j24 k n
theorem Tv: @Hi= @Ik:=by
  unfold Hi Ik
  try simp only[JS,Vi,Ye]
  all_goals
    repeat (refine funext λ_=>?_)
    repeat' first
      |with_reducible rfl
      |with_reducible refine Ht ?_ ?_
      |with_reducible refine Hm ?_ ?_ ?_
      |with_reducible refine Hv ?_ ?_ ?_ ?_
      |((with_reducible refine Kj ?_ ?_);focus (intro h;first|(subst h;rfl)|(simp only[h];rfl)|(simp[Cd,Aa,h];done)))
      |with_reducible refine Ka λx=>?_
      |with_reducible refine Qe (λ_=>?_) (λ_=>?_)
      |(refine En (λh=>by simp only[h,Kf,Du,Dq,ite_self]) (λx h=>?_);(try simp only[h,Du]))
      |(refine Fw (λh=>?_) (λh=>?_)<;>simp only[h,if_true,if_false,Bool.false_eq_true])
abbrev R_:=(LU×Int×Int)
abbrev K_:=S->Option R_
def H:Hd:=⟨[Si,Si,.agg [Sb,Si]],[Ov 134,Si,Si],(.seq .d (.seq .d (.cut [0,1,5,9] [] (.seq .d (.blk (.loop [0,1,5,9,19] [] .d))) (.seq .d (.seq .d (.cut [11,12] [] (.seq .d (.blk (.loop [0,5,9,11,12,28,29] [⟨11,[],.own 134 (.int .u32)⟩] (.seq .d (.seq .d (.seq (.blk (.seq .d (.seq .d (.seq .d (.cut [0,5,9,11,12,13,15,16,17,18,28,29] [] (.mode false) (.seq .d (.cut [0,5,9,11,12,16,28,29] [] .d .d))))))) .d)))))) .d)))))),kt [F123.k,F124.k,F125.k] false,[],f70⟩
def t16(a f:Int)(g:LB)(b k h:Int)(m:List (Int×Int×UInt64×UInt64×Unit))(n:LU):S:=⟨[(0,vi a),(5,.ptr 0 []),(9,.ptr 1 []),(11,.own 2),(12,vi k),(28,vi (Db f a)),(29,vi h)],[.box 113 (.agg [vb g,vi b]),.box 192 (.val (.vec 6 (.cons (.int .i64) (.cons (.int .i64) (.cons (.int .u64) (.cons (.int .u64) .nil))))) m),Av 134 n],[]⟩
def z16:Nat->S->Option R_:=H.i P_ [r,r,r,r,r,l,r,d]
def t13(a f:Int)(g:LB)(b u:Int)(p:List (Int×Int×UInt64×UInt64×Unit)):S:=⟨[(0,vi a),(1,vi f),(5,.ptr 0 []),(9,.ptr 1 []),(19,vi u)],[.box 113 (.agg [vb g,vi b]),.box 192 (.val (.vec 6 (.cons (.int .i64) (.cons (.int .i64) (.cons (.int .u64) (.cons (.int .u64) .nil))))) p)],[]⟩
def z13:Nat->S->Option R_:=H.i P_ [r,r,l,r,d]
def x16(a f:Int)(g:LB)(b k h:Int)(m:List (Int×Int×UInt64×UInt64×Unit))(n:LU):Option R_:=H.e P_ [r,r,r,r,r,l,r,d] (t16 a f g b k h m n)
theorem i16(a f:Int)(g:LB)(b:Int):∀(q:Nat) (k h:Int) (m:List (Int×Int×UInt64×UInt64×Unit)) (n:LU),z16 q (t16 a f g b k h m n)=Ic a f g b q k h m n:=
 ind (λ_ _ _ _=>by kernel_rfl) λq ih k h m n=>Eq.trans (b:=Hi (Nh (λk h m n=>(z16 q) (t16 a f g b k h m n)) a f g b) Nw a f g b k h m n) C7 (by rw[Tv];simp only[ih]<;>rfl)
theorem e16:x16=Oi:=by funext a f g b k h m n;exact Eq.trans C7 ((i16 a f g b Bi k h m n).trans (by rw[Am];rfl))
theorem i13(a f:Int)(g:LB)(b:Int):∀(q:Nat) (u:Int) (p:List (Int×Int×UInt64×UInt64×Unit)),z13 q (t13 a f g b u p)=Ig a f g b q u p:=
 ind (λ_ _=>by kernel_rfl) λq ih u p=>Eq.trans (b:=Mq (Mj x16) (λu p=>(z13 q) (t13 a f g b u p)) a f g b u p) C7 (by simp only[e16,ih]<;>rfl)
def k:Kc P_ gl:=⟨(70,⟨H.p,H.r,u4 Xb⟩),co H func70 (λx=>Eq.trans (b:=u4 (Pn (λa f g b u p=>z13 Bi (t13 a f g b u p))) x) C7 (by simp only[i13,Am]<;>rfl))⟩
end F70
namespace F130
def H:Hd:=⟨[Su],[Sx],.d,kt [] false,[],f130⟩
def k:Kc P_ gl:=⟨(130,⟨H.p,H.r,Jy⟩),co H func130⟩
end F130
namespace F182
def H:Hd:=⟨[.agg [Si,.lf (.vec 16 (.int .i32)) none,.lf (.vec 16 (.int .i32)) none],Sx],[Sx,.agg [Si,.lf (.vec 16 (.int .i32)) none,.lf (.vec 16 (.int .i32)) none],Si],.d,kt [F220.k,F221.k] false,[],f182⟩
def k:Kc P_ gl:=⟨(182,⟨H.p,H.r,u4 RD⟩),co H func182⟩
end F182
namespace F129
def Ng(a:Int)(b:Int32)(f:Int)(g h:LX)(o:Int32):Option (Int32×Int×Int32×Int×LX×LX×Int):=
(Kq a b f g h).bind λk=>
if(Bp k 0)then
some (0,0,0,0,(List.replicate 16 (0:Int32)),(List.replicate 16 (0:Int32)),k)
else
(Ks a b).bind λ(m,y)=>
(RD f g h o).bind λ(n,p,u,v,w)=>
(λaa:Option (Int32×Int×Int32×Int×LX×LX×Int)=>
bo (
aa)) (
some ((Ad n m),a,(Ad n m),p,u,v,w))
theorem EP: @Ng= @Es:=by
  unfold Ng Es;simp only[JS,Vi,Ye]
def H:Hd:=⟨[.agg [Si,Sx,.agg [Si,.lf (.vec 16 (.int .i32)) none,.lf (.vec 16 (.int .i32)) none]],Sx],[Sx,.agg [Si,Sx,.agg [Si,.lf (.vec 16 (.int .i32)) none,.lf (.vec 16 (.int .i32)) none]],Si],(.seq .d (.seq .d (.seq .d (.seq .d (.seq (.mode false) .d))))),kt [F180.k,F181.k,F182.k] false,[],f129⟩
def k:Kc P_ gl:=⟨(129,⟨H.p,H.r,u6 Es⟩),co H func129 (λx=>Eq.trans (b:=u6 Ng x) C7 (by simp only[EP]<;>rfl))⟩
end F129
namespace F131
abbrev R_:=(LX×Int)
abbrev K_:=S->Option R_
def H:Hd:=⟨[Si,Sw],[Ow 21,Si],(.seq .d (.seq .d (.seq .d (.cut [7] [] (.seq .d (.blk (.loop [0,7,8] [] (.seq .d (.cut [0,7,8] [] (.blk (.keep [0,7,8,24,25,26,27,28,29] true)) .d))))) .d)))),kt [F183.k,F184.k] true,[(185,(.seq .d (.cut [0,2] [] .d (.seq .d (.blk (.loop [0,3] [] .d))))))],f131⟩
def t18(b a g:Int)(h:LX):S:=⟨[(0,.view true 0 [] (.int .i32) a ((Ad a b)-a)),(3,vi g)],[Aw 21 h],[[(0,vi b),(7,.own 0),(8,vi a),(24,.own 0),(25,vi a),(26,vi a),(27,vi b),(28,vi (Ad a b)),(29,.view true 0 [] (.int .i32) a ((Ad a b)-a))]]⟩
def z18(Lm:K_):Nat->S->Option R_:=H.i P_ [r,r,r,l,r,d,(lp Lm),r,l,d,(call 6 185),r,r,r,d]
def t12(b a:Int)(f:LX):S:=⟨[(0,vi b),(7,.own 0),(8,vi a)],[Aw 21 f],[]⟩
def z12:Nat->S->Option R_:=H.i P_ [r,r,r,l,r,d]
def x18(Lm:K_)(b a g:Int)(h:LX):Option R_:=H.e P_ [r,r,r,l,r,d,(lp Lm),r,l,d,(call 6 185),r,r,r,d] (t18 b a g h)
theorem i18(Lm:K_)(b a:Int):∀(q:Nat) (g:Int) (h:LX),z18 Lm q (t18 b a g h)=Tn (λa f=>Lm (t12 b a f)) b a q g h:=
 ind (λ_ _=>by kernel_rfl) λq ih g h=>Eq.trans (b:=EC (FF (λa f=>Lm (t12 b a f)) b) (λg h=>(z18 Lm q) (t18 b a g h)) b a g h) C7 (by simp only[ih]<;>rfl)
theorem e18(Lm:K_)(b:Int):x18 Lm b=EG (λa f=>Lm (t12 b a f)) b:=by funext a g h;exact Eq.trans C7 ((i18 Lm b a Bi g h).trans (by rw[Am];rfl))
theorem i12(b:Int):∀(q:Nat) (a:Int) (f:LX),z12 q (t12 b a f)=Ti b q a f:=
 ind (λ_ _=>by kernel_rfl) λq ih a f=>Eq.trans (b:=EE (DR (x18 (z12 q) b) b) EJ b a f) C7 (by simp only[e18,ih]<;>rfl)
def k:Kc P_ gl:=⟨(131,⟨H.p,H.r,u2 YU⟩),co H func131 (λx=>Eq.trans (b:=u2 (JT (λb a f=>z12 Bi (t12 b a f))) x) C7 (by simp only[i12,Am]<;>rfl))⟩
end F131
namespace F72
def Gn(j16:Int->Int32->Int-> (List (Int×Int32×(Int×LX×LX×Unit)×Unit))->LX->Int->Int32->Int->LX->LX->Option (LX×Int))(j18:Int->Int->LX->Option (LX×Int))(f:LU)(a b g:Int)(h:List (Int×Int32×(Int×LX×LX×Unit)×Unit))(k:LX):Option (LX×Int):=
if(Ci g (Aa f))then
(Ak f g).bind λag=>
(Dt (Bp a 0)).bind λ_=>
(Ak h (Gk g a)).bind λ_=>
both (
(Ak h (Gk g a)).bind λm=>
both (
(Jy ag).bind λae=>
(λao:Option (LX×Int)=>
bo (
ao)) (
(Es m.1 m.2.1 m.2.2.1.1 m.2.2.1.2.1 m.2.2.1.2.2.1 ae).bind λ(y,aa,w,ab,ac,ad,v)=>
j16 g y v h k aa w ab ac ad)) [
(Jy ag).bind λae=>
(Es m.1 m.2.1 m.2.2.1.1 m.2.2.1.2.1 m.2.2.1.2.2.1 ae).bind λ(y,aa,w,ab,ac,ad,v)=>
j16 g y v h k aa w ab ac ad]) [
(Jy ag).bind λaf=>
both (
(Ak h (Gk g a)).bind λu=>
(λap:Option (LX×Int)=>
bo (
ap)) (
(Es u.1 u.2.1 u.2.2.1.1 u.2.2.1.2.1 u.2.2.1.2.2.1 af).bind λ(y,aa,w,ab,ac,ad,v)=>
j16 g y v h k aa w ab ac ad)) [
(Ak h (Gk g a)).bind λu=>
(Es u.1 u.2.1 u.2.2.1.1 u.2.2.1.2.1 u.2.2.1.2.2.1 af).bind λ(y,aa,w,ab,ac,ad,v)=>
j16 g y v h k aa w ab ac ad],
both (
(Ak h (Gk g a)).bind λm=>
(Jy ag).bind λae=>
(Es m.1 m.2.1 m.2.2.1.1 m.2.2.1.2.1 m.2.2.1.2.2.1 ae).bind λ(y,aa,w,ab,ac,ad,v)=>
j16 g y v h k aa w ab ac ad) [
(Jy ag).bind λaf=>
(Ak h (Gk g a)).bind λu=>
(Es u.1 u.2.1 u.2.2.1.1 u.2.2.1.2.1 u.2.2.1.2.2.1 af).bind λ(y,aa,w,ab,ac,ad,v)=>
j16 g y v h k aa w ab ac ad]]
else
j18 a b k
theorem Qz: @Gn= @Hg:=by
  unfold Gn Hg
  try simp only[JS,Vi,Ye]
  all_goals
    repeat (refine funext λ_=>?_)
    repeat' first
      |with_reducible rfl
      |with_reducible refine Ht ?_ ?_
      |with_reducible refine Hm ?_ ?_ ?_
      |with_reducible refine Hv ?_ ?_ ?_ ?_
      |((with_reducible refine Kj ?_ ?_);focus (intro h;first|(subst h;rfl)|(simp only[h];rfl)|(simp[Cd,Aa,h];done)))
      |with_reducible refine Ka λx=>?_
      |with_reducible refine Qe (λ_=>?_) (λ_=>?_)
      |(refine En (λh=>by simp only[h,Kf,Du,Dq,ite_self]) (λx h=>?_);(try simp only[h,Du]))
      |(refine Fw (λh=>?_) (λh=>?_)<;>simp only[h,if_true,if_false,Bool.false_eq_true])
abbrev R_:=(LX×Int)
abbrev K_:=S->Option R_
def H:Hd:=⟨[.agg [Si,Si],.lf (.vec 16 (.int .i32)) none,Sv],[Ow 21,Si],(.seq .d (.seq .d (.cut [2,3,8] [] (.seq .d (.blk (.loop [2,3,4,8,20] [] .d))) (.seq .d (.cut [3,10] [] (.seq .d (.blk (.loop [3,8,10,33,34,35] [⟨10,[],.own 21 (.int .i32)⟩] (.seq .d (.seq .d (.seq (.blk (.seq .d (.seq .d (.cut [3,8,10,13,14,15,16,33,34,35] [] (.mode false) .d)))) .d)))))) .d))))),kt [F100.k,F128.k,F129.k,F130.k,F131.k] false,[],f72⟩
def t13(f:LU)(a b g:Int)(h:List (Int×Int32×(Int×LX×LX×Unit)×Unit))(k:LX):S:=⟨[(3,.ptr 0 []),(8,.ptr 1 []),(10,.own 2),(33,vv f),(34,vi (Aa f)),(35,vi g)],[.box 63 (.agg [vi a,vi b]),.box 203 (.val (.vec 6 (.cons (.int .i64) (.cons (.int .i32) (.cons (.cons (.int .i64) (.cons (.vec 16 (.int .i32)) (.cons (.vec 16 (.int .i32)) .nil))) .nil)))) h),Aw 21 k],[]⟩
def z13:Nat->S->Option R_:=H.i P_ [r,r,r,r,l,r,d]
def t10(f:LU)(a b:Int)(o:LX)(p:Int)(n:List (Int×Int32×(Int×LX×LX×Unit)×Unit)):S:=⟨[(2,vv f),(3,.ptr 0 []),(4,.ptr 1 []),(8,.ptr 2 []),(20,vi p)],[.box 63 (.agg [vi a,vi b]),.box 64 (.val (.vec 16 (.int .i32)) o),.box 203 (.val (.vec 6 (.cons (.int .i64) (.cons (.int .i32) (.cons (.cons (.int .i64) (.cons (.vec 16 (.int .i32)) (.cons (.vec 16 (.int .i32)) .nil))) .nil)))) n)],[]⟩
def z10:Nat->S->Option R_:=H.i P_ [r,r,l,r,d]
def x13(f:LU)(a b g:Int)(h:List (Int×Int32×(Int×LX×LX×Unit)×Unit))(k:LX):Option R_:=H.e P_ [r,r,r,r,l,r,d] (t13 f a b g h k)
theorem i13(f:LU)(a b:Int):∀(q:Nat) (g:Int) (h:List (Int×Int32×(Int×LX×LX×Unit)×Unit)) (k:LX),z13 q (t13 f a b g h k)=Hh f a b q g h k:=
 ind (λ_ _ _=>by kernel_rfl) λq ih g h k=>Eq.trans (b:=Gn (Lq (λg h k=>(z13 q) (t13 f a b g h k)) a f b) Lo f a b g h k) C7 (by rw[Qz];simp only[ih]<;>rfl)
theorem e13:x13=Lt:=by funext f a b g h k;exact Eq.trans C7 ((i13 f a b Bi g h k).trans (by rw[Am];rfl))
theorem i10(f:LU)(a b:Int)(o:LX):∀(q:Nat) (p:Int) (n:List (Int×Int32×(Int×LX×LX×Unit)×Unit)),z10 q (t10 f a b o p n)=Hk f a b o q p n:=
 ind (λ_ _=>by kernel_rfl) λq ih p n=>Eq.trans (b:=Ls (Lr x13) (λp n=>(z10 q) (t10 f a b o p n)) f a b o p n) C7 (by simp only[e13,ih]<;>rfl)
def k:Kc P_ gl:=⟨(72,⟨H.p,H.r,u4 Ug⟩),co H func72 (λx=>Eq.trans (b:=u4 (Of (λf a b o p n=>z10 Bi (t10 f a b o p n))) x) C7 (by simp only[i10,Am]<;>rfl))⟩
end F72
namespace F31
def H:Hd:=⟨[.agg [Si,Si],.lf (.vec 16 (.int .i32)) none,Si,Sb],[Ow 21,Si],.d,kt [F67.k,F68.k,F69.k,F70.k,F71.k,F72.k] false,[],f31⟩
def k:Kc P_ gl:=⟨(31,⟨H.p,H.r,u5 Vj⟩),co H func31⟩
end F31
namespace F74
abbrev R_:=(Int×Int)
def H:Hd:=⟨[Sb],[Si,Si],(.seq .d (.seq .d (.cut [0,4] [] .d .d))),kt [F47.k,F118.k,F132.k,F133.k] false,[],f74⟩
def k:Kc P_ gl:=⟨(74,⟨H.p,H.r,YM⟩),co H func74⟩
end F74
namespace F32
abbrev R_:=(Int×Int)
abbrev K_:=S->Option R_
def H:Hd:=⟨[Sb],[Si,Si],(.seq .d (.seq .d (.seq .d (.seq .d (.cut [5] [] (.blk (.loop [1,4,5] [] (.seq .d (.cut [1,4,5] [] (.blk (.cut [1,4,5,6] [] (.keep [1,4,5,6,16,17] true) .d)) .d)))) .d))))),kt [F74.k] false,[(73,.d)],f32⟩
def t8(a:Int)(b:LB):S:=⟨[(1,.ptr 0 []),(4,.fn 73 [.ptr 0 []]),(5,vi a)],[.box 22 (vb b)],[]⟩
def z8:Nat->S->Option R_:=H.i P_ [r,r,r,r,l,d]
theorem i8:∀(q:Nat) (a:Int) (b:LB),z8 q (t8 a b)=Lc q a b:=
 ind (λ_ _=>by kernel_rfl) λq ih a b=>Eq.trans (b:=Ur (Ri (λa b=>(z8 q) (t8 a b))) Ru a b) C7 (by simp only[ih]<;>rfl)
def k:Kc P_ gl:=⟨(32,⟨H.p,H.r,EK⟩),co H func32 (λx=>Eq.trans (b:=Un (λa b=>z8 Bi (t8 a b)) x) C7 (by simp only[i8,Am]<;>rfl))⟩
end F32
namespace F12
abbrev R_:=(Int×Int×Int×LX×Int)
abbrev K_:=S->Option R_
def H:Hd:=⟨[Sb,Ss],[.agg [Si,Si,Si,Ow 21],Si],(.seq .d (.seq .d (.seq .d (.seq .d (.cut [0,1,4,6] [] (.cut [0,1,4,6,8] [] (.keep [0,1,4,6,8,34,35,36] true) .d) (.cut [0,1,4,6,7,9] [⟨9,[],.own 3 (.int .i64)⟩] (.keep [0,1,4,6,7,9,41,42,43,44,45] true) (.seq .d (.seq .d (.seq .d (.seq .d (.seq .d (.cut [0,4,10,14] [] (.seq .d (.blk (.loop [0,4,6,10,11,12,14,75,76,77] [⟨10,[3],.own 21 (.int .i32)⟩] (.seq .d (.seq .d (.seq (.blk (.seq .d (.seq .d (.cut [0,4,6,10,11,12,14,16,17,18,75,76,77] [] .d .d)))) .d)))))) .d)))))))))))),kt [F27.k,F30.k,F31.k,F32.k,F63.k,F64.k] false,[(28,(.seq .d (.seq .d (.cut [0,6,7] [] .d (.seq .d (.seq .d (.seq .d (.cut [6] [] (.seq .d (.blk (.loop [0,6,60,61,62] [] .d))) .d)))))))),(29,.d)],f12⟩
def t21(a:LB)(w:LI)(m f g h o p n b ab ae:Int)(ac:LX)(k:LI)(y aa:Int)(ad:LX):S:=⟨[(0,vb a),(4,.ptr 0 []),(6,.ptr 1 []),(10,.ptr 2 []),(11,.ptr 3 []),(12,.ptr 4 []),(14,vi y),(75,.own 5),(76,vi (Aa w)),(77,vi aa)],[.box 34 (.agg [vi 0,vi 0,vi 0,.nils]),.box 57 (.agg [.agg [vi m,vi f,vi g,vi h,vi o],.agg [vi p,vi n,vi b,vi ab,vi ae],.own 6]),.box 34 (.agg [vi f,vi g,vi h,.own 7]),.box 63 (.agg [vi f,vi g]),.box 64 (.val (.vec 16 (.int .i32)) ac),Ai 3 w,Ai 3 k,Aw 21 ad],[]⟩
def z21:Nat->S->Option R_:=H.i P_ [r,r,r,r,r,r,r,r,r,r,r,l,r,d]
def t17(v:LI)(a u:LB)(m f g h o p n b:Int)(k:LI)(ag af:Int):S:=⟨[(0,.ptr 0 []),(6,.own 1),(60,.own 1),(61,vi (Aa v)),(62,vi ag)],[.box 57 (.agg [.agg [vi m,vi f,vi g,vi h,vi o],.agg [vi p,vi n,vi b,vi (Ad (Ad b (Db (4:Int) (Aa v))) (4:Int)),vi af],.own 3]),Ai 3 v,.box 34 (.agg [vi 0,vi 0,vi 0,.nils]),Ai 3 k],[[(0,vb a),(1,vs u),(4,.ptr 2 []),(6,.ptr 0 []),(42,vb a)]]⟩
def z17:Nat->S->Option R_:=H.i P_ [r,r,r,r,r,l,(call 1 28),r,r,r,r,r,r,l,r,d]
def x21(a:LB)(w:LI)(m f g h o p n b ab ae:Int)(ac:LX)(k:LI)(y aa:Int)(ad:LX):Option R_:=H.e P_ [r,r,r,r,r,r,r,r,r,r,r,l,r,d] (t21 a w m f g h o p n b ab ae ac k y aa ad)
def x14(a u:LB)(m f g h o p n b ah ai:Int)(k:LI)(am:Int):Option R_:=H.e P_ [r,r,r,r,l,r] ⟨[(0,vb a),(1,vs u),(4,.ptr 0 []),(6,.ptr 1 []),(8,vi am)],[.box 34 (.agg [vi 0,vi 0,vi 0,.nils]),.box 57 (.agg [.agg [vi m,vi f,vi g,vi h,vi o],.agg [vi p,vi n,vi b,vi ah,vi ai],.own 2]),Ai 3 k],[]⟩
theorem i21(a:LB)(w:LI)(m f g h o p n b ab ae:Int)(ac:LX)(k:LI):∀(q:Nat) (y aa:Int) (ad:LX),z21 q (t21 a w m f g h o p n b ab ae ac k y aa ad)=Mv a w m f g h o p n b ab ae ac k q y aa ad:=
 ind (λ_ _ _=>by kernel_rfl) λq ih y aa ad=>Eq.trans (b:=Xs (Wr (λy aa ad=>(z21 q) (t21 a w m f g h o p n b ab ae ac k y aa ad)) a w m f g h o p n b ab ae ac k) Ww a w m f g h o p n b ab ae ac k y aa ad) C7 (by simp only[ih]<;>rfl)
theorem e21:x21=Wu:=by funext a w m f g h o p n b ab ae ac k y aa ad;exact Eq.trans C7 ((i21 a w m f g h o p n b ab ae ac k Bi y aa ad).trans (by rw[Am];rfl))
theorem i17(v:LI)(a u:LB)(m f g h o p n b:Int)(k:LI):∀(q:Nat) (ag af:Int),z17 q (t17 v a u m f g h o p n b k ag af)=Mm v a u m f g h o p n b k q ag af:=
 ind (λ_ _=>by kernel_rfl) λq ih ag af=>Eq.trans (b:=Wv (Vy (Ja x21)) (λag af=>(z17 q) (t17 v a u m f g h o p n b k ag af)) v a u m f g h o p n b k ag af) C7 (by simp only[e21,ih]<;>rfl)
theorem e14:x14=Wd:=Eq.trans (b:=Xl (Xj (Ja x21) (Vw (Ja x21) (λv a u m f g h o p n b k ag af=>z17 Bi (t17 v a u m f g h o p n b k ag af))))) C7 (by simp only[e21,i17,Am]<;>rfl)
def k:Kc P_ gl:=⟨(12,⟨H.p,H.r,u2 Jw⟩),co H func12 (λx=>Eq.trans (b:=u2 (Pz x14) x) C7 (by simp only[e14]<;>rfl))⟩
end F12
namespace F159
def H:Hd:=⟨[.agg [Si,Si,Si]],[Si],.d,kt [] false,[],f159⟩
def k:Kc P_ gl:=⟨(159,⟨H.p,H.r,u3 Zf⟩),co H func159⟩
end F159
namespace F101
def H:Hd:=⟨[.agg [Si,Si,Si]],[Sz,Si],.d,kt [F159.k] false,[],f101⟩
def k:Kc P_ gl:=⟨(101,⟨H.p,H.r,u3 BE⟩),co H func101⟩
end F101
namespace F102
abbrev R_:=LB
def H:Hd:=⟨[.agg [Si,Si,Si],Sz,Sq],[Ob 5],(.seq .d (.seq .d (.seq .d (.seq .d (.cut [1,8,9] [] .d (.seq .d (.cut [1,10] [] (.seq .d (.blk (.loop [1,8,10,44,45] [⟨10,[],.own 5 (.int .u8)⟩] .d))) .d))))))),kt [F83.k] false,[],f102⟩
def t6(a:Bool)(h:Int)(f:LQ)(g:Int)(b:LB):S:=⟨[(1,vt a),(8,.ptr 0 []),(10,.own 1),(44,vi h),(45,vi g)],[.box 248 (.val (.vec 9 (.int .u64)) f),Ab 5 b],[]⟩
def z6:Nat->S->Option R_:=H.i P_ [r,r,r,r,r,r,l,r,d]
theorem i6(a:Bool)(h:Int)(f:LQ):∀(q:Nat) (g:Int) (b:LB),z6 q (t6 a h f g b)=Js a h f q g b:=
 ind (λ_ _=>by kernel_rfl) λq ih g b=>Eq.trans (b:=Qy Ro (λg b=>(z6 q) (t6 a h f g b)) a h f g b) C7 (by simp only[ih]<;>rfl)
def k:Kc P_ gl:=⟨(102,⟨H.p,H.r,u5 BO⟩),co H func102 (λx=>Eq.trans (b:=u5 (Ra (Rq (λa h f g b=>z6 Bi (t6 a h f g b)))) x) C7 (by simp only[i6,Am]<;>rfl))⟩
end F102
namespace F53
def H:Hd:=⟨[.agg [Si,Si,Si]],[Ob 5,Si],.d,kt [F101.k,F102.k] false,[],f53⟩
def k:Kc P_ gl:=⟨(53,⟨H.p,H.r,u3 Zg⟩),co H func53⟩
end F53
namespace F54
abbrev R_:=(LB×Int)
abbrev K_:=S->Option R_
def H:Hd:=⟨[Si,Sw],[Ob 5,Si],(.seq .d (.seq .d (.seq .d (.cut [7] [] (.seq .d (.blk (.loop [0,7,17,18,19] [⟨7,[],.own 5 (.int .u8)⟩] (.seq .d (.seq .d (.cut [0,7,17,18,19] [] (.blk (.seq .d (.cut [0,7,9,17,18,19] [] .d (.seq .d (.blk (.loop [0,7,9,17,18,19,28,29] [] .d)))))) .d)))))) .d)))),kt [F100.k] false,[],f54⟩
def t26(b:Int)(a:LX)(k:Int32)(f m:Int)(h:LB):S:=⟨[(0,vi b),(7,.own 0),(9,vx k),(17,vw a),(18,vi (Aa a)),(19,vi f),(28,vi (Iu b (8:Int))),(29,vi m)],[Ab 5 h],[]⟩
def z26(Ft:K_):Nat->S->Option R_:=H.i P_ [r,r,r,l,r,d,(lp Ft),r,r,l,d,r,r,r,d]
def t16(b:Int)(a:LX)(f:Int)(g:LB):S:=⟨[(0,vi b),(7,.own 0),(17,vw a),(18,vi (Aa a)),(19,vi f)],[Ab 5 g],[]⟩
def z16:Nat->S->Option R_:=H.i P_ [r,r,r,l,r,d]
def x26(Ft:K_)(b:Int)(a:LX)(k:Int32)(f m:Int)(h:LB):Option R_:=H.e P_ [r,r,r,l,r,d,(lp Ft),r,r,l,d,r,r,r,d] (t26 b a k f m h)
theorem i26(Ft:K_)(b:Int)(a:LX)(k:Int32)(f:Int):∀(q:Nat) (m:Int) (h:LB),z26 Ft q (t26 b a k f m h)=Lj (λf g=>Ft (t16 b a f g)) b a k f q m h:=
 ind (λ_ _=>by kernel_rfl) λq ih m h=>Eq.trans (b:=Ue (Uk (λf g=>Ft (t16 b a f g)) b a) (λm h=>(z26 Ft q) (t26 b a k f m h)) b a k f m h) C7 (by simp only[ih]<;>rfl)
theorem e26(Ft:K_)(b:Int)(a:LX):x26 Ft b a=Ux (λf g=>Ft (t16 b a f g)) b a:=by funext k f m h;exact Eq.trans C7 ((i26 Ft b a k f Bi m h).trans (by rw[Am];rfl))
theorem i16(b:Int)(a:LX):∀(q:Nat) (f:Int) (g:LB),z16 q (t16 b a f g)=Lk b a q f g:=
 ind (λ_ _=>by kernel_rfl) λq ih f g=>Eq.trans (b:=Uo (Tz (x26 (z16 q) b a) b a) Uv b a f g) C7 (by simp only[e26,ih]<;>rfl)
def k:Kc P_ gl:=⟨(54,⟨H.p,H.r,u2 JO⟩),co H func54 (λx=>Eq.trans (b:=u2 (Xt (λb a f g=>z16 Bi (t16 b a f g))) x) C7 (by simp only[i16,Am]<;>rfl))⟩
end F54
namespace F160
abbrev R_:=Bool
def H:Hd:=⟨[Ss],[Sz],(.seq .d (.cut [0] [] (.seq .d (.blk (.loop [0,6,7,8] [] .d))) .d)),kt [] false,[],f160⟩
def t4(a:LB)(b:Int):S:=⟨[(0,vs a),(6,.own 0),(7,vi (Aa a)),(8,vi b)],[Ab 5 a],[]⟩
def z4:Nat->S->Option R_:=H.i P_ [r,l,r,d]
theorem i4(a:LB):∀(q:Nat) (b:Int),z4 q (t4 a b)=Nu a q b:=
 ind (λ_=>by kernel_rfl) λq ih b=>Eq.trans (b:=Xk Yf (λb=>(z4 q) (t4 a b)) a b) C7 (by simp only[ih]<;>rfl)
def k:Kc P_ gl:=⟨(160,⟨H.p,H.r,Vz⟩),co H func160 (λx=>Eq.trans (b:=Yr (λa b=>z4 Bi (t4 a b)) x) C7 (by simp only[i4,Am]<;>rfl))⟩
end F160
namespace F107
abbrev R_:=Int
def H:Hd:=⟨[.lf (.list (.cons .str (.cons (.list (.int .u8)) .nil))) none],[Si],(.seq .d (.seq .d (.cut [3] [] (.seq .d (.blk (.loop [3,6,7,8] [] .d))) .d))),kt [] false,[],f107⟩
def t4(a:List (LB×LB×Unit))(b f:Int):S:=⟨[(3,vi b),(6,.val (.list (.cons .str (.cons (.list (.int .u8)) .nil))) a),(7,vi (Aa a)),(8,vi f)],[],[]⟩
def z4:Nat->S->Option R_:=H.i P_ [r,r,l,r,d]
theorem i4(a:List (LB×LB×Unit)):∀(q:Nat) (b f:Int),z4 q (t4 a b f)=Sn a q b f:=
 ind (λ_ _=>by kernel_rfl) λq ih b f=>Eq.trans (b:=FA EV (λb f=>(z4 q) (t4 a b f)) a b f) C7 (by simp only[ih]<;>rfl)
def k:Kc P_ gl:=⟨(107,⟨H.p,H.r,Rb⟩),co H func107 (λx=>Eq.trans (b:=FB (λa b f=>z4 Bi (t4 a b f)) x) C7 (by simp only[i4,Am]<;>rfl))⟩
end F107
namespace F162
def H:Hd:=⟨[.agg [Ss,Sb]],[Sz],.d,kt [F160.k] false,[],f162⟩
def k:Kc P_ gl:=⟨(162,⟨H.p,H.r,u2 Td⟩),co H func162⟩
end F162
namespace F103
abbrev R_:=Int
abbrev K_:=S->Option R_
def H:Hd:=⟨[Ss,.lf (.list (.cons .str (.cons (.list (.int .u8)) .nil))) none],[Si],(.seq .d (.seq .d (.cut [] [] (.cut [20] [] (.keep [17,19,20] true) .d) .d))),kt [F107.k,F160.k,F162.k] false,[(161,(.seq .d (.cut [4] [] (.keep [4,7,8] true) .d))),(206,(.seq .d (.cut [] [] (.seq .d (.blk (.loop [0,1,7,8] [] (.seq .d (.seq .d (.cut [0,1,7,8] [] (.blk (.seq .d (.cut [0,1,5,7,8,16] [] .d .d))) .d)))))) .d)))],f103⟩
def t19(a:List (LB×LB×Unit))(b:Int):S:=⟨[(0,.val (.list (.cons .str (.cons (.list (.int .u8)) .nil))) a),(1,.fn 162 []),(7,vi (Aa a)),(8,vi b)],[],[[(4,vt false)],[(17,.cst (.bool false))]]⟩
def z19:Nat->S->Option R_:=H.i P_ [r,r,l,l,(call 11 161),r,l,(call 2 206),r,l,r,d]
def t27(a:List (LB×LB×Unit))(f:Int):S:=⟨[(0,.val (.list (.cons .str (.cons (.list (.int .u8)) .nil))) a),(1,.fn 162 []),(7,vi (Aa a)),(8,vi f)],[],[[(4,vt false)],[(17,.cst (.bool false))]]⟩
def z27:Nat->S->Option R_:=H.i P_ [r,r,l,l,(call 11 161),r,l,(call 2 206),r,l,r,d]
theorem i19(a:List (LB×LB×Unit)):∀(q:Nat) (b:Int),z19 q (t19 a b)=Ni a q b:=
 ind (λ_=>by kernel_rfl) λq ih b=>Eq.trans (b:=Yl (Yy (λb=>(z19 q) (t19 a b)) a) Yz a b) C7 (by simp only[ih]<;>rfl)
theorem i27(a:List (LB×LB×Unit)):∀(q:Nat) (f:Int),z27 q (t27 a f)=Nj a q f:=
 ind (λ_=>by kernel_rfl) λq ih f=>Eq.trans (b:=Yn (Yp (λf=>(z27 q) (t27 a f)) a) Yj a f) C7 (by simp only[ih]<;>rfl)
def k:Kc P_ gl:=⟨(103,⟨H.p,H.r,u2 Jp⟩),co H func103 (λx=>Eq.trans (b:=u2 (Py Jd (λa b=>z19 Bi (t19 a b)) (λa f=>z27 Bi (t27 a f))) x) C7 (by simp only[i19,i27,Am]<;>rfl))⟩
end F103
theorem SH:ConOk Tryz.prog gl 55 Tk:=SW ent55 F103.k.2 F107.k.2 F83.k.2
namespace F21
def H:Hd:=⟨[.agg [Si,Si,Si,Sw]],[Ob 5,Si],.d,kt [F52.k,F53.k,F54.k,⟨(55,Tk),SH⟩] false,[],f21⟩
def k:Kc P_ gl:=⟨(21,⟨H.p,H.r,u4 UA⟩),co H func21⟩
end F21
namespace F25
def H:Hd:=⟨[Sb,Ss],[Ob 5,Si],.d,kt [F12.k,F21.k] false,[],f25⟩
def k:Kc P_ gl:=⟨(25,⟨H.p,H.r,u2 GJ⟩),co H func25⟩
end F25
namespace F13
def H:Hd:=⟨[Sb,Ss],[Si],.d,kt [F12.k] false,[],f13⟩
def k:Kc P_ gl:=⟨(13,⟨H.p,H.r,u2 Yu⟩),co H func13⟩
end F13
namespace F9
def H:Hd:=⟨[Sb,Ss,Si],[Sz],.d,kt [F12.k,F13.k,F25.k] false,[],f9⟩
def k:Kc P_ gl:=⟨(9,⟨H.p,H.r,u3 Ac⟩),co H func9⟩
end F9
theorem Uy:ConOk Tryz.prog gl 10 Em:=Vg ent10 F7.k.2 F9.k.2
namespace F3
abbrev R_:=Bool
def H:Hd:=⟨[],[Sz],(.seq .d (.seq .d (.seq .d (.seq .d (.seq .d (.seq .d (.seq .d (.cut [1,2,3,5,8] [] .d (.cut [1,2,3,5,8,9] [⟨1,[],.ro (.int .u8)⟩,⟨2,[],.ro (.int .u8)⟩] .d (.seq .d (.seq .d (.cut [1,2,3,5,8,9,11] [] .d (.cut [1,2,3,5,8,9,11] [] (.seq .d (.blk (.loop [1,2,3,5,8,9,11,12] [] .d))) .d))))))))))))),kt [⟨(7,F7.k.1.2.seal),F7.k.2.seal⟩,⟨(8,F8.k.1.2.seal),F8.k.2.seal⟩,⟨(9,F9.k.1.2.seal),F9.k.2.seal⟩,⟨(10,Em.seal),Uy.seal⟩] false true,[],f3⟩
def t10(a b:LB)(w y aa:Bool)(m n v f o p g h u k ab:Int):S:=⟨[(1,vb a),(2,vb b),(3,.ptr 0 []),(5,.ptr 1 []),(8,vt w),(9,vt y),(11,vt aa),(12,vi ab)],[.box 25 (.agg [vi m,vi n,vi v,vi f,vi o]),.box 25 (.agg [vi p,vi g,vi h,vi u,vi k])],[]⟩
def z10:Nat->S->Option R_:=H.i P_ [r,r,r,r,r,r,r,r,r,r,r,r,l,r,d]
def x8(a b:LB)(w:Bool)(m n v f o p g h u k:Int)(y:Bool):Option R_:=H.e P_ [r,r,r,r,r,r,r,r,r] ⟨[(1,vb a),(2,vb b),(3,.ptr 0 []),(5,.ptr 1 []),(8,vt w),(9,vt y)],[.box 25 (.agg [vi m,vi n,vi v,vi f,vi o]),.box 25 (.agg [vi p,vi g,vi h,vi u,vi k])],[]⟩
def x7(a b:LB)(m n v f o p g h u k:Int)(w:Bool):Option R_:=H.e P_ [r,r,r,r,r,r,r,r] ⟨[(1,.own 0),(2,.own 1),(3,.ptr 2 []),(5,.ptr 3 []),(8,vt w)],[Ab 5 a,Ab 5 b,.box 25 (.agg [vi m,vi n,vi v,vi f,vi o]),.box 25 (.agg [vi p,vi g,vi h,vi u,vi k])],[]⟩
theorem i10(a b:LB)(w y aa:Bool)(m n v f o p g h u k:Int):∀(q:Nat) (ab:Int),z10 q (t10 a b w y aa m n v f o p g h u k ab)=Bm a b w y aa m n v f o p g h u k q ab:=
 ind (λ_=>by kernel_rfl) λq ih ab=>Eq.trans (b:=Bl Bv (λab=>(z10 q) (t10 a b w y aa m n v f o p g h u k ab)) a b w y aa m n v f o p g h u k ab) C7 (by simp only[ih]<;>rfl)
theorem e8:x8=Eh:=Eq.trans (b:=Cw (Ea (λa b w y aa m n v f o p g h u k ab=>z10 Bi (t10 a b w y aa m n v f o p g h u k ab)))) C7 (by simp only[i10,Am]<;>rfl)
theorem e7:x7=Eb:=Eq.trans (b:=Cy x8) C7 (by simp only[e8]<;>rfl)
def k:Kc P_ gl:=⟨(3,⟨H.p,H.r,λ_=>Fb⟩),co H func3 (λx=>Eq.trans (b:=Cx x7) C7 (by simp only[e7]<;>rfl))⟩
end F3
end
end Go.Proofs.YtaicmmejgiaafaaGreatDoor
