/- A part of a proof (see the text that ends in Proof). No conditions. -/
import Derived.Test.YtaokmgopghpikaaGreatDoorVgHA
set_option linter.unusedVariables false
set_option linter.unusedSimpArgs false
set_option maxRecDepth 10000
namespace Go.Proofs.YtaokmgopghpikaaGreatDoor
open Go Go.Lv Go.Pl Go.Rx Go.Rx.PS
noncomputable section
def g1:List Value:=[.int .i64 2,.int .i64 2,.int .i64 2,.int .i64 4,.int .i64 4]
def g4:List Value:=[.int .i64 2,.int .i64 2,.int .i64 4,.int .i64 4,.int .i64 2,.int .i64 2,.int .i64 2,.int .i64 2,.int .i64 4]
def g5:List Value:=[.int .u8 1,.int .u8 0,.int .u8 0,.int .u8 0,.int .u8 0,.int .u8 0,.int .u8 16,.int .u8 0,.int .u8 128,.int .u8 0,.int .u8 0,.int .u8 170,.int .u8 0,.int .u8 56,.int .u8 155,.int .u8 113]
def g7:List Value:=[.int .u8 0,.int .u8 1,.int .u8 56,.int .u8 2,.int .u8 57,.int .u8 49,.int .u8 28,.int .u8 3,.int .u8 61,.int .u8 58,.int .u8 42,.int .u8 50,.int .u8 38,.int .u8 29,.int .u8 17,.int .u8 4,.int .u8 62,.int .u8 47,.int .u8 59,.int .u8 36,.int .u8 45,.int .u8 43,.int .u8 51,.int .u8 22,.int .u8 53,.int .u8 39,.int .u8 33,.int .u8 30,.int .u8 24,.int .u8 18,.int .u8 12,.int .u8 5,.int .u8 63,.int .u8 55,.int .u8 48,.int .u8 27,.int .u8 60,.int .u8 41,.int .u8 37,.int .u8 16,.int .u8 46,.int .u8 35,.int .u8 44,.int .u8 21,.int .u8 52,.int .u8 32,.int .u8 23,.int .u8 11,.int .u8 54,.int .u8 26,.int .u8 40,.int .u8 15,.int .u8 34,.int .u8 20,.int .u8 31,.int .u8 10,.int .u8 25,.int .u8 14,.int .u8 19,.int .u8 9,.int .u8 13,.int .u8 8,.int .u8 7,.int .u8 6]
def gl:List (Nat×List Value):=[(1,g1),(4,g4),(5,g5),(7,g7)]
theorem mixed:Tryz.prog.follows .mixedOrders=true:=F4
noncomputable abbrev P_:=Tryz.prog
noncomputable def kt(l:List (Kc P_ gl))(v:Bool)(c:Bool:=false):=yJ l v c
theorem co(H:Hd){f:Nat}{F:CW (Sj H.p)->Option (CW (Sj H.r))}(hf:P_.funcs[f]? =some H.f)(h:∀x,H.u P_ x=F x:=by intro x;kernel_rfl)(hT:FE P_ H.T:=by exact u? _ _ _)(hb:okA P_ H=true:=by kernel_rfl):ConOk P_ H.T.gl f ⟨H.p,H.r,F⟩:=Hd.cn mixed H hf hT hb h
def kk_(f:Nat)(H:Hd)(F:CW (Sj H.p)->Option (CW (Sj H.r)))(hf:P_.funcs[f]? =some H.f)(h:∀x,H.u P_ x=F x:=by intro x;kernel_rfl)(hT:FE P_ H.T:=by exact u? _ _ _)(hb:okA P_ H=true:=by kernel_rfl):Kc P_ H.T.gl:=⟨(f,⟨H.p,H.r,F⟩),Hd.cn mixed H hf hT hb h⟩
abbrev KC_:=Kc P_ gl
abbrev hd_(p r:List Sh)(a:An)(l:List KC_)(f:Func)(v:Bool:=false)(s:List (Nat×An):=[]):Hd:=⟨p,r,a,kt l v,s,f⟩
abbrev ZT_(R:Type):=Nat->S->Option R
theorem ent27:Ent Tryz.prog 27:=Ent.mk Tryz.func27 F4 rfl
theorem ent30:Ent Tryz.prog 30:=Ent.mk Tryz.func30 F4 rfl
theorem ent98:Ent Tryz.prog 98:=Ent.mk Tryz.func98 F4 rfl
theorem ent198:Ent Tryz.prog 198:=Ent.mk Tryz.func198 F4 rfl
abbrev u2{A B R:Type}(f:A->B->R)(x:A×B):=f x.1 x.2
abbrev u3{A B C R:Type}(f:A->B->C->R):=u2 λa=>u2 (f a)
abbrev u4{A B C D R:Type}(f:A->B->C->D->R):=u2 λa=>u3 (f a)
abbrev u5{A B C D E R:Type}(f:A->B->C->D->E->R):=u2 λa=>u4 (f a)
abbrev u6{A B C D E F R:Type}(f:A->B->C->D->E->F->R):=u2 λa=>u5 (f a)
abbrev u7{A B C D E F G R:Type}(f:A->B->C->D->E->F->G->R):=u2 λa=>u6 (f a)
abbrev u8{A B C D E F G H R:Type}(f:A->B->C->D->E->F->G->H->R):=u2 λa=>u7 (f a)
open Go.Proofs.Tryz
namespace F119
def H:=hd_ [] [.agg [Si,Si,Si,Ow 21]] .d [] f119
def k:KC_:=kk_ 119 H (λ_=>JW) func119
end F119
namespace F86
def H:=hd_ [.agg [Si,Si,Si,Sw]] [.agg [Si,Si]] .d [] f86
def k:KC_:=kk_ 86 H (u4 GJ) func86
end F86
namespace F115
abbrev R_:=(Int32×Int32×Int)
def H:=hd_ [Si] [Sx,Sx,Si] (.q (.seq (.q (.blk (.cut [0,7] [] .d .d))) .d)) [] f115
def k:KC_:=kk_ 115 H Qg func115
end F115
namespace F114
def H:=hd_ [.agg [Si,Si]] [Si] .d [F115.k] f114
def k:KC_:=kk_ 114 H (u2 Fp) func114
end F114
namespace F113
def H:=hd_ [Si] [Si,Si] .d [] f113
def k:KC_:=kk_ 113 H Qj func113
end F113
namespace F179
def H:=hd_ [Si,Si] [Si,Si] .d [F113.k] f179
def k:KC_:=kk_ 179 H (u2 Hh) func179
end F179
namespace F138
def H:=hd_ [.agg [Si,Si,Si,Sw],Si] [Si] .d [F86.k,F114.k,F179.k] f138
def k:KC_:=kk_ 138 H (u5 GH) func138
end F138
namespace F139
abbrev R_:=Int
def H:=hd_ [Si,Sw] [Si] (.q (.q (.q (.q (.cut [] [] (.q (.blk (.loop [5,6,22,23,24] [] .d))) .d))))) [F115.k] f139
def t4(b f:Int32)(a:LX)(g:Int):S:=⟨[(5,vx b),(6,vx f),(22,vw a),(23,vi (Ac a)),(24,vi g)],[],[]⟩
def z4:ZT_ R_:=H.i P_ [r,r,r,r,l,r,d]
theorem i4(b f:Int32)(a:LX):∀(q:Nat) (g:Int),z4 q (t4 b f a g)=Oz b f a q g:=
 ind (λ_=>by kernel_rfl) λq ih g=>Eq.trans (b:=BJ Ame (λg=>(z4 q) (t4 b f a g)) b f a g) F4 (by simp only[ih]<;>rfl)
def k:KC_:=kk_ 139 H (u2 Ut) func139 (λx=>Eq.trans (b:=u2 (QU (λb f a g=>z4 Cz (t4 b f a g))) x) F4 (by simp only[i4,Az]<;>rfl))
end F139
namespace F83
def H:=hd_ [.agg [Si,Si,Si,Sw]] [Si] .d [F138.k,F139.k] f83
def k:KC_:=kk_ 83 H (u4 Dg) func83
end F83
namespace F35
def LM(j2:LB->Int->Int->Int->LX->Option (Int×Int×Int×Int×Int×Int))(a b f:Int)(g:LX)(h:LB):Option (Int×Int×Int×Int×Int×Int):=
(Dg a b f g).bind λk=>
if(Bl k 0)then
some (0,0,0,0,0,k)
else
if(Dq (Ac h) 64)then
some (0,0,0,0,0,2)
else
(Hu (Bl a 0)).bind λ_=>
bo (
j2 h a b f g)
theorem Bcn: @LM= @AZ:=by
  unfold LM AZ;simp only[wV,dU,iI]
abbrev R_:=(Int×Int×Int×Int×Int×Int)
def H:=hd_ [.agg [Si,Si,Si,Sw],Ss] [.agg [Si,Si,Si,Si,Si],Si] (.q (.q (.q (.cut [1,4,7] [] .d .d)))) [F83.k] f35
def k:KC_:=kk_ 35 H (u5 TM) func35 (λx=>Eq.trans (b:=u5 (LM QI) x) F4 (by simp only[Bcn]<;>rfl))
end F35
namespace F166
abbrev R_:=(UInt64×Int)
abbrev K_:=S->Option R_
def H:=hd_ [Sq,Sb] [Sq,Si] (.q (.q (.cut [4,5] [] (.keep [0,1,4,5,9,10,11,12] true) .d))) [] f166 false [(200,(.q (.cut [1] [] (.q (.blk (.loop [0,1,9,10,11] [] .d))) .d))),(201,(.q (.q (.cut [1] [] (.q (.blk (.loop [1,5] [] (.q (.q (.cut [1,5] [] (.blk (.q (.q (.cut [1,2,3,5] [] (.q (.blk (.loop [1,2,3,5,11] [] .d))) .d)))) .d)))))) .d))))]
def t27(a:LB)(b:UInt64)(f:LQ)(h:UInt64)(m:Int):S:=⟨[(0,.ptr 0 []),(1,vq h),(9,vb a),(10,vi (Ac a)),(11,vi m)],[.box 340 (.val (.vec 256 (.int .u64)) f)],[[(0,vq b),(1,vb a),(4,vq 0),(5,vi 0),(9,.ptr 0 []),(10,vq b),(11,vb a)]]⟩
def z27:ZT_ R_:=H.i P_ [r,r,l,(call 3 200),r,l,r,d]
def t21(b:UInt64)(a:LB)(g:Int)(f:LQ)(k:UInt64)(n:Int):S:=⟨[(1,.ptr 0 []),(2,vi g),(3,vq k),(5,vi g),(11,vi n)],[.box 340 (.val (.vec 256 (.int .u64)) f)],[[(0,vq b),(1,vb a),(4,vq 0),(5,vi 0)]]⟩
def z21(Rz:K_):ZT_ R_:=H.i P_ [r,r,l,(call 0 201),r,r,l,r,d,(lp Rz),r,r,l,d,r,r,l,r,d]
def t16(b:UInt64)(a:LB)(g:Int)(f:LQ):S:=⟨[(1,.ptr 0 []),(5,vi g)],[.box 340 (.val (.vec 256 (.int .u64)) f)],[[(0,vq b),(1,vb a),(4,vq 0),(5,vi 0)]]⟩
def z16:ZT_ R_:=H.i P_ [r,r,l,(call 0 201),r,r,l,r,d]
def x27(a:LB)(b:UInt64)(f:LQ)(h:UInt64)(m:Int):Option R_:=H.e P_ [r,r,l,(call 3 200),r,l,r,d] (t27 a b f h m)
def x21(Rz:K_)(b:UInt64)(a:LB)(g:Int)(f:LQ)(k:UInt64)(n:Int):Option R_:=H.e P_ [r,r,l,(call 0 201),r,r,l,r,d,(lp Rz),r,r,l,d,r,r,l,r,d] (t21 b a g f k n)
theorem i27(a:LB)(b:UInt64)(f:LQ):∀(q:Nat) (h:UInt64) (m:Int),z27 q (t27 a b f h m)=Pe a b f q h m:=
 ind (λ_ _=>by kernel_rfl) λq ih h m=>Eq.trans (b:=CK QT (λh m=>(z27 q) (t27 a b f h m)) a b f h m) F4 (by simp only[ih]<;>rfl)
theorem e27:x27=PF:=by funext a b f h m;exact Eq.trans F4 ((i27 a b f Cz h m).trans (by rw[Az];rfl))
theorem i21(Rz:K_)(b:UInt64)(a:LB)(g:Int)(f:LQ):∀(q:Nat) (k:UInt64) (n:Int),z21 Rz q (t21 b a g f k n)=Ps (λg f=>Rz (t16 b a g f)) b a g f q k n:=
 ind (λ_ _=>by kernel_rfl) λq ih k n=>Eq.trans (b:=BB (BU (λg f=>Rz (t16 b a g f)) b a) (λk n=>(z21 Rz q) (t21 b a g f k n)) b a g f k n) F4 (by simp only[ih]<;>rfl)
theorem e21(Rz:K_)(b:UInt64)(a:LB):x21 Rz b a=RQ (λg f=>Rz (t16 b a g f)) b a:=by funext g f k n;exact Eq.trans F4 ((i21 Rz b a g f Cz k n).trans (by rw[Az];rfl))
theorem i16(b:UInt64)(a:LB):∀(q:Nat) (g:Int) (f:LQ),z16 q (t16 b a g f)=Ly b a q g f:=
 ind (λ_ _=>by kernel_rfl) λq ih g f=>Eq.trans (b:=CO (x21 (z16 q) b a) (OQ x27) b a g f) F4 (by simp only[e21,e27,ih]<;>rfl)
def k:KC_:=kk_ 166 H (u2 aG) func166 (λx=>Eq.trans (b:=u2 (VA (λb a g f=>z16 Cz (t16 b a g f))) x) F4 (by simp only[i16,Az]<;>rfl))
end F166
namespace F129
def H:=hd_ [Sb] [Sq,Si] .d [F166.k] f129
def k:KC_:=kk_ 129 H WN func129
end F129
namespace F130
abbrev R_:=LX
def H:=hd_ [Sq] [.lf (.vec 16 (.int .i32)) none] (.q (.q (.cut [2,3] [] (.q (.blk (.loop [0,2,3,5] [] .d))) .d))) [] f130
def t4(f:UInt64)(a:Int)(b:LX):S:=⟨[(0,vq f),(2,.ptr 0 []),(3,.ptr 1 []),(5,vi a)],[.box 149 (.val (.vec 16 (.int .i32)) (List.replicate 16 (0:Int32))),.box 149 (.val (.vec 16 (.int .i32)) b)],[]⟩
def z4:ZT_ R_:=H.i P_ [r,r,l,r,d]
theorem i4(f:UInt64):∀(q:Nat) (a:Int) (b:LX),z4 q (t4 f a b)=HF f q a b:=
 ind (λ_ _=>by kernel_rfl) λq ih a b=>Eq.trans (b:=bH Awk (λa b=>(z4 q) (t4 f a b)) f a b) F4 (by simp only[ih]<;>rfl)
def k:KC_:=kk_ 130 H jk func130 (λx=>Eq.trans (b:=K4 (λf a b=>z4 Cz (t4 f a b)) x) F4 (by simp only[i4,Az]<;>rfl))
end F130
namespace F80
def H:=hd_ [Ss] [.lf (.vec 16 (.int .i32)) none,Si] .d [F129.k,F130.k] f80
def k:KC_:=kk_ 80 H HK func80
end F80
namespace F158
def H:=hd_ [Sq,Sq] [Sq,Sq] .d [] f158
def k:KC_:=kk_ 158 H (u2 LR) func158
end F158
namespace F103
def H:=hd_ [Sq,Sq] [Sq,Sq] .d [F158.k] f103
def k:KC_:=kk_ 103 H (u2 IA) func103
end F103
namespace F180
def Mw(j10:LI->Option (LI))(n? :Int->LI->Option (LI))(b:Int)(a:LI):Option (LI):=
if(Ci b (Ac a))then
both (
(cE (Ac a) b (Ac a)).bind λ_=>
(cE (Ac a) 0 b).bind λ_=>
n? (Ae b (QZ ((Ac a)-b) (UR a 0 (b-(0:Int))).length)) (Uf a b ((Ac a)-b) (UR a 0 (b-(0:Int))))) [
(cE (Ac a) 0 b).bind λ_=>
(cE (Ac a) b (Ac a)).bind λ_=>
n? (Ae b (QZ ((Ac a)-b) (UR a 0 (b-(0:Int))).length)) (Uf a b ((Ac a)-b) (UR a 0 (b-(0:Int))))]
else
j10 a
theorem Ayu: @Mw= @Gj:=by
  unfold Mw Gj
  repeat (refine funext λ_=>?_)
  repeat' first
    |with_reducible rfl
    |with_reducible refine Yc ?_ ?_
    |with_reducible refine Xu ?_ ?_ ?_
    |with_reducible refine Yg ?_ ?_ ?_ ?_
    |((with_reducible refine HZ ?_ ?_);focus (intro h;first|(subst h;rfl)|(simp only[h];rfl)|(simp[Cm,Ac,h];done)))
    |with_reducible refine HL λx=>?_
    |with_reducible refine UL (λ_=>?_) (λ_=>?_)
    |(refine Nr (λh=>by simp only[h,HT,Ju,Jj,ite_self]) (λx h=>?_);(try simp only[h,Ju]))
    |(refine Sn (λh=>?_) (λh=>?_)<;>simp only[h,if_true,if_false,Bool.false_eq_true])
abbrev R_:=LI
def H:=hd_ [Sl,Si] [Ol 3] (.q (.cut [0,1] [] .d (.q (.cut [0,6] [] .d (.q (.q (.cut [7] [] (.blk (.loop [7,8] [] (.q (.blk (.mode false))))) .d))))))) [F103.k] f180 true
def t8(b:Int)(a:LI):S:=⟨[(7,.own 0),(8,vi b)],[Ai 3 a],[]⟩
def z8:ZT_ R_:=H.i P_ [r,r,r,r,r,r,l,d]
theorem i8:∀(q:Nat) (b:Int) (a:LI),z8 q (t8 b a)=El q b a:=
 ind (λ_ _=>by kernel_rfl) λq ih b a=>Eq.trans (b:=Mw Ia (λb a=>(z8 q) (t8 b a)) b a) F4 (by rw[Ayu];simp only[ih]<;>rfl)
def k:KC_:=kk_ 180 H (u2 Mh) func180 (λx=>Eq.trans (b:=u2 (Nw (Ns (Ny (λb a=>z8 Cz (t8 b a))))) x) F4 (by simp only[i8,Az]<;>rfl))
end F180
namespace F210
abbrev R_:=LI
def H:=hd_ [.lf (.list (.list (.int .i64))) none] [Ol 3] (.q (.q (.cut [0,3] [] (.q (.blk (.loop [0,3,9,10,11] [] .d))) (.cut [0,6] [⟨6,[],.own 3 (.int .i64)⟩] (.keep [0,3,6,23,24] true) (.cut [6] [] (.q (.blk (.loop [6,25,26,27] [] .d))) .d))))) [] f210 true [(233,(.q (.cut [0,1] [] .d .d)))]
def t14(a:List LI)(g:Int)(f:LI):S:=⟨[(6,.own 0),(25,.val (.list (.list (.int .i64))) a),(26,vi (Ac a)),(27,vi g)],[Ai 3 f],[]⟩
def z14:ZT_ R_:=H.i P_ [r,r,r,r,l,r,d]
def t9(a:List LI)(b h:Int):S:=⟨[(0,.val (.list (.list (.int .i64))) a),(3,vi b),(9,.val (.list (.list (.int .i64))) a),(10,vi (Ac a)),(11,vi h)],[],[]⟩
def z9:ZT_ R_:=H.i P_ [r,r,l,r,d]
def x14(a:List LI)(g:Int)(f:LI):Option R_:=H.e P_ [r,r,r,r,l,r,d] (t14 a g f)
theorem i14(a:List LI):∀(q:Nat) (g:Int) (f:LI),z14 q (t14 a g f)=Ea a q g f:=
 ind (λ_ _=>by kernel_rfl) λq ih g f=>Eq.trans (b:=Fw Ae4 (λg f=>(z14 q) (t14 a g f)) a g f) F4 (by simp only[ih]<;>rfl)
theorem e14:x14=Ms:=by funext a g f;exact Eq.trans F4 ((i14 a Cz g f).trans (by rw[Az];rfl))
theorem i9(a:List LI):∀(q:Nat) (b h:Int),z9 q (t9 a b h)=Ek a q b h:=
 ind (λ_ _=>by kernel_rfl) λq ih b h=>Eq.trans (b:=Gh (Mv (Mq (Mo x14))) (λb h=>(z9 q) (t9 a b h)) a b h) F4 (by simp only[e14,ih]<;>rfl)
def k:KC_:=kk_ 210 H Md func210 (λx=>Eq.trans (b:=Nu (λa b h=>z9 Cz (t9 a b h)) x) F4 (by simp only[i9,Az]<;>rfl))
end F210
namespace F181
def H:=hd_ [Sl,Sl] [Ol 3] .d [F210.k] f181
def k:KC_:=kk_ 181 H (u2 QL) func181
end F181
namespace F141
def H:=hd_ [Si,Si] [Ol 3,Si] .d [F113.k,F179.k,F180.k,F181.k] f141
def k:KC_:=kk_ 141 H (u2 Uo) func141
end F141
namespace F182
def H:=hd_ [.agg [Si,Si],Sw] [Si] .d [F114.k,F139.k] f182
def k:KC_:=kk_ 182 H (u3 HO) func182
end F182
namespace F208
def H:=hd_ [Si,Sw] [Si] .d [] f208
def k:KC_:=kk_ 208 H (u2 WY) func208
end F208
namespace F160
def Kb(a:LX):Option (LX):=
eu a (
some ([]:LX)) (
(Cm ([]:LX) a).bind λb=>
some b)
theorem Aye: @Kb= @Df:=by
  unfold Kb Df
  repeat (refine funext λ_=>?_)
  repeat' first
    |with_reducible rfl
    |with_reducible refine Yc ?_ ?_
    |with_reducible refine Xu ?_ ?_ ?_
    |with_reducible refine Yg ?_ ?_ ?_ ?_
    |((with_reducible refine HZ ?_ ?_);focus (intro h;first|(subst h;rfl)|(simp only[h];rfl)|(simp[Cm,Ac,h];done)))
    |with_reducible refine HL λx=>?_
    |with_reducible refine UL (λ_=>?_) (λ_=>?_)
    |(refine Nr (λh=>by simp only[h,HT,Ju,Jj,ite_self]) (λx h=>?_);(try simp only[h,Ju]))
    |(refine Sn (λh=>?_) (λh=>?_)<;>simp only[h,if_true,if_false,Bool.false_eq_true])
def H:=hd_ [Sw] [Ow 21] .d [] f160
def k:KC_:=kk_ 160 H Df func160 (λx=>Eq.trans (b:=Kb x) F4 (by simp only[Aye]<;>rfl))
end F160
namespace F183
abbrev R_:=(LX×Int)
abbrev K_:=S->Option R_
def H:=hd_ [Si,Sw] [Ow 21,Si] (.q (.q (.q (.cut [7] [] (.q (.blk (.loop [0,7,8] [] (.q (.cut [0,7,8] [] (.blk (.keep [0,7,8,24,25,26,27,28,29] true)) .d))))) .d)))) [F160.k,F208.k] f183 true [(211,(.q (.cut [0,2] [] (.q (.blk (.loop [0,2,7,8] [] .d))) .d)))]
def t17(b a f:Int)(g:LX):S:=⟨[(0,.view true 0 [] (.int .i32) a ((Ae a b)-a)),(2,vi (Ah ((Ae a b)-a) (1:Int))),(7,vi (Ah ((Ae a b)-a) (1:Int))),(8,vi f)],[Aw 21 g],[[(0,vi b),(7,.own 0),(8,vi a),(24,.own 0),(25,vi a),(26,vi a),(27,vi b),(28,vi (Ae a b)),(29,.view true 0 [] (.int .i32) a ((Ae a b)-a))]]⟩
def z17(MH:K_):ZT_ R_:=H.i P_ [r,r,r,l,r,d,(lp MH),r,l,d,(call 6 211),r,l,r,d]
def t12(b a:Int)(h:LX):S:=⟨[(0,vi b),(7,.own 0),(8,vi a)],[Aw 21 h],[]⟩
def z12:ZT_ R_:=H.i P_ [r,r,r,l,r,d]
def x17(MH:K_)(b a f:Int)(g:LX):Option R_:=H.e P_ [r,r,r,l,r,d,(lp MH),r,l,d,(call 6 211),r,l,r,d] (t17 b a f g)
theorem i17(MH:K_)(b a:Int):∀(q:Nat) (f:Int) (g:LX),z17 MH q (t17 b a f g)=AR (λa h=>MH (t12 b a h)) b a q f g:=
 ind (λ_ _=>by kernel_rfl) λq ih f g=>Eq.trans (b:=SM (eF (λa h=>MH (t12 b a h)) b) (λf g=>(z17 MH q) (t17 b a f g)) b a f g) F4 (by simp only[ih]<;>rfl)
theorem e17(MH:K_)(b:Int):x17 MH b=Auh (λa h=>MH (t12 b a h)) b:=by funext a f g;exact Eq.trans F4 ((i17 MH b a Cz f g).trans (by rw[Az];rfl))
theorem i12(b:Int):∀(q:Nat) (a:Int) (h:LX),z12 q (t12 b a h)=AU b q a h:=
 ind (λ_ _=>by kernel_rfl) λq ih a h=>Eq.trans (b:=eP (x17 (z12 q) b) Atz b a h) F4 (by simp only[e17,ih]<;>rfl)
def k:KC_:=kk_ 183 H (u2 yA) func183 (λx=>Eq.trans (b:=u2 (nT (λb a h=>z12 Cz (t12 b a h))) x) F4 (by simp only[i12,Az]<;>rfl))
end F183
namespace F204
abbrev R_:=(Int×LX×LX×Int)
def H:=hd_ [Si,.lf (.vec 16 (.int .i32)) none] [.agg [Si,.lf (.vec 16 (.int .i32)) none,.lf (.vec 16 (.int .i32)) none],Si] (.q (.q (.seq (.q (.blk (.cut [4,6,9,11] [] .d .d))) .d))) [] f204
def k:KC_:=kk_ 204 H (u2 qX) func204
end F204
namespace F173
def H:=hd_ [Si,.lf (.vec 16 (.int .i32)) none] [.agg [Si,Sx,.agg [Si,.lf (.vec 16 (.int .i32)) none,.lf (.vec 16 (.int .i32)) none]],Si] .d [F204.k] f173
def k:KC_:=kk_ 173 H (u2 uW) func173
end F173
namespace F205
def H:=hd_ [.agg [Si,Sx,.agg [Si,.lf (.vec 16 (.int .i32)) none,.lf (.vec 16 (.int .i32)) none]]] [Si] .d [F204.k] f205
def k:KC_:=kk_ 205 H (u5 Us) func205
end F205
namespace F229
def H:=hd_ [Si] [Si,Si] .d [] f229
def k:KC_:=kk_ 229 H gD func229
end F229
namespace F230
def H:=hd_ [Si,Sx] [Sx] .d [] f230
def k:KC_:=kk_ 230 H (u2 SQ) func230
end F230
namespace F206
def H:=hd_ [Si,Sx] [Sx,Si] .d [F229.k,F230.k] f206
def k:KC_:=kk_ 206 H (u2 Uu) func206
end F206
namespace F245
def H:=hd_ [.agg [Si,.lf (.vec 16 (.int .i32)) none,.lf (.vec 16 (.int .i32)) none]] [Si] .d [] f245
def k:KC_:=kk_ 245 H (u3 HC) func245
end F245
namespace F231
abbrev R_:=(Int32×Int)
def H:=hd_ [.agg [Si,.lf (.vec 16 (.int .i32)) none,.lf (.vec 16 (.int .i32)) none]] [Sx,Si] (.q (.q (.q (.cut [1,5] [] (.q (.blk (.loop [1,5,18,19] [] .d))) .d)))) [F245.k] f231
def t4(b:LX)(a:Int)(f:LX)(h:Int32)(g:Int):S:=⟨[(1,.ptr 0 []),(5,vx h),(18,.val (.vec 16 (.int .i32)) b),(19,vi g)],[.box 263 (.agg [vi a,.val (.vec 16 (.int .i32)) b,.val (.vec 16 (.int .i32)) f])],[]⟩
def z4:ZT_ R_:=H.i P_ [r,r,r,l,r,d]
theorem i4(b:LX)(a:Int)(f:LX):∀(q:Nat) (h:Int32) (g:Int),z4 q (t4 b a f h g)=So b a f q h g:=
 ind (λ_ _=>by kernel_rfl) λq ih h g=>Eq.trans (b:=HR UP (λh g=>(z4 q) (t4 b a f h g)) b a f h g) F4 (by simp only[ih]<;>rfl)
def k:KC_:=kk_ 231 H (u3 QQ) func231 (λx=>Eq.trans (b:=u3 (UJ (λb a f h g=>z4 Cz (t4 b a f h g))) x) F4 (by simp only[i4,Az]<;>rfl))
end F231
namespace F252
def H:=hd_ [Si] [Sx] .d [] f252
def k:KC_:=kk_ 252 H WH func252
end F252
namespace F246
abbrev R_:=(Int×LX×LX×Int)
def H:=hd_ [.agg [Si,.lf (.vec 16 (.int .i32)) none,.lf (.vec 16 (.int .i32)) none],Sx] [.agg [Si,.lf (.vec 16 (.int .i32)) none,.lf (.vec 16 (.int .i32)) none],Si] (.q (.q (.q (.cut [2,4] [] (.q (.blk (.loop [1,2,4,19,20] [] .d))) .d)))) [F245.k,F252.k] f246
def t4(h:Int32)(f:LX)(g a:Int)(b:LX):S:=⟨[(1,vx h),(2,.ptr 0 []),(4,.ptr 1 []),(19,.val (.vec 16 (.int .i32)) f),(20,vi a)],[.box 263 (.agg [vi g,.val (.vec 16 (.int .i32)) b,.val (.vec 16 (.int .i32)) f]),.box 263 (.agg [vi 0,.val (.vec 16 (.int .i32)) (List.replicate 16 (0:Int32)),.val (.vec 16 (.int .i32)) (List.replicate 16 (0:Int32))])],[]⟩
def z4:ZT_ R_:=H.i P_ [r,r,r,l,r,d]
theorem i4(h:Int32)(f:LX)(g:Int):∀(q:Nat) (a:Int) (b:LX),z4 q (t4 h f g a b)=Sc h f g q a b:=
 ind (λ_ _=>by kernel_rfl) λq ih a b=>Eq.trans (b:=HS Aq9 (λa b=>(z4 q) (t4 h f g a b)) h f g a b) F4 (by simp only[ih]<;>rfl)
def k:KC_:=kk_ 246 H (u4 bI) func246 (λx=>Eq.trans (b:=u4 (UY (λh f g a b=>z4 Cz (t4 h f g a b))) x) F4 (by simp only[i4,Az]<;>rfl))
end F246
namespace F247
def TY(j2:Int32->Int->LX->LX->Option (Int×LX×LX×Int))(b:Int)(f a:LX)(g:Int32):Option (Int×LX×LX×Int):=
(HC b f a).bind λh=>
if(Bl h 0)then
some (0,(List.replicate 16 (0:Int32)),(List.replicate 16 (0:Int32)),h)
else
both (
(cE 16 1 16).bind λ_=>
(cE 16 0 16).bind λ_=>
j2 g b f a) [
(cE 16 0 16).bind λ_=>
(cE 16 1 16).bind λ_=>
j2 g b f a]
theorem Bdo: @TY= @NT:=by
  unfold TY NT
  repeat (refine funext λ_=>?_)
  repeat' first
    |with_reducible rfl
    |with_reducible refine Yc ?_ ?_
    |with_reducible refine Xu ?_ ?_ ?_
    |with_reducible refine Yg ?_ ?_ ?_ ?_
    |((with_reducible refine HZ ?_ ?_);focus (intro h;first|(subst h;rfl)|(simp only[h];rfl)|(simp[Cm,Ac,h];done)))
    |with_reducible refine HL λx=>?_
    |with_reducible refine UL (λ_=>?_) (λ_=>?_)
    |(refine Nr (λh=>by simp only[h,HT,Ju,Jj,ite_self]) (λx h=>?_);(try simp only[h,Ju]))
    |(refine Sn (λh=>?_) (λh=>?_)<;>simp only[h,if_true,if_false,Bool.false_eq_true])
abbrev R_:=(Int×LX×LX×Int)
def H:=hd_ [.agg [Si,.lf (.vec 16 (.int .i32)) none,.lf (.vec 16 (.int .i32)) none],Sx] [.agg [Si,.lf (.vec 16 (.int .i32)) none,.lf (.vec 16 (.int .i32)) none],Si] (.q (.q (.cut [1,2,4] [] .d .d))) [F245.k] f247
def k:KC_:=kk_ 247 H (u4 kU) func247 (λx=>Eq.trans (b:=u4 (TY ZZ) x) F4 (by simp only[Bdo]<;>rfl))
end F247
namespace F232
def H:=hd_ [.agg [Si,.lf (.vec 16 (.int .i32)) none,.lf (.vec 16 (.int .i32)) none],Sx,Sx] [.agg [Si,.lf (.vec 16 (.int .i32)) none,.lf (.vec 16 (.int .i32)) none]] .d [F246.k,F247.k] f232
def k:KC_:=kk_ 232 H (u5 OS) func232
end F232
namespace F212
def H:=hd_ [.agg [Si,.lf (.vec 16 (.int .i32)) none,.lf (.vec 16 (.int .i32)) none],Sx] [Sx,.agg [Si,.lf (.vec 16 (.int .i32)) none,.lf (.vec 16 (.int .i32)) none],Si] .d [F231.k,F232.k] f212
def k:KC_:=kk_ 212 H (u4 TX) func212
end F212
namespace F184
def EE(a:Int)(b:Int32)(f:Int)(g h:LX)(k:Int32):Option (Int32×Int×Int32×Int×LX×LX×Int):=
(Us a b f g h).bind λm=>
if(Bl m 0)then
some (0,0,0,0,(List.replicate 16 (0:Int32)),(List.replicate 16 (0:Int32)),m)
else
(Uu a b).bind λ(n,y)=>
(TX f g h (Ah k n)).bind λ(o,p,u,v,w)=>
bo (
some (o,a,k,p,u,v,w))
theorem Bbz: @EE= @Sa:=by
  unfold EE Sa;simp only[wV,dU,iI]
def H:=hd_ [.agg [Si,Sx,.agg [Si,.lf (.vec 16 (.int .i32)) none,.lf (.vec 16 (.int .i32)) none]],Sx] [Sx,.agg [Si,Sx,.agg [Si,.lf (.vec 16 (.int .i32)) none,.lf (.vec 16 (.int .i32)) none]],Si] (.q (.q (.q (.q (.seq (.mode false) .d))))) [F205.k,F206.k,F212.k] f184
def k:KC_:=kk_ 184 H (u6 Sa) func184 (λx=>Eq.trans (b:=u6 EE x) F4 (by simp only[Bbz]<;>rfl))
end F184
namespace F185
def H:=hd_ [Sx] [Su] .d [] f185
def k:KC_:=kk_ 185 H jY func185
end F185
namespace F142
abbrev R_:=(LU×Int)
def H:=hd_ [.agg [Si,Si],.lf (.vec 16 (.int .i32)) none,Sw] [Ov 163,Si] (.q (.q (.q (.q (.q (.cut [3,9,11] [] (.q (.blk (.loop [3,4,9,11,36] [] .d))) (.q (.cut [13] [] (.q (.blk (.loop [3,11,13,49,50,51] [⟨13,[],.own 163 (.int .u32)⟩] .d))) .d)))))))) [F173.k,F182.k,F183.k,F184.k,F185.k] f142
def t10(b:LX)(a f g:Int)(k:List (Int×Int32×(Int×LX×LX×Unit)×Unit))(h:LU):S:=⟨[(3,.ptr 0 []),(11,.ptr 1 []),(13,.own 2),(49,.own 3),(50,vi (Ac b)),(51,vi g)],[.box 57 (.agg [vi a,vi f]),.box 266 (.val (.vec 6 (.cons (.int .i64) (.cons (.int .i32) (.cons (.cons (.int .i64) (.cons (.vec 16 (.int .i32)) (.cons (.vec 16 (.int .i32)) .nil))) .nil)))) k),Av 163 h,Aw 21 b],[]⟩
def z10:ZT_ R_:=H.i P_ [r,r,r,r,r,r,r,l,r,d]
def t7(a f:Int)(n b:LX)(o:Int)(m:List (Int×Int32×(Int×LX×LX×Unit)×Unit)):S:=⟨[(3,.ptr 0 []),(4,.ptr 1 []),(9,.own 2),(11,.ptr 3 []),(36,vi o)],[.box 57 (.agg [vi a,vi f]),.box 149 (.val (.vec 16 (.int .i32)) n),Aw 21 b,.box 266 (.val (.vec 6 (.cons (.int .i64) (.cons (.int .i32) (.cons (.cons (.int .i64) (.cons (.vec 16 (.int .i32)) (.cons (.vec 16 (.int .i32)) .nil))) .nil)))) m)],[]⟩
def z7:ZT_ R_:=H.i P_ [r,r,r,r,r,l,r,d]
def x10(b:LX)(a f g:Int)(k:List (Int×Int32×(Int×LX×LX×Unit)×Unit))(h:LU):Option R_:=H.e P_ [r,r,r,r,r,r,r,l,r,d] (t10 b a f g k h)
theorem i10(b:LX)(a f:Int):∀(q:Nat) (g:Int) (k:List (Int×Int32×(Int×LX×LX×Unit)×Unit)) (h:LU),z10 q (t10 b a f g k h)=Jb b a f q g k h:=
 ind (λ_ _ _=>by kernel_rfl) λq ih g k h=>Eq.trans (b:=Rj Aci (λg k h=>(z10 q) (t10 b a f g k h)) b a f g k h) F4 (by simp only[ih]<;>rfl)
theorem e10:x10=Aag:=by funext b a f g k h;exact Eq.trans F4 ((i10 b a f Cz g k h).trans (by rw[Az];rfl))
theorem i7(a f:Int)(n b:LX):∀(q:Nat) (o:Int) (m:List (Int×Int32×(Int×LX×LX×Unit)×Unit)),z7 q (t7 a f n b o m)=CP a f n b q o m:=
 ind (λ_ _=>by kernel_rfl) λq ih o m=>Eq.trans (b:=Acm (Acj x10) (λo m=>(z7 q) (t7 a f n b o m)) a f n b o m) F4 (by simp only[e10,ih]<;>rfl)
def k:KC_:=kk_ 142 H (u4 BZ) func142 (λx=>Eq.trans (b:=u4 (CA (λa f n b o m=>z7 Cz (t7 a f n b o m))) x) F4 (by simp only[i7,Az]<;>rfl))
end F142
namespace F168
def H:=hd_ [] [.agg [Si,Si,Sq,Sq]] .d [] f168
def k:KC_:=kk_ 168 H (λ_=>oS) func168
end F168
namespace F143
abbrev R_:=((List (Int×Int×UInt64×UInt64×Unit)))
def H:=hd_ [] [.lf (.vec 6 (.cons (.int .i64) (.cons (.int .i64) (.cons (.int .u64) (.cons (.int .u64) .nil))))) none] (.q (.q (.cut [0,1] [] (.q (.blk (.loop [0,1,3] [] .d))) .d))) [F168.k] f143
def t4(b:Int)(a:List (Int×Int×UInt64×UInt64×Unit)):S:=⟨[(0,.ptr 0 []),(1,.ptr 1 []),(3,vi b)],[.box 223 (.val (.vec 6 (.cons (.int .i64) (.cons (.int .i64) (.cons (.int .u64) (.cons (.int .u64) .nil))))) (List.replicate 6 ((0:Int),(0:Int),(0:UInt64),(0:UInt64),()))),.box 223 (.val (.vec 6 (.cons (.int .i64) (.cons (.int .i64) (.cons (.int .u64) (.cons (.int .u64) .nil))))) a)],[]⟩
def z4:ZT_ R_:=H.i P_ [r,r,l,r,d]
theorem i4:∀(q:Nat) (b:Int) (a:List (Int×Int×UInt64×UInt64×Unit)),z4 q (t4 b a)=AY q b a:=
 ind (λ_ _=>by kernel_rfl) λq ih b a=>Eq.trans (b:=Ad5 Ad4 (λb a=>(z4 q) (t4 b a)) b a) F4 (by simp only[ih]<;>rfl)
def k:KC_:=kk_ 143 H (λ_=>DG) func143 (λx=>Eq.trans (b:=BS (λb a=>z4 Cz (t4 b a))) F4 (by simp only[i4,Az]<;>rfl))
end F143
namespace F171
def H:=hd_ [.agg [Sb,Si]] [Si] .d [] f171
def k:KC_:=kk_ 171 H (u2 Hr) func171
end F171
namespace F186
def PM(j4:Int->Int->UInt64->UInt64->Option Int)(a b:Int)(f g:UInt64):Option Int:=
both (
bo (
j4 a b f g)) [
j4 a b f g]
theorem Bd2: @PM= @HN:=by
  unfold PM HN
  repeat (refine funext λ_=>?_)
  repeat' first
    |with_reducible rfl
    |with_reducible refine Yc ?_ ?_
    |with_reducible refine Xu ?_ ?_ ?_
    |with_reducible refine Yg ?_ ?_ ?_ ?_
    |((with_reducible refine HZ ?_ ?_);focus (intro h;first|(subst h;rfl)|(simp only[h];rfl)|(simp[Cm,Ac,h];done)))
    |with_reducible refine HL λx=>?_
    |with_reducible refine UL (λ_=>?_) (λ_=>?_)
    |(refine Nr (λh=>by simp only[h,HT,Ju,Jj,ite_self]) (λx h=>?_);(try simp only[h,Ju]))
    |(refine Sn (λh=>?_) (λh=>?_)<;>simp only[h,if_true,if_false,Bool.false_eq_true])
def OG(j3:Int->Int->UInt64->UInt64->Option Int)(a b:Int)(f g:UInt64):Option Int:=
both (
bo (
j3 a b f g)) [
j3 a b f g]
theorem Bd6: @OG= @HU:=by
  unfold OG HU
  repeat (refine funext λ_=>?_)
  repeat' first
    |with_reducible rfl
    |with_reducible refine Yc ?_ ?_
    |with_reducible refine Xu ?_ ?_ ?_
    |with_reducible refine Yg ?_ ?_ ?_ ?_
    |((with_reducible refine HZ ?_ ?_);focus (intro h;first|(subst h;rfl)|(simp only[h];rfl)|(simp[Cm,Ac,h];done)))
    |with_reducible refine HL λx=>?_
    |with_reducible refine UL (λ_=>?_) (λ_=>?_)
    |(refine Nr (λh=>by simp only[h,HT,Ju,Jj,ite_self]) (λx h=>?_);(try simp only[h,Ju]))
    |(refine Sn (λh=>?_) (λh=>?_)<;>simp only[h,if_true,if_false,Bool.false_eq_true])
abbrev R_:=Int
def H:=hd_ [.agg [Si,Si,Sq,Sq]] [Si] (.q (.q (.cut [1,3] [] (.mode false) (.cut [1,3] [] (.mode false) .d)))) [] f186
def x3(a b:Int)(f g:UInt64):Option R_:=H.e P_ [r,r,r] ⟨[(1,.ptr 0 []),(3,.ptr 1 [])],[.box 222 (.agg [vi a,vi b,vq f,vq g]),.box 222 (.agg [vi (Gf (pT a (0:Int)) (24:Int)),vi (Gf (pT b (0:Int)) (24:Int)),vq f,vq g])],[]⟩
theorem e3:x3=VE:=Eq.trans (b:=PM UA) F4 (by rw[Bd2];rfl)
def k:KC_:=kk_ 186 H (u4 RG) func186 (λx=>Eq.trans (b:=u4 (OG x3) x) F4 (by rw[Bd6];simp only[e3]<;>rfl))
end F186
namespace F187
def H:=hd_ [.agg [Si,Si,Sq,Sq],Su] [Si,Su] .d [] f187
def k:KC_:=kk_ 187 H (u5 HG) func187
end F187
namespace F109
def Lt(a:LB):Option (LB):=
eu a (
some ([]:LB)) (
(Cm ([]:LB) a).bind λb=>
some b)
theorem Ayt: @Lt= @Ef:=by
  unfold Lt Ef
  repeat (refine funext λ_=>?_)
  repeat' first
    |with_reducible rfl
    |with_reducible refine Yc ?_ ?_
    |with_reducible refine Xu ?_ ?_ ?_
    |with_reducible refine Yg ?_ ?_ ?_ ?_
    |((with_reducible refine HZ ?_ ?_);focus (intro h;first|(subst h;rfl)|(simp only[h];rfl)|(simp[Cm,Ac,h];done)))
    |with_reducible refine HL λx=>?_
    |with_reducible refine UL (λ_=>?_) (λ_=>?_)
    |(refine Nr (λh=>by simp only[h,HT,Ju,Jj,ite_self]) (λx h=>?_);(try simp only[h,Ju]))
    |(refine Sn (λh=>?_) (λh=>?_)<;>simp only[h,if_true,if_false,Bool.false_eq_true])
def H:=hd_ [Sb] [Ob 5] .d [] f109
def k:KC_:=kk_ 109 H Ef func109 (λx=>Eq.trans (b:=Lt x) F4 (by simp only[Ayt]<;>rfl))
end F109
namespace F213
def H:=hd_ [.agg [Sb,Si]] [.agg [Ob 5,Si]] .d [F109.k] f213
def k:KC_:=kk_ 213 H (u2 WM) func213
end F213
namespace F188
abbrev R_:=(LB×Int×Int)
abbrev K_:=S->Option R_
def H:=hd_ [.agg [Sb,Si],Sq,Si] [.agg [Ob 5,Si],Si] (.q (.q (.q (.cut [3,6] [] (.keep [1,2,3,6,40,41] true) .d)))) [F171.k,F213.k] f188 false [(202,(.blk (.loop [0,1,2] [] (.q (.blk (.cut [0,1,2] [] .d (.q (.cut [0,1,2,7] [] .d .d))))))))]
def t15(b:UInt64)(a:Int)(m:UInt64)(h f:Int)(o:LB):S:=⟨[(0,.ptr 0 []),(1,vq m),(2,vi h)],[.box 206 (.agg [.own 2,vi f]),.box 206 (.agg [.nils,vi 0]),Ab 5 o],[[(1,vq b),(2,vi a),(3,.ptr 0 []),(6,.ptr 1 []),(40,vq b),(41,vi a)]]⟩
def z15:ZT_ R_:=H.i P_ [r,r,r,l,(call 2 202),d]
def t22(b:UInt64)(a:Int)(n:UInt64)(k g:Int)(p:LB):S:=⟨[(0,.ptr 0 []),(1,vq n),(2,vi k)],[.box 206 (.agg [.own 2,vi g]),.box 206 (.agg [.nils,vi 0]),Ab 5 p],[[(1,vq b),(2,vi a),(3,.ptr 0 []),(6,.ptr 1 []),(40,vq b),(41,vi a)]]⟩
def z22:ZT_ R_:=H.i P_ [r,r,r,l,(call 2 202),d]
theorem i15(b:UInt64)(a:Int):∀(q:Nat) (m:UInt64) (h f:Int) (o:LB),z15 q (t15 b a m h f o)=Nc b a q m h f o:=
 ind (λ_ _ _ _=>by kernel_rfl) λq ih m h f o=>Eq.trans (b:=NR (NP (λm h f o=>(z15 q) (t15 b a m h f o)) b a) YS b a m h f o) F4 (by simp only[ih]<;>rfl)
theorem i22(b:UInt64)(a:Int):∀(q:Nat) (n:UInt64) (k g:Int) (p:LB),z22 q (t22 b a n k g p)=ZK b a q n k g p:=
 ind (λ_ _ _ _=>by kernel_rfl) λq ih n k g p=>Eq.trans (b:=Are (Asr (λn k g p=>(z22 q) (t22 b a n k g p)) b a) Ath b a n k g p) F4 (by simp only[ih]<;>rfl)
def k:KC_:=kk_ 188 H (u4 QX) func188 (λx=>Eq.trans (b:=u4 (eY (λb a m h f o=>z15 Cz (t15 b a m h f o)) (λb a n k g p=>z22 Cz (t22 b a n k g p))) x) F4 (by simp only[i15,i22,Az]<;>rfl))
end F188
namespace F214
def H:=hd_ [Su,Si] [Sz] .d [] f214
def k:KC_:=kk_ 214 H (u2 Wi) func214
end F214
namespace F234
def H:=hd_ [Si] [Si,Si] .d [] f234
def k:KC_:=kk_ 234 H aK func234
end F234
namespace F215
def H:=hd_ [.agg [Sb,Si],Si] [.agg [Ob 5,Si],Si] .d [F171.k,F188.k,F234.k] f215
def k:KC_:=kk_ 215 H (u3 TO) func215
end F215
namespace F189
abbrev R_:=(LB×Int×Int)
def H:=hd_ [.agg [Sb,Si],Su,Si] [.agg [Ob 5,Si],Si] (.q (.q (.q (.q (.cut [3,6,9,10,11] [] .d .d))))) [F171.k,F188.k,F214.k,F215.k] f189
def k:KC_:=kk_ 189 H (u4 ZO) func189
end F189
namespace F144
def LY(k u n:Int)(a:UInt64)(b:UInt32)(o:UInt64)(m:LB):Option (LB×Int×Int×Int×UInt64×UInt64×Int):=
(λaf:Option (LB×Int×Int×Int×UInt64×UInt64×Int)=>
both (
bo (
af)) [
af]) (
some (m,k,u,n,(Ae a (Ah (Ad b:UInt64) (Bw a (GI.toZ (4:UInt64)).toNat))),o,0))
theorem Bcq: @LY= @EK:=by
  unfold LY EK
  try simp only[wV,dU,iI]
  all_goals
    repeat (refine funext λ_=>?_)
    repeat' first
      |with_reducible rfl
      |with_reducible refine Yc ?_ ?_
      |with_reducible refine Xu ?_ ?_ ?_
      |with_reducible refine Yg ?_ ?_ ?_ ?_
      |((with_reducible refine HZ ?_ ?_);focus (intro h;first|(subst h;rfl)|(simp only[h];rfl)|(simp[Cm,Ac,h];done)))
      |with_reducible refine HL λx=>?_
      |with_reducible refine UL (λ_=>?_) (λ_=>?_)
      |(refine Nr (λh=>by simp only[h,HT,Ju,Jj,ite_self]) (λx h=>?_);(try simp only[h,Ju]))
      |(refine Sn (λh=>?_) (λh=>?_)<;>simp only[h,if_true,if_false,Bool.false_eq_true])
abbrev R_:=(LB×Int×Int×Int×UInt64×UInt64×Int)
def H:=hd_ [.agg [Sb,Si],.agg [Si,Si,Sq,Sq],Su] [.agg [Ob 5,Si],.agg [Si,Si,Sq,Sq],Si] (.q (.cut [2,3,4,6,7] [] .d (.q (.q (.cut [2,3,4,6,7,11] [] .d (.q (.cut [3,4,6,7] [] (.keep [2,3,4,6,7,65] true) (.seq (.mode false) .d)))))))) [F171.k,F186.k,F187.k,F188.k,F189.k] f144 false [(190,(.q (.q (.q (.blk (.cut [0,1,4] [] (.blk (.q (.keep [0,1,4,6,18,19,20,21,22,23,24,25] true))) (.cut [] [] (.keep [0,1,4,27,28,29,30,31,32,33,34] true) .d))))))),(216,.d)]
def x10(k u n:Int)(a:UInt64)(b:UInt32)(o:UInt64)(m:LB):Option R_:=H.e P_ [r,r,r,r,r,r,r] ⟨[(3,.ptr 0 []),(4,.ptr 1 []),(6,.ptr 2 []),(7,.ptr 3 [])],[.box 206 (.agg [.own 4,vi k]),.box 222 (.agg [vi u,vi n,vq (Ae a (Ah (Ad b:UInt64) (Bw a (GI.toZ (4:UInt64)).toNat))),vq o]),.box 206 (.agg [.nils,vi 0]),.box 222 (.agg [vi 0,vi 0,vq 0,vq 0]),Ab 5 m],[]⟩
def x8(b:UInt32)(f:Int)(a:UInt64)(k:Int)(m:LB)(n:Int)(o:UInt64):Option R_:=H.e P_ [r,r,r,r,r,r,l,(call 1 190),r,r,r,d,r] ⟨[(0,.ptr 0 []),(1,vu b),(4,.fn 216 [])],[.box 222 (.agg [vi f,vi n,vq a,vq o]),.box 206 (.agg [.own 4,vi k]),.box 206 (.agg [.nils,vi 0]),.box 222 (.agg [vi 0,vi 0,vq 0,vq 0]),Ab 5 m],[[(2,vu b),(3,.ptr 1 []),(4,.ptr 0 []),(6,.ptr 2 []),(7,.ptr 3 []),(65,vu b)]]⟩
theorem e10:x10=RS:=Eq.trans (b:=LY) F4 (by rw[Bcq];rfl)
theorem e8:x8=Xw:=Eq.trans (b:=UG (US x10)) F4 (by simp only[e10]<;>rfl)
def k:KC_:=kk_ 144 H (u7 ZD) func144 (λx=>Eq.trans (b:=u7 (VI (VC (UC x8))) x) F4 (by simp only[e8]<;>rfl))
end F144
namespace F149
abbrev R_:=(UInt32×Int)
abbrev K_:=S->Option R_
def H:=hd_ [Su,Sb] [Su,Si] (.q (.q (.cut [0,1,6] [] (.keep [0,1,6,12] true) (.cut [0] [] (.q (.blk (.loop [0,6,13,14,15] [] .d))) .d)))) [] f149 false [(191,(.q (.q (.cut [1] [] (.q (.blk (.loop [1,5] [] (.q (.q (.cut [1,5] [] (.blk (.q (.q (.cut [1,2,3,5] [] (.q (.blk (.loop [1,2,3,5,10] [] .d))) .d)))) .d)))))) .d))))]
def t28(a:LB)(b:LU)(h:UInt32)(m:Int):S:=⟨[(0,vu h),(6,.ptr 0 []),(13,vb a),(14,vi (Ac a)),(15,vi m)],[.box 324 (.val (.vec 256 (.int .u32)) b)],[]⟩
def z28:ZT_ R_:=H.i P_ [r,r,r,l,r,d]
def t21(f:UInt32)(a:LB)(g:Int)(b:LU)(k:UInt32)(n:Int):S:=⟨[(1,.ptr 0 []),(2,vi g),(3,vu k),(5,vi g),(10,vi n)],[.box 324 (.val (.vec 256 (.int .u32)) b)],[[(0,vu f),(1,vb a)]]⟩
def z21(Rz:K_):ZT_ R_:=H.i P_ [r,r,l,(call 0 191),r,r,l,r,d,(lp Rz),r,r,l,d,r,r,l,r,d]
def t16(f:UInt32)(a:LB)(g:Int)(b:LU):S:=⟨[(1,.ptr 0 []),(5,vi g)],[.box 324 (.val (.vec 256 (.int .u32)) b)],[[(0,vu f),(1,vb a)]]⟩
def z16:ZT_ R_:=H.i P_ [r,r,l,(call 0 191),r,r,l,r,d]
def x28(a:LB)(b:LU)(h:UInt32)(m:Int):Option R_:=H.e P_ [r,r,r,l,r,d] (t28 a b h m)
def x21(Rz:K_)(f:UInt32)(a:LB)(g:Int)(b:LU)(k:UInt32)(n:Int):Option R_:=H.e P_ [r,r,l,(call 0 191),r,r,l,r,d,(lp Rz),r,r,l,d,r,r,l,r,d] (t21 f a g b k n)
theorem i28(a:LB)(b:LU):∀(q:Nat) (h:UInt32) (m:Int),z28 q (t28 a b h m)=Pj a b q h m:=
 ind (λ_ _=>by kernel_rfl) λq ih h m=>Eq.trans (b:=DT PH (λh m=>(z28 q) (t28 a b h m)) a b h m) F4 (by simp only[ih]<;>rfl)
theorem e28:x28=QJ:=by funext a b h m;exact Eq.trans F4 ((i28 a b Cz h m).trans (by rw[Az];rfl))
theorem i21(Rz:K_)(f:UInt32)(a:LB)(g:Int)(b:LU):∀(q:Nat) (k:UInt32) (n:Int),z21 Rz q (t21 f a g b k n)=Oy (λg b=>Rz (t16 f a g b)) f a g b q k n:=
 ind (λ_ _=>by kernel_rfl) λq ih k n=>Eq.trans (b:=BT (CI (λg b=>Rz (t16 f a g b)) f a) (λk n=>(z21 Rz q) (t21 f a g b k n)) f a g b k n) F4 (by simp only[ih]<;>rfl)
theorem e21(Rz:K_)(f:UInt32)(a:LB):x21 Rz f a=OM (λg b=>Rz (t16 f a g b)) f a:=by funext g b k n;exact Eq.trans F4 ((i21 Rz f a g b Cz k n).trans (by rw[Az];rfl))
theorem i16(f:UInt32)(a:LB):∀(q:Nat) (g:Int) (b:LU),z16 q (t16 f a g b)=Ln f a q g b:=
 ind (λ_ _=>by kernel_rfl) λq ih g b=>Eq.trans (b:=DV (x21 (z16 q) f a) (PL (PX x28)) f a g b) F4 (by simp only[e21,e28,ih]<;>rfl)
def k:KC_:=kk_ 149 H (u2 aW) func149 (λx=>Eq.trans (b:=u2 (UQ (λf a g b=>z16 Cz (t16 f a g b))) x) F4 (by simp only[i16,Az]<;>rfl))
end F149
namespace F89
def H:=hd_ [Sb] [Su,Si] .d [F149.k] f89
def k:KC_:=kk_ 89 H Vv func89
end F89
namespace F148
def H:=hd_ [Sq,Si] [Sz] .d [] f148
def k:KC_:=kk_ 148 H (u2 xY) func148
end F148
namespace F88
abbrev R_:=(LB×Int)
def H:=hd_ [Sq,Si] [Ob 5,Si] (.q (.q (.q (.q (.cut [6] [] (.q (.blk (.loop [0,6,21,22] [] .d))) .d))))) [F148.k] f88
def t4(f:UInt64)(g:LB)(a:Int)(b:LB):S:=⟨[(0,vq f),(6,.own 0),(21,vi (Ac g)),(22,vi a)],[Ab 5 b],[]⟩
def z4:ZT_ R_:=H.i P_ [r,r,r,r,l,r,d]
theorem i4(f:UInt64)(g:LB):∀(q:Nat) (a:Int) (b:LB),z4 q (t4 f g a b)=AQ f g q a b:=
 ind (λ_ _=>by kernel_rfl) λq ih a b=>Eq.trans (b:=TA eL (λa b=>(z4 q) (t4 f g a b)) f g a b) F4 (by simp only[ih]<;>rfl)
def k:KC_:=kk_ 88 H (u2 Km) func88 (λx=>Eq.trans (b:=u2 (gL (λf g a b=>z4 Cz (t4 f g a b))) x) F4 (by simp only[i4,Az]<;>rfl))
end F88
namespace F117
abbrev R_:=LB
def H:=hd_ [.lf (.list (.list (.int .u8))) none] [Ob 5] (.q (.q (.cut [0,3] [] (.q (.blk (.loop [0,3,9,10,11] [] .d))) (.cut [0,6] [⟨6,[],.own 5 (.int .u8)⟩] (.keep [0,3,6,23,24] true) (.cut [6] [] (.q (.blk (.loop [6,25,26,27] [] .d))) .d))))) [] f117 true [(161,(.q (.cut [0,1] [] .d .d)))]
def t14(a:List LB)(g:Int)(f:LB):S:=⟨[(6,.own 0),(25,.val (.list (.list (.int .u8))) a),(26,vi (Ac a)),(27,vi g)],[Ab 5 f],[]⟩
def z14:ZT_ R_:=H.i P_ [r,r,r,r,l,r,d]
def t9(a:List LB)(b h:Int):S:=⟨[(0,.val (.list (.list (.int .u8))) a),(3,vi b),(9,.val (.list (.list (.int .u8))) a),(10,vi (Ac a)),(11,vi h)],[],[]⟩
def z9:ZT_ R_:=H.i P_ [r,r,l,r,d]
def x14(a:List LB)(g:Int)(f:LB):Option R_:=H.e P_ [r,r,r,r,l,r,d] (t14 a g f)
theorem i14(a:List LB):∀(q:Nat) (g:Int) (f:LB),z14 q (t14 a g f)=Dl a q g f:=
 ind (λ_ _=>by kernel_rfl) λq ih g f=>Eq.trans (b:=Ev Ad7 (λg f=>(z14 q) (t14 a g f)) a g f) F4 (by simp only[ih]<;>rfl)
theorem e14:x14=Kt:=by funext a g f;exact Eq.trans F4 ((i14 a Cz g f).trans (by rw[Az];rfl))
theorem i9(a:List LB):∀(q:Nat) (b h:Int),z9 q (t9 a b h)=Dy a q b h:=
 ind (λ_ _=>by kernel_rfl) λq ih b h=>Eq.trans (b:=Fi (Ky (Ld (Kx x14))) (λb h=>(z9 q) (t9 a b h)) a b h) F4 (by simp only[e14,ih]<;>rfl)
def k:KC_:=kk_ 117 H Jy func117 (λx=>Eq.trans (b:=Lz (λa b h=>z9 Cz (t9 a b h)) x) F4 (by simp only[i9,Az]<;>rfl))
end F117
namespace F85
abbrev R_:=(LB×Int)
abbrev K_:=S->Option R_
def H:=hd_ [.agg [Si,Si],.lf (.vec 16 (.int .i32)) none,Sw] [Ob 5,Si] (.q (.q (.q (.q (.q (.cut [11] [] (.q (.blk (.loop [3,10,11,30,31,32] [⟨11,[0],.own 5 (.int .u8)⟩] (.q (.q (.cut [3,10,11,30,31,32] [] (.blk (.q (.q (.q (.q (.keep [3,10,11,14,30,31,32,59] true)))))) .d)))))) .d)))))) [F88.k,F89.k,F117.k,F142.k,F143.k,F144.k] f85 false [(145,(.q (.q (.blk (.loop [0,3,7,8] [] (.q (.q (.seq (.blk (.q (.cut [0,3,4,7,8] [] .d (.q (.cut [0,3,7,8] [] .d .d))))) .d))))))))]
def t44(b:LU)(a g h f:Int)(n:List (Int×Int×UInt64×UInt64×Unit))(m:LB)(o k:Int)(w:LB):S:=⟨[(0,.ptr 0 []),(3,.ptr 1 []),(7,vi h),(8,vi o)],[.box 206 (.agg [.own 7,vi k]),.box 206 (.agg [.own 6,vi h]),.box 57 (.agg [vi a,vi g]),.box 223 (.val (.vec 6 (.cons (.int .i64) (.cons (.int .i64) (.cons (.int .u64) (.cons (.int .u64) .nil))))) n),.box 206 (.agg [.own 6,vi h]),Av 163 b,Ab 5 m,Ab 5 w],[[(3,.ptr 2 []),(10,.ptr 3 []),(11,.ptr 0 []),(14,.ptr 4 []),(30,.own 5),(31,vi (Ac b)),(32,vi f),(59,.agg [.own 6,vi h])]]⟩
def z44(MI:K_):ZT_ R_:=H.i P_ [r,r,r,r,r,l,r,d,(lp MI),r,r,l,d,r,r,r,r,(call 1 145),r,r,d]
def t27(b:LU)(a g f:Int)(u:List (Int×Int×UInt64×UInt64×Unit))(v:Int)(p:LB):S:=⟨[(3,.ptr 0 []),(10,.ptr 1 []),(11,.ptr 2 []),(30,.own 3),(31,vi (Ac b)),(32,vi f)],[.box 57 (.agg [vi a,vi g]),.box 223 (.val (.vec 6 (.cons (.int .i64) (.cons (.int .i64) (.cons (.int .u64) (.cons (.int .u64) .nil))))) u),.box 206 (.agg [.own 4,vi v]),Av 163 b,Ab 5 p],[]⟩
def z27:ZT_ R_:=H.i P_ [r,r,r,r,r,l,r,d]
def x44(MI:K_)(b:LU)(a g h f:Int)(n:List (Int×Int×UInt64×UInt64×Unit))(m:LB)(o k:Int)(w:LB):Option R_:=H.e P_ [r,r,r,r,r,l,r,d,(lp MI),r,r,l,d,r,r,r,r,(call 1 145),r,r,d] (t44 b a g h f n m o k w)
theorem i44(MI:K_)(b:LU)(a g h f:Int)(n:List (Int×Int×UInt64×UInt64×Unit))(m:LB):∀(q:Nat) (o k:Int) (w:LB),z44 MI q (t44 b a g h f n m o k w)=Fl (λf u v p=>MI (t27 b a g f u v p)) b a g h f n m q o k w:=
 ind (λ_ _ _=>by kernel_rfl) λq ih o k w=>Eq.trans (b:=Rm (Qp (λo k w=>(z44 MI q) (t44 b a g h f n m o k w)) h b f a g n m) (Zl (λf u v p=>MI (t27 b a g f u v p)) b a g) b a g h f n m o k w) F4 (by simp only[ih]<;>rfl)
theorem e44(MI:K_)(b:LU)(a g:Int):x44 MI b a g=Ab7 (λf u v p=>MI (t27 b a g f u v p)) b a g:=by funext h f n m o k w;exact Eq.trans F4 ((i44 MI b a g h f n m Cz o k w).trans (by rw[Az];rfl))
theorem i27(b:LU)(a g:Int):∀(q:Nat) (f:Int) (u:List (Int×Int×UInt64×UInt64×Unit)) (v:Int) (p:LB),z27 q (t27 b a g f u v p)=Gq b a g q f u v p:=
 ind (λ_ _ _ _=>by kernel_rfl) λq ih f u v p=>Eq.trans (b:=Qy (x44 (z27 q) b a g) Zd b a g f u v p) F4 (by simp only[e44,ih]<;>rfl)
def k:KC_:=kk_ 85 H (u4 Py) func85 (λx=>Eq.trans (b:=u4 (BP (λb a g f u v p=>z27 Cz (t27 b a g f u v p))) x) F4 (by simp only[i27,Az]<;>rfl))
end F85
theorem Bei:ConOk Tryz.prog gl 36 UO:=Ay8 F83.k.2 F80.k.2 F141.k.2 F85.k.2 F86.k.2
namespace F146
abbrev R_:=Bool
def H:=hd_ [.agg [Si,Si,Si,Si,Si]] [Sz] (.q (.cut [1] [] .d .d)) [] f146
def k:KC_:=kk_ 146 H (u5 Xs) func146
end F146
namespace F147
def H:=hd_ [.agg [Si,Si,Si,Si,Si]] [Sz] .d [F179.k] f147
def k:KC_:=kk_ 147 H (u5 KI) func147
end F147
namespace F87
def H:=hd_ [.agg [Si,Si,Si,Si,Si]] [Si] .d [F146.k,F147.k] f87
def k:KC_:=kk_ 87 H (u5 Qh) func87
end F87
namespace F37
abbrev R_:=(LB×Int)
def H:=hd_ [.agg [Si,Si,Si,Si,Si]] [Ob 5,Si] (.q (.q (.q (.cut [5] [] (.q (.blk (.loop [5,31,32] [] .d))) .d)))) [F87.k,F88.k,F89.k] f37
def t4(b f g h k m:Int)(a:LB):S:=⟨[(5,.own 0),(31,.val (.vec 5 (.int .i64)) ([b,f,g,h,k]:LI)),(32,vi m)],[Ab 5 a],[]⟩
def z4:ZT_ R_:=H.i P_ [r,r,r,l,r,d]
theorem i4(b f g h k:Int):∀(q:Nat) (m:Int) (a:LB),z4 q (t4 b f g h k m a)=Ke b f g h k q m a:=
 ind (λ_ _=>by kernel_rfl) λq ih m a=>Eq.trans (b:=Yu Yw (λm a=>(z4 q) (t4 b f g h k m a)) b f g h k m a) F4 (by simp only[ih]<;>rfl)
def k:KC_:=kk_ 37 H (u5 NV) func37 (λx=>Eq.trans (b:=u5 (ME (λb f g h k m a=>z4 Cz (t4 b f g h k m a))) x) F4 (by simp only[i4,Az]<;>rfl))
end F37
namespace F90
def H:=hd_ [Ss] [Sq,Si] .d [F129.k] f90
def k:KC_:=kk_ 90 H uC func90
end F90
namespace F38
def H:=hd_ [Ss] [Ob 5,Si] .d [F88.k,F90.k] f38
def k:KC_:=kk_ 38 H DD func38
end F38
namespace F91
abbrev R_:=Int
def H:=hd_ [Sl] [Si] (.q (.q (.q (.cut [] [] (.q (.blk (.loop [3,14,15,16] [] .d))) .d)))) [] f91
def t4(a:LI)(f b:Int):S:=⟨[(3,vi f),(14,vl a),(15,vi (Ac a)),(16,vi b)],[],[]⟩
def z4:ZT_ R_:=H.i P_ [r,r,r,l,r,d]
theorem i4(a:LI):∀(q:Nat) (f b:Int),z4 q (t4 a f b)=Pk a q f b:=
 ind (λ_ _=>by kernel_rfl) λq ih f b=>Eq.trans (b:=EH Ank (λf b=>(z4 q) (t4 a f b)) a f b) F4 (by simp only[ih]<;>rfl)
def k:KC_:=kk_ 91 H Qf func91 (λx=>Eq.trans (b:=DO (λa f b=>z4 Cz (t4 a f b)) x) F4 (by simp only[i4,Az]<;>rfl))
end F91
namespace F39
abbrev R_:=(LB×Int)
abbrev K_:=S->Option R_
def H:=hd_ [Sl] [Ob 5,Si] (.q (.q (.q (.q (.cut [5,6] [] (.q (.blk (.loop [5,6,17,18,19] [⟨5,[],.own 5 (.int .u8)⟩,⟨6,[0],.own 5 (.int .u8)⟩] (.q (.q (.cut [5,6,17,18,19] [] (.blk (.q (.keep [5,6,8,17,18,19,23,24,25] true))) .d)))))) (.q (.cut [5] [] (.keep [5,6,9,33,34,35] true) .d))))))) [F88.k,F89.k,F91.k] f39 false [(92,.d)]
def t8(a:LI)(f:Int)(b:LB):S:=⟨[(5,.ptr 0 []),(6,.fn 92 [.ptr 0 []]),(17,vl a),(18,vi (Ac a)),(19,vi f)],[.box 22 (.own 1),Ab 5 b],[]⟩
def z8:ZT_ R_:=H.i P_ [r,r,r,r,l,r,d]
theorem i8(a:LI):∀(q:Nat) (f:Int) (b:LB),z8 q (t8 a f b)=Oo a q f b:=
 ind (λ_ _=>by kernel_rfl) λq ih f b=>Eq.trans (b:=EG (LK (λf b=>(z8 q) (t8 a f b)) a) LA a f b) F4 (by simp only[ih]<;>rfl)
def k:KC_:=kk_ 39 H TR func39 (λx=>Eq.trans (b:=PK (λa f b=>z8 Cz (t8 a f b)) x) F4 (by simp only[i8,Az]<;>rfl))
end F39
namespace F41
def H:=hd_ [Sb] [Si] .d [] f41
def k:KC_:=kk_ 41 H UM func41
end F41
namespace F42
abbrev R_:=LB
def H:=hd_ [.lf (.list (.list (.int .u8))) none] [Ob 5] (.q (.q (.cut [3] [] (.q (.blk (.loop [3,6,7,8] [⟨3,[],.own 5 (.int .u8)⟩] .d))) .d))) [] f42
def t4(a:List LB)(f:Int)(b:LB):S:=⟨[(3,.own 0),(6,.val (.list (.list (.int .u8))) a),(7,vi (Ac a)),(8,vi f)],[Ab 5 b],[]⟩
def z4:ZT_ R_:=H.i P_ [r,r,l,r,d]
theorem i4(a:List LB):∀(q:Nat) (f:Int) (b:LB),z4 q (t4 a f b)=Pz a q f b:=
 ind (λ_ _=>by kernel_rfl) λq ih f b=>Eq.trans (b:=DJ Amp (λf b=>(z4 q) (t4 a f b)) a f b) F4 (by simp only[ih]<;>rfl)
def k:KC_:=kk_ 42 H jC func42 (λx=>Eq.trans (b:=Akv (λa f b=>z4 Cz (t4 a f b)) x) F4 (by simp only[i4,Az]<;>rfl))
end F42
namespace F8
abbrev R_:=(LB×Int)
abbrev K_:=S->Option R_
def H:=hd_ [.agg [Si,Si,Si,Sw],Ss] [Ob 5,Si] (.q (.q (.q (.q (.q (.q (.q (.q (.cut [8,9,10] [⟨10,[],.own 5 (.int .u8)⟩] .d (.cut [7,8,9,10,11] [] (.keep [7,8,9,10,11,46,48,49,50,51] true) .d)))))))))) [F35.k,⟨(36,UO),Bei⟩,F37.k,F38.k,F39.k,F41.k,F42.k] f8 false [(40,(.q (.q (.cut [5] [] (.q (.blk (.loop [1,5,11,12,13] [] (.q (.q (.cut [1,5,11,12,13] [] .d .d)))))) .d))))]
def t9(a:List LB)(b f:LB)(g:Int)(h:LI):S:=⟨[(1,.fn 41 []),(5,.own 0),(11,.own 1),(12,vi (Ac a)),(13,vi g)],[Ai 3 h,.arr 22 (.list (.int .u8)) a,Ab 5 b,Ab 5 f],[[(8,.own 1),(9,.own 2),(10,.own 3)]]⟩
def z9:ZT_ R_:=H.i P_ [r,r,r,r,r,r,r,r,r,l,(call 1 40),r,r,l,r,d]
theorem i9(a:List LB)(b f:LB):∀(q:Nat) (g:Int) (h:LI),z9 q (t9 a b f g h)=Px a b f q g h:=
 ind (λ_ _=>by kernel_rfl) λq ih g h=>Eq.trans (b:=DA (LJ (λg h=>(z9 q) (t9 a b f g h)) a b f) Rw a b f g h) F4 (by simp only[ih]<;>rfl)
def k:KC_:=kk_ 8 H (u5 KN) func8 (λx=>Eq.trans (b:=u5 (PC (ON (λa b f g h=>z9 Cz (t9 a b f g h)))) x) F4 (by simp only[i9,Az]<;>rfl))
end F8
namespace F68
def H:=hd_ [Ss] [Ob 5] .d [F8.k,F119.k] f68
def k:KC_:=kk_ 68 H Nf func68
end F68
namespace F165
def H:=hd_ [Sb,Sb] [Sz] .d [] f165
def k:KC_:=kk_ 165 H (u2 Ha) func165
end F165
namespace F177
def H:=hd_ [Sb,Sb] [Sz] .d [F165.k] f177
def k:KC_:=kk_ 177 H (u2 Kg) func177
end F177
namespace F235
abbrev R_:=(Int×Int)
def H:=hd_ [Sb] [Si,Si] (.q (.q (.q (.cut [4] [] (.q (.blk (.loop [4,10,11,12] [] .d))) .d)))) [] f235
def t4(a:LB)(b f:Int):S:=⟨[(4,vi b),(10,vb a),(11,vi (Ac a)),(12,vi f)],[],[]⟩
def z4:ZT_ R_:=H.i P_ [r,r,r,l,r,d]
theorem i4(a:LB):∀(q:Nat) (b f:Int),z4 q (t4 a b f)=Lh a q b f:=
 ind (λ_ _=>by kernel_rfl) λq ih b f=>Eq.trans (b:=Vy Ael (λb f=>(z4 q) (t4 a b f)) a b f) F4 (by simp only[ih]<;>rfl)
def k:KC_:=kk_ 235 H HQ func235 (λx=>Eq.trans (b:=HJ (λa b f=>z4 Cz (t4 a b f)) x) F4 (by simp only[i4,Az]<;>rfl))
end F235
namespace F217
def GV(j5:LB->UInt8->UInt8->Option (Int×Int))(a:LB):Option (Int×Int):=
(Kg a ([(73:UInt8),(68:UInt8),(51:UInt8)]:LB)).bind λn=>
if(!n)then
some (0,6)
else
if(Ci (Ac a) 10)then
some (0,24)
else
(Aj a 3).bind λf=>
(Aj a 5).bind λb=>
(λo:Option (Int×Int)=>
(λp:Option (Int×Int)=>
both (
both (
bo (
j5 a f b)) [
o,
o]) [
bo2 (
bo (
j5 a f b)),
p,
p]) (
both (
o) [
bo (
j5 a f b),
both (
bo (
j5 a f b)) [
j5 a f b]])) (
both (
j5 a f b) [
bo (
j5 a f b)])
theorem Bcb: @GV= @Yp:=by
  unfold GV Yp
  try simp only[wV,dU,iI]
  all_goals
    repeat (refine funext λ_=>?_)
    repeat' first
      |with_reducible rfl
      |with_reducible refine Yc ?_ ?_
      |with_reducible refine Xu ?_ ?_ ?_
      |with_reducible refine Yg ?_ ?_ ?_ ?_
      |((with_reducible refine HZ ?_ ?_);focus (intro h;first|(subst h;rfl)|(simp only[h];rfl)|(simp[Cm,Ac,h];done)))
      |with_reducible refine HL λx=>?_
      |with_reducible refine UL (λ_=>?_) (λ_=>?_)
      |(refine Nr (λh=>by simp only[h,HT,Ju,Jj,ite_self]) (λx h=>?_);(try simp only[h,Ju]))
      |(refine Sn (λh=>?_) (λh=>?_)<;>simp only[h,if_true,if_false,Bool.false_eq_true])
abbrev R_:=(Int×Int)
def H:=hd_ [Sb] [Si,Si] (.q (.q (.q (.cut [0,4,5] [] (.mode false) (.q (.q (.cut [0,5,6] [] (.cut [0,5,6,43] [] (.keep [0,5,6,7,8,31,32,33,34,35,36,37,38,39,40,41,42,43] true) .d) (.q (.cut [0,5,6] [] .d .d))))))))) [F165.k,F177.k,F235.k] f217 false [(236,.d)]
def x6(a:LB)(g:Int)(b:UInt8)(m:Bool):Option R_:=H.e P_ [r,r,r,r,r,r,l,r] ⟨[(0,vb a),(5,.ptr 0 []),(6,vi g),(43,vt m)],[.box 5 (vc b)],[]⟩
def x5(a:LB)(f b:UInt8):Option R_:=H.e P_ [r,r,r,r] ⟨[(0,vb a),(4,.ptr 0 []),(5,.ptr 1 [])],[.box 5 (vc f),.box 5 (vc b)],[]⟩
theorem e6:x6=KY:=F4
theorem e5:x5=LH:=Eq.trans (b:=MA x6) F4 (by simp only[e6]<;>rfl)
def k:KC_:=kk_ 217 H NJ func217 (λx=>Eq.trans (b:=GV x5 x) F4 (by rw[Bcb];simp only[e5]<;>rfl))
end F217
namespace F167
abbrev R_:=(UInt64×Int)
def H:=hd_ [Sb] [Sq,Si] (.q (.q (.q (.cut [4] [] (.q (.blk (.loop [4,15,16,17] [] .d))) .d)))) [] f167
def t4(a:LB)(f:UInt64)(b:Int):S:=⟨[(4,vq f),(15,vb a),(16,vi (Ac a)),(17,vi b)],[],[]⟩
def z4:ZT_ R_:=H.i P_ [r,r,r,l,r,d]
theorem i4(a:LB):∀(q:Nat) (f:UInt64) (b:Int),z4 q (t4 a f b)=Zw a q f b:=
 ind (λ_ _=>by kernel_rfl) λq ih f b=>Eq.trans (b:=TF Aul (λf b=>(z4 q) (t4 a f b)) a f b) F4 (by simp only[ih]<;>rfl)
def k:KC_:=kk_ 167 H fO func167 (λx=>Eq.trans (b:=jN (λa f b=>z4 Cz (t4 a f b)) x) F4 (by simp only[i4,Az]<;>rfl))
end F167
namespace F155
def H:=hd_ [Sb,Si,Si] [Sq,Si] .d [F167.k] f155
def k:KC_:=kk_ 155 H (u3 XB) func155
end F155
namespace F76
abbrev R_:=LB
def H:=hd_ [Si,Si,Sq] [Ob 5] (.q (.q (.cut [7] [] (.q (.blk (.loop [7,20,21,22] [] .d))) .d))) [F88.k] f76
def t4(a b:Int)(f:UInt64)(h:Int)(g:LB):S:=⟨[(7,.own 0),(20,.own 1),(21,vi (Ac ([(2000:UInt64),(Ad (Ae a (32:Int)):UInt64),(Ad b:UInt64),f,(0:UInt64),(0:UInt64)]:LQ))),(22,vi h)],[Ab 5 g,.arr 140 (.int .u64) ([(2000:UInt64),(Ad (Ae a (32:Int)):UInt64),(Ad b:UInt64),f,(0:UInt64),(0:UInt64)]:LQ)],[]⟩
def z4:ZT_ R_:=H.i P_ [r,r,l,r,d]
theorem i4(a b:Int)(f:UInt64):∀(q:Nat) (h:Int) (g:LB),z4 q (t4 a b f h g)=Zr a b f q h g:=
 ind (λ_ _=>by kernel_rfl) λq ih h g=>Eq.trans (b:=ZM nS (λh g=>(z4 q) (t4 a b f h g)) a b f h g) F4 (by simp only[ih]<;>rfl)
def k:KC_:=kk_ 76 H (u3 TH) func76 (λx=>Eq.trans (b:=u3 (oI (λa b f h g=>z4 Cz (t4 a b f h g))) x) F4 (by simp only[i4,Az]<;>rfl))
end F76
namespace F178
def H:=hd_ [Sb,Sq] [.agg [Si,Si],Sz] .d [F76.k,F155.k,F165.k] f178
def k:KC_:=kk_ 178 H (u2 OA) func178
end F178
namespace F218
def H:=hd_ [Sb] [Si,Si] .d [F76.k,F165.k,F177.k,F178.k] f218
def k:KC_:=kk_ 218 H kE func218
end F218
namespace F193
def H:=hd_ [Sb] [Si,Si] .d [F217.k,F218.k] f193
def k:KC_:=kk_ 193 H Ur func193
end F193
theorem Ayv:ConOk Tryz.prog gl 98 VJ:=Ayl ent98 F193.k.2
namespace F194
def H:=hd_ [Ss,Ss] [Sz] .d [] f194
def k:KC_:=kk_ 194 H (u2 Iy) func194
end F194
namespace F154
def H:=hd_ [Ss,Ss] [Sz] .d [F194.k] f154
def k:KC_:=kk_ 154 H (u2 Tt) func154
end F154
namespace F99
abbrev R_:=(Int×Int×Int×Int×Int×Int)
def H:=hd_ [Sb] [.agg [Si,Si,Si,Si,Si],Si] (.q (.q (.q (.q (.q (.q (.q (.cut [2,8] [] (.q (.blk (.loop [0,2,8,9,44,45] [] .d))) .d)))))))) [F89.k,F146.k,F147.k,F154.k,F155.k] f99
def t4(b:LB)(g f:Int)(a:LI):S:=⟨[(0,vb b),(2,.ptr 0 []),(8,.ptr 1 []),(9,vi g),(44,.val (.vec 5 (.int .i64)) ([(2:Int),(2:Int),(2:Int),(4:Int),(4:Int)]:LI)),(45,vi f)],[.box 24 (.agg [vi 0,vi 0,vi 0,vi 0,vi 0]),.box 161 (.val (.vec 5 (.int .i64)) a)],[]⟩
def z4:ZT_ R_:=H.i P_ [r,r,r,r,r,r,r,l,r,d]
theorem i4(b:LB):∀(q:Nat) (g f:Int) (a:LI),z4 q (t4 b g f a)=Lm b q g f a:=
 ind (λ_ _ _=>by kernel_rfl) λq ih g f a=>Eq.trans (b:=BO BM (λg f a=>(z4 q) (t4 b g f a)) b g f a) F4 (by simp only[ih]<;>rfl)
def k:KC_:=kk_ 99 H JA func99 (λx=>Eq.trans (b:=RB (λb g f a=>z4 Cz (t4 b g f a)) x) F4 (by simp only[i4,Az]<;>rfl))
end F99
namespace F100
def H:=hd_ [.agg [Si,Si,Si,Si,Si]] [Ol 3,Si] .d [F87.k,F141.k] f100
def k:KC_:=kk_ 100 H (u5 Xx) func100
end F100
namespace F77
def H:=hd_ [Sb] [.agg [.agg [Si,Si,Si,Si,Si],.agg [Si,Si,Si,Si,Si],Ol 3],Si] .d [⟨(98,VJ),Ayv⟩,F99.k,F100.k] f77
def k:KC_:=kk_ 77 H Qc func77
end F77
namespace F127
def H:=hd_ [Sb,Ss] [Sz,Si] .d [F38.k,F165.k] f127
def k:KC_:=kk_ 127 H (u2 Wg) func127
end F127
namespace F128
abbrev R_:=(LI×Int)
def H:=hd_ [Sb,Si] [Ol 3,Si] (.q (.q (.q (.q (.q (.q (.cut [10] [] (.q (.blk (.loop [0,10,48,49] [] .d))) .d))))))) [F89.k,F91.k,F155.k] f128
def t4(a:LB)(f:LI)(g:Int)(b:LI):S:=⟨[(0,vb a),(10,.own 0),(48,vi (Ac f)),(49,vi g)],[Ai 3 b],[]⟩
def z4:ZT_ R_:=H.i P_ [r,r,r,r,r,r,l,r,d]
theorem i4(a:LB)(f:LI):∀(q:Nat) (g:Int) (b:LI),z4 q (t4 a f g b)=Se a f q g b:=
 ind (λ_ _=>by kernel_rfl) λq ih g b=>Eq.trans (b:=HP HM (λg b=>(z4 q) (t4 a f g b)) a f g b) F4 (by simp only[ih]<;>rfl)
def k:KC_:=kk_ 128 H (u2 GZ) func128 (λx=>Eq.trans (b:=u2 (VH (λa f g b=>z4 Cz (t4 a f g b))) x) F4 (by simp only[i4,Az]<;>rfl))
end F128
namespace F131
def H:=hd_ [Sb] [Sb,Si] .d [F89.k,F167.k] f131
def k:KC_:=kk_ 131 H CX func131
end F131
namespace F132
def H:=hd_ [Sb] [.agg [Ob 5,Si],Si] .d [F109.k] f132
def k:KC_:=kk_ 132 H uj func132
end F132
namespace F172
abbrev R_:=UInt64
def H:=hd_ [.agg [Sb,Si],Si,Si] [Sq] (.q (.q (.cut [7] [] (.blk (.loop [1,2,3,7,8] [] .d)) .d))) [] f172
def t4(b f:Int)(h:LB)(k:Int)(g:UInt64)(a:Int):S:=⟨[(1,vi b),(2,vi f),(3,.ptr 0 []),(7,vq g),(8,vi a)],[.box 206 (.agg [vb h,vi k])],[]⟩
def z4:ZT_ R_:=H.i P_ [r,r,l,d]
theorem i4(b f:Int)(h:LB)(k:Int):∀(q:Nat) (g:UInt64) (a:Int),z4 q (t4 b f h k g a)=JJ b f h k q g a:=
 ind (λ_ _=>by kernel_rfl) λq ih g a=>Eq.trans (b:=gV Av7 (λg a=>(z4 q) (t4 b f h k g a)) b f h k g a) F4 (by simp only[ih]<;>rfl)
def k:KC_:=kk_ 172 H (u4 rI) func172 (λx=>Eq.trans (b:=u4 (Au5 (λb f h k g a=>z4 Cz (t4 b f h k g a))) x) F4 (by simp only[i4,Az]<;>rfl))
end F172
namespace F169
abbrev R_:=(LB×Int×Int)
abbrev K_:=S->Option R_
def H:=hd_ [.agg [Sb,Si],Si,Si] [.agg [Ob 5,Si],Si] (.q (.q (.q (.q (.cut [6,8] [] (.q (.blk (.loop [2,3,6,8,9] [⟨8,[0],.own 5 (.int .u8)⟩] (.q (.cut [2,3,6,8,9] [] (.blk (.q (.keep [2,3,6,8,9,10,39,40,41,42,43] true))) .d))))) .d))))) [F171.k,F172.k] f169 false [(202,(.blk (.loop [0,1,2] [] (.q (.blk (.cut [0,1,2] [] .d (.q (.cut [0,1,2,7] [] .d .d))))))))]
def t44(a:Int)(g:LB)(b f:Int)(m n:UInt64)(k h:Int)(u:LB):S:=⟨[(0,.ptr 0 []),(1,vq n),(2,vi k)],[.box 206 (.agg [.own 3,vi h]),.box 206 (.agg [vb g,vi b]),.box 206 (.agg [.nils,vi 0]),Ab 5 u],[[(2,vi a),(3,.ptr 1 []),(6,.ptr 2 []),(8,.ptr 0 []),(9,vi f),(10,vi (Gf (64:Int) (Ah a f))),(39,.agg [vb g,vi b]),(40,vi f),(41,vi (Gf (64:Int) (Ah a f))),(42,vq m),(43,vi (Gf (64:Int) (Ah a f)))]]⟩
def z44(MI:K_):ZT_ R_:=H.i P_ [r,r,r,r,l,r,d,(lp MI),r,l,d,r,(call 5 202),d]
def t27(a:Int)(g:LB)(b f o:Int)(p:LB):S:=⟨[(2,vi a),(3,.ptr 0 []),(6,.ptr 1 []),(8,.ptr 2 []),(9,vi f)],[.box 206 (.agg [vb g,vi b]),.box 206 (.agg [.nils,vi 0]),.box 206 (.agg [.own 3,vi o]),Ab 5 p],[]⟩
def z27:ZT_ R_:=H.i P_ [r,r,r,r,l,r,d]
def x44(MI:K_)(a:Int)(g:LB)(b f:Int)(m n:UInt64)(k h:Int)(u:LB):Option R_:=H.e P_ [r,r,r,r,l,r,d,(lp MI),r,l,d,r,(call 5 202),d] (t44 a g b f m n k h u)
theorem i44(MI:K_)(a:Int)(g:LB)(b f:Int)(m:UInt64):∀(q:Nat) (n:UInt64) (k h:Int) (u:LB),z44 MI q (t44 a g b f m n k h u)=Nd (λf o p=>MI (t27 a g b f o p)) a g b f m q n k h u:=
 ind (λ_ _ _ _=>by kernel_rfl) λq ih n k h u=>Eq.trans (b:=NO (NS (λn k h u=>(z44 MI q) (t44 a g b f m n k h u)) a f g b m) (NI (λf o p=>MI (t27 a g b f o p)) a g b) a g b f m n k h u) F4 (by simp only[ih]<;>rfl)
theorem e44(MI:K_)(a:Int)(g:LB)(b:Int):x44 MI a g b=aI (λf o p=>MI (t27 a g b f o p)) a g b:=by funext f m n k h u;exact Eq.trans F4 ((i44 MI a g b f m Cz n k h u).trans (by rw[Az];rfl))
theorem i27(a:Int)(g:LB)(b:Int):∀(q:Nat) (f o:Int) (p:LB),z27 q (t27 a g b f o p)=Vt a g b q f o p:=
 ind (λ_ _ _=>by kernel_rfl) λq ih f o p=>Eq.trans (b:=aE (x44 (z27 q) a g b) YV a g b f o p) F4 (by simp only[e44,ih]<;>rfl)
def k:KC_:=kk_ 169 H (u4 gP) func169 (λx=>Eq.trans (b:=u4 (hU (λa g b f o p=>z27 Cz (t27 a g b f o p))) x) F4 (by simp only[i27,Az]<;>rfl))
end F169
namespace F134
def H:=hd_ [.agg [Sb,Si],Si,Si] [Sq,Si] .d [F171.k,F172.k] f134
def k:KC_:=kk_ 134 H (u4 DK) func134
end F134
namespace F244
def H:=hd_ [Sq] [Si] .d [] f244
def k:KC_:=kk_ 244 H Fv func244
end F244
namespace F228
def SE(j6:Int->UInt64->Int->LB->Int->Option (Int×Int×Int))(g:LB)(b a:Int):Option (Int×Int×Int):=
(Hr g b).bind λm=>
if(Bl m 0)then
some (0,0,m)
else
if(Ci a 0)then
some (0,0,2)
else
if(Lj a b)then
some (0,0,24)
else
(λn:Option (Int×Int×Int)=>
(λo:Option (Int×Int×Int)=>
bo2 (
o)) (
bo (
n))) (
(DK g b a (Gf 48 (Ah b a))).bind λ(k,h)=>
j6 h k a g b)
theorem Bd0: @SE= @Yj:=by
  unfold SE Yj;simp only[wV,dU,iI]
abbrev R_:=(Int×Int×Int)
def H:=hd_ [.agg [Sb,Si],Si] [Si,Si,Si] (.q (.q (.q (.q (.q (.cut [3,5,6,8,9] [] (.keep [2,3,5,6,8,9,22,23,24,25,26,27,28,29] false) (.q (.q (.cut [] [] (.blk (.seq (.blk (.seq (.blk (.cut [] [] (.cut [3,4,5] [] (.cut [3,4,5,36] [] (.keep [3,4,5,8,36,37,38,39,40] true) .d) .d) .d)) .d)) .d)) .d))))))))) [F134.k,F171.k,F244.k] f228 false [(243,.d)]
def k:KC_:=kk_ 228 H (u3 HE) func228 (λx=>Eq.trans (b:=u3 (SE UN) x) F4 (by simp only[Bd0]<;>rfl))
end F228
namespace F203
abbrev R_:=(UInt32×Int×Int)
def H:=hd_ [.agg [Sb,Si],Si,Si] [Su,Si,Si] (.q (.q (.q (.q (.q (.q (.cut [2,3,7,10,11] [] .d .d))))))) [F134.k,F171.k,F214.k,F228.k] f203
def k:KC_:=kk_ 203 H (u4 kK) func203
end F203
namespace F170
abbrev R_:=(UInt32×Int×Int×Int×UInt64×UInt64×Int)
def H:=hd_ [.agg [Sb,Si],Si,.agg [Si,Si,Sq,Sq]] [Su,Si,.agg [Si,Si,Sq,Sq],Si] (.q (.cut [1,3,5,8] [] .d (.q (.q (.cut [5,6,7,8] [] .d (.cut [5,6,7,8] [] (.keep [5,6,7,8,81] true) .d)))))) [F134.k,F171.k,F186.k,F187.k,F203.k] f170 false [(190,(.q (.q (.q (.blk (.cut [0,1,4] [] (.blk (.q (.keep [0,1,4,6,18,19,20,21,22,23,24,25] true))) (.cut [] [] (.keep [0,1,4,27,28,29,30,31,32,33,34] true) .d))))))),(216,.d)]
def x8(f:UInt32)(k a:Int)(b:UInt64)(m:Int)(n:UInt64):Option R_:=H.e P_ [r,r,r,r,r,l,(call 1 190),r,r,r,d,r] ⟨[(0,.ptr 0 []),(1,vu f),(4,.fn 216 [])],[.box 222 (.agg [vi a,vi m,vq b,vq n]),.box 222 (.agg [vi 0,vi 0,vq 0,vq 0])],[[(5,.ptr 0 []),(6,vu f),(7,vi k),(8,.ptr 1 []),(81,vu f)]]⟩
theorem e8:x8=ED:=F4
def k:KC_:=kk_ 170 H (u7 GW) func170 (λx=>Eq.trans (b:=u7 (bE (ZC (YW x8))) x) F4 (by simp only[e8]<;>rfl))
end F170
namespace F133
def Xb(j21:Int->Int->Int->UInt32->Int-> (List (Int×Int×UInt64×UInt64×Unit))->LU->Int->Int->UInt64->UInt64->Option (LU×Int×Int))(j24:Int->LU->Option (LU×Int×Int))(a f:Int)(g:LB)(b k h:Int)(m:List (Int×Int×UInt64×UInt64×Unit))(n:LU):Option (LU×Int×Int):=
if(Ci h (Bd f a))then
(gP g b k (Gf (Ae k 81) b)).bind λ(ag,ae,af)=>
if(Bl af 0)then
some (([]:LU),0,af)
else
(Hu (Bl a 0)).bind λ_=>
(Aj m (Ge h a)).bind λ_=>
(λai:Option (LU×Int×Int)=>
both (
both (
(Aj m (Ge h a)).bind λo=>
(λao:Option (LU×Int×Int)=>
bo (
ao)) (
(GW ag ae 0 o.1 o.2.1 o.2.2.1 o.2.2.2.1).bind λ(w,v,aa,ab,ac,ad,y)=>
j21 k h y w v m n aa ab ac ad)) [
ai]) [
(Aj m (Ge h a)).bind λo=>
(λaj:Option (LU×Int×Int)=>
both (
bo (
aj)) [
aj]) (
(GW ag ae 0 o.1 o.2.1 o.2.2.1 o.2.2.2.1).bind λ(w,v,aa,ab,ac,ad,y)=>
j21 k h y w v m n aa ab ac ad),
bo (
ai)]) (
(Aj m (Ge h a)).bind λo=>
(GW ag ae 0 o.1 o.2.1 o.2.2.1 o.2.2.2.1).bind λ(w,v,aa,ab,ac,ad,y)=>
j21 k h y w v m n aa ab ac ad)
else
j24 k n
theorem Bah: @Xb= @Rn:=by
  unfold Xb Rn
  try simp only[wV,dU,iI]
  all_goals
    repeat (refine funext λ_=>?_)
    repeat' first
      |with_reducible rfl
      |with_reducible refine Yc ?_ ?_
      |with_reducible refine Xu ?_ ?_ ?_
      |with_reducible refine Yg ?_ ?_ ?_ ?_
      |((with_reducible refine HZ ?_ ?_);focus (intro h;first|(subst h;rfl)|(simp only[h];rfl)|(simp[Cm,Ac,h];done)))
      |with_reducible refine HL λx=>?_
      |with_reducible refine UL (λ_=>?_) (λ_=>?_)
      |(refine Nr (λh=>by simp only[h,HT,Ju,Jj,ite_self]) (λx h=>?_);(try simp only[h,Ju]))
      |(refine Sn (λh=>?_) (λh=>?_)<;>simp only[h,if_true,if_false,Bool.false_eq_true])
abbrev R_:=(LU×Int×Int)
abbrev K_:=S->Option R_
def H:=hd_ [Si,Si,.agg [Sb,Si]] [Ov 163,Si,Si] (.q (.q (.cut [0,1,5,9] [] (.q (.blk (.loop [0,1,5,9,19] [] .d))) (.q (.q (.cut [11,12] [] (.q (.blk (.loop [0,5,9,11,12,28,29] [⟨11,[],.own 163 (.int .u32)⟩] (.q (.q (.seq (.blk (.q (.q (.q (.cut [0,5,9,11,12,13,15,16,17,18,28,29] [] (.mode false) (.q (.cut [0,5,9,11,12,16,28,29] [] .d .d))))))) .d)))))) .d)))))) [F168.k,F169.k,F170.k] f133
def t16(a f:Int)(g:LB)(b k h:Int)(m:List (Int×Int×UInt64×UInt64×Unit))(n:LU):S:=⟨[(0,vi a),(5,.ptr 0 []),(9,.ptr 1 []),(11,.own 2),(12,vi k),(28,vi (Bd f a)),(29,vi h)],[.box 206 (.agg [vb g,vi b]),.box 223 (.val (.vec 6 (.cons (.int .i64) (.cons (.int .i64) (.cons (.int .u64) (.cons (.int .u64) .nil))))) m),Av 163 n],[]⟩
def z16:ZT_ R_:=H.i P_ [r,r,r,r,r,l,r,d]
def t13(a f:Int)(g:LB)(b u:Int)(p:List (Int×Int×UInt64×UInt64×Unit)):S:=⟨[(0,vi a),(1,vi f),(5,.ptr 0 []),(9,.ptr 1 []),(19,vi u)],[.box 206 (.agg [vb g,vi b]),.box 223 (.val (.vec 6 (.cons (.int .i64) (.cons (.int .i64) (.cons (.int .u64) (.cons (.int .u64) .nil))))) p)],[]⟩
def z13:ZT_ R_:=H.i P_ [r,r,l,r,d]
def x16(a f:Int)(g:LB)(b k h:Int)(m:List (Int×Int×UInt64×UInt64×Unit))(n:LU):Option R_:=H.e P_ [r,r,r,r,r,l,r,d] (t16 a f g b k h m n)
theorem i16(a f:Int)(g:LB)(b:Int):∀(q:Nat) (k h:Int) (m:List (Int×Int×UInt64×UInt64×Unit)) (n:LU),z16 q (t16 a f g b k h m n)=Ll a f g b q k h m n:=
 ind (λ_ _ _ _=>by kernel_rfl) λq ih k h m n=>Eq.trans (b:=Xb (Qt (λk h m n=>(z16 q) (t16 a f g b k h m n)) a f g b) Ac2 a f g b k h m n) F4 (by rw[Bah];simp only[ih]<;>rfl)
theorem e16:x16=Ac7:=by funext a f g b k h m n;exact Eq.trans F4 ((i16 a f g b Cz k h m n).trans (by rw[Az];rfl))
theorem i13(a f:Int)(g:LB)(b:Int):∀(q:Nat) (u:Int) (p:List (Int×Int×UInt64×UInt64×Unit)),z13 q (t13 a f g b u p)=Yz a f g b q u p:=
 ind (λ_ _=>by kernel_rfl) λq ih u p=>Eq.trans (b:=Aah (Aac x16) (λu p=>(z13 q) (t13 a f g b u p)) a f g b u p) F4 (by simp only[e16,ih]<;>rfl)
def k:KC_:=kk_ 133 H (u4 CU) func133 (λx=>Eq.trans (b:=u4 (CT (λa f g b u p=>z13 Cz (t13 a f g b u p))) x) F4 (by simp only[i13,Az]<;>rfl))
end F133
namespace F175
def H:=hd_ [Su] [Sx] .d [] f175
def k:KC_:=kk_ 175 H Wf func175
end F175
namespace F207
def H:=hd_ [.agg [Si,.lf (.vec 16 (.int .i32)) none,.lf (.vec 16 (.int .i32)) none],Sx] [Sx,.agg [Si,.lf (.vec 16 (.int .i32)) none,.lf (.vec 16 (.int .i32)) none],Si] .d [F231.k,F232.k] f207
def k:KC_:=kk_ 207 H (u4 jE) func207
end F207
namespace F174
def QD(a:Int)(b:Int32)(f:Int)(g h:LX)(o:Int32):Option (Int32×Int×Int32×Int×LX×LX×Int):=
(Us a b f g h).bind λk=>
if(Bl k 0)then
some (0,0,0,0,(List.replicate 16 (0:Int32)),(List.replicate 16 (0:Int32)),k)
else
(Uu a b).bind λ(m,y)=>
(jE f g h o).bind λ(n,p,u,v,w)=>
(λaa:Option (Int32×Int×Int32×Int×LX×LX×Int)=>
bo (
aa)) (
some ((Ae n m),a,(Ae n m),p,u,v,w))
theorem Bd3: @QD= @Ki:=by
  unfold QD Ki;simp only[wV,dU,iI]
def H:=hd_ [.agg [Si,Sx,.agg [Si,.lf (.vec 16 (.int .i32)) none,.lf (.vec 16 (.int .i32)) none]],Sx] [Sx,.agg [Si,Sx,.agg [Si,.lf (.vec 16 (.int .i32)) none,.lf (.vec 16 (.int .i32)) none]],Si] (.q (.q (.q (.q (.seq (.mode false) .d))))) [F205.k,F206.k,F207.k] f174
def k:KC_:=kk_ 174 H (u6 Ki) func174 (λx=>Eq.trans (b:=u6 QD x) F4 (by simp only[Bd3]<;>rfl))
end F174
namespace F176
abbrev R_:=(LX×Int)
abbrev K_:=S->Option R_
def H:=hd_ [Si,Sw] [Ow 21,Si] (.q (.q (.q (.cut [7] [] (.q (.blk (.loop [0,7,8] [] (.q (.cut [0,7,8] [] (.blk (.keep [0,7,8,24,25,26,27,28,29] true)) .d))))) .d)))) [F160.k,F208.k] f176 true [(209,(.q (.cut [0,2] [] .d (.q (.blk (.loop [0,3] [] .d))))))]
def t18(b a g:Int)(h:LX):S:=⟨[(0,.view true 0 [] (.int .i32) a ((Ae a b)-a)),(3,vi g)],[Aw 21 h],[[(0,vi b),(7,.own 0),(8,vi a),(24,.own 0),(25,vi a),(26,vi a),(27,vi b),(28,vi (Ae a b)),(29,.view true 0 [] (.int .i32) a ((Ae a b)-a))]]⟩
def z18(MH:K_):ZT_ R_:=H.i P_ [r,r,r,l,r,d,(lp MH),r,l,d,(call 6 209),r,r,r,d]
def t12(b a:Int)(f:LX):S:=⟨[(0,vi b),(7,.own 0),(8,vi a)],[Aw 21 f],[]⟩
def z12:ZT_ R_:=H.i P_ [r,r,r,l,r,d]
def x18(MH:K_)(b a g:Int)(h:LX):Option R_:=H.e P_ [r,r,r,l,r,d,(lp MH),r,l,d,(call 6 209),r,r,r,d] (t18 b a g h)
theorem i18(MH:K_)(b a:Int):∀(q:Nat) (g:Int) (h:LX),z18 MH q (t18 b a g h)=Wd (λa f=>MH (t12 b a f)) b a q g h:=
 ind (λ_ _=>by kernel_rfl) λq ih g h=>Eq.trans (b:=NL (ZV (λa f=>MH (t12 b a f)) b) (λg h=>(z18 MH q) (t18 b a g h)) b a g h) F4 (by simp only[ih]<;>rfl)
theorem e18(MH:K_)(b:Int):x18 MH b=YU (λa f=>MH (t12 b a f)) b:=by funext a g h;exact Eq.trans F4 ((i18 MH b a Cz g h).trans (by rw[Az];rfl))
theorem i12(b:Int):∀(q:Nat) (a:Int) (f:LX),z12 q (t12 b a f)=Qx b q a f:=
 ind (λ_ _=>by kernel_rfl) λq ih a f=>Eq.trans (b:=YO (YH (x18 (z12 q) b) b) Arm b a f) F4 (by simp only[e18,ih]<;>rfl)
def k:KC_:=kk_ 176 H (u2 pX) func176 (λx=>Eq.trans (b:=u2 (jH (λb a f=>z12 Cz (t12 b a f))) x) F4 (by simp only[i12,Az]<;>rfl))
end F176
namespace F135
def Va(j16:Int->Int32->Int-> (List (Int×Int32×(Int×LX×LX×Unit)×Unit))->LX->Int->Int32->Int->LX->LX->Option (LX×Int))(j18:Int->Int->LX->Option (LX×Int))(f:LU)(a b g:Int)(h:List (Int×Int32×(Int×LX×LX×Unit)×Unit))(k:LX):Option (LX×Int):=
if(Ci g (Ac f))then
(Aj f g).bind λag=>
(Hu (Bl a 0)).bind λ_=>
(Aj h (Ge g a)).bind λ_=>
both (
(Aj h (Ge g a)).bind λm=>
both (
(Wf ag).bind λae=>
(λao:Option (LX×Int)=>
bo (
ao)) (
(Ki m.1 m.2.1 m.2.2.1.1 m.2.2.1.2.1 m.2.2.1.2.2.1 ae).bind λ(y,aa,w,ab,ac,ad,v)=>
j16 g y v h k aa w ab ac ad)) [
(Wf ag).bind λae=>
(Ki m.1 m.2.1 m.2.2.1.1 m.2.2.1.2.1 m.2.2.1.2.2.1 ae).bind λ(y,aa,w,ab,ac,ad,v)=>
j16 g y v h k aa w ab ac ad]) [
(Wf ag).bind λaf=>
both (
(Aj h (Ge g a)).bind λu=>
(λap:Option (LX×Int)=>
bo (
ap)) (
(Ki u.1 u.2.1 u.2.2.1.1 u.2.2.1.2.1 u.2.2.1.2.2.1 af).bind λ(y,aa,w,ab,ac,ad,v)=>
j16 g y v h k aa w ab ac ad)) [
(Aj h (Ge g a)).bind λu=>
(Ki u.1 u.2.1 u.2.2.1.1 u.2.2.1.2.1 u.2.2.1.2.2.1 af).bind λ(y,aa,w,ab,ac,ad,v)=>
j16 g y v h k aa w ab ac ad],
both (
(Aj h (Ge g a)).bind λm=>
(Wf ag).bind λae=>
(Ki m.1 m.2.1 m.2.2.1.1 m.2.2.1.2.1 m.2.2.1.2.2.1 ae).bind λ(y,aa,w,ab,ac,ad,v)=>
j16 g y v h k aa w ab ac ad) [
(Wf ag).bind λaf=>
(Aj h (Ge g a)).bind λu=>
(Ki u.1 u.2.1 u.2.2.1.1 u.2.2.1.2.1 u.2.2.1.2.2.1 af).bind λ(y,aa,w,ab,ac,ad,v)=>
j16 g y v h k aa w ab ac ad]]
else
j18 a b k
theorem Azm: @Va= @Kn:=by
  unfold Va Kn
  try simp only[wV,dU,iI]
  all_goals
    repeat (refine funext λ_=>?_)
    repeat' first
      |with_reducible rfl
      |with_reducible refine Yc ?_ ?_
      |with_reducible refine Xu ?_ ?_ ?_
      |with_reducible refine Yg ?_ ?_ ?_ ?_
      |((with_reducible refine HZ ?_ ?_);focus (intro h;first|(subst h;rfl)|(simp only[h];rfl)|(simp[Cm,Ac,h];done)))
      |with_reducible refine HL λx=>?_
      |with_reducible refine UL (λ_=>?_) (λ_=>?_)
      |(refine Nr (λh=>by simp only[h,HT,Ju,Jj,ite_self]) (λx h=>?_);(try simp only[h,Ju]))
      |(refine Sn (λh=>?_) (λh=>?_)<;>simp only[h,if_true,if_false,Bool.false_eq_true])
abbrev R_:=(LX×Int)
abbrev K_:=S->Option R_
def H:=hd_ [.agg [Si,Si],.lf (.vec 16 (.int .i32)) none,Sv] [Ow 21,Si] (.q (.q (.cut [2,3,8] [] (.q (.blk (.loop [2,3,4,8,20] [] .d))) (.q (.cut [3,10] [] (.q (.blk (.loop [3,8,10,33,34,35] [⟨10,[],.own 21 (.int .i32)⟩] (.q (.q (.seq (.blk (.q (.q (.cut [3,8,10,13,14,15,16,33,34,35] [] (.mode false) .d)))) .d)))))) .d))))) [F139.k,F173.k,F174.k,F175.k,F176.k] f135
def t13(f:LU)(a b g:Int)(h:List (Int×Int32×(Int×LX×LX×Unit)×Unit))(k:LX):S:=⟨[(3,.ptr 0 []),(8,.ptr 1 []),(10,.own 2),(33,vv f),(34,vi (Ac f)),(35,vi g)],[.box 57 (.agg [vi a,vi b]),.box 266 (.val (.vec 6 (.cons (.int .i64) (.cons (.int .i32) (.cons (.cons (.int .i64) (.cons (.vec 16 (.int .i32)) (.cons (.vec 16 (.int .i32)) .nil))) .nil)))) h),Aw 21 k],[]⟩
def z13:ZT_ R_:=H.i P_ [r,r,r,r,l,r,d]
def t10(f:LU)(a b:Int)(o:LX)(p:Int)(n:List (Int×Int32×(Int×LX×LX×Unit)×Unit)):S:=⟨[(2,vv f),(3,.ptr 0 []),(4,.ptr 1 []),(8,.ptr 2 []),(20,vi p)],[.box 57 (.agg [vi a,vi b]),.box 149 (.val (.vec 16 (.int .i32)) o),.box 266 (.val (.vec 6 (.cons (.int .i64) (.cons (.int .i32) (.cons (.cons (.int .i64) (.cons (.vec 16 (.int .i32)) (.cons (.vec 16 (.int .i32)) .nil))) .nil)))) n)],[]⟩
def z10:ZT_ R_:=H.i P_ [r,r,l,r,d]
def x13(f:LU)(a b g:Int)(h:List (Int×Int32×(Int×LX×LX×Unit)×Unit))(k:LX):Option R_:=H.e P_ [r,r,r,r,l,r,d] (t13 f a b g h k)
theorem i13(f:LU)(a b:Int):∀(q:Nat) (g:Int) (h:List (Int×Int32×(Int×LX×LX×Unit)×Unit)) (k:LX),z13 q (t13 f a b g h k)=Hv f a b q g h k:=
 ind (λ_ _ _=>by kernel_rfl) λq ih g h k=>Eq.trans (b:=Va (Xg (λg h k=>(z13 q) (t13 f a b g h k)) a f b) Ko f a b g h k) F4 (by rw[Azm];simp only[ih]<;>rfl)
theorem e13:x13=NH:=by funext f a b g h k;exact Eq.trans F4 ((i13 f a b Cz g h k).trans (by rw[Az];rfl))
theorem i10(f:LU)(a b:Int)(o:LX):∀(q:Nat) (p:Int) (n:List (Int×Int32×(Int×LX×LX×Unit)×Unit)),z10 q (t10 f a b o p n)=Xn f a b o q p n:=
 ind (λ_ _=>by kernel_rfl) λq ih p n=>Eq.trans (b:=ND (NA x13) (λp n=>(z10 q) (t10 f a b o p n)) f a b o p n) F4 (by simp only[e13,ih]<;>rfl)
def k:KC_:=kk_ 135 H (u4 Rs) func135 (λx=>Eq.trans (b:=u4 (Zk (λf a b o p n=>z10 Cz (t10 f a b o p n))) x) F4 (by simp only[i10,Az]<;>rfl))
end F135
namespace F81
def H:=hd_ [.agg [Si,Si],.lf (.vec 16 (.int .i32)) none,Si,Sb] [Ow 21,Si] .d [F114.k,F131.k,F132.k,F133.k,F134.k,F135.k] f81
def k:KC_:=kk_ 81 H (u5 Lk) func81
end F81
namespace F137
abbrev R_:=(Int×Int)
def H:=hd_ [Sb] [Si,Si] (.q (.q (.cut [0,4] [] .d .d))) [F76.k,F165.k,F177.k,F178.k] f137
def k:KC_:=kk_ 137 H pR func137
end F137
namespace F82
abbrev R_:=(Int×Int)
abbrev K_:=S->Option R_
def H:=hd_ [Sb] [Si,Si] (.q (.q (.q (.q (.cut [5] [] (.blk (.loop [1,4,5] [] (.q (.cut [1,4,5] [] (.blk (.cut [1,4,5,6] [] (.keep [1,4,5,6,16,17] true) .d)) .d)))) .d))))) [F137.k] f82 false [(136,.d)]
def t8(a:Int)(b:LB):S:=⟨[(1,.ptr 0 []),(4,.fn 136 [.ptr 0 []]),(5,vi a)],[.box 22 (vb b)],[]⟩
def z8:ZT_ R_:=H.i P_ [r,r,r,r,l,d]
theorem i8:∀(q:Nat) (a:Int) (b:LB),z8 q (t8 a b)=Rq q a b:=
 ind (λ_ _=>by kernel_rfl) λq ih a b=>Eq.trans (b:=LZ (GY (λa b=>(z8 q) (t8 a b))) Aen a b) F4 (by simp only[ih]<;>rfl)
def k:KC_:=kk_ 82 H NN func82 (λx=>Eq.trans (b:=LV (λa b=>z8 Cz (t8 a b)) x) F4 (by simp only[i8,Az]<;>rfl))
end F82
namespace F32
abbrev R_:=(Int×Int×Int×LX×Int)
abbrev K_:=S->Option R_
def H:=hd_ [Sb,Ss] [.agg [Si,Si,Si,Ow 21],Si] (.q (.q (.q (.q (.cut [0,1,4,6] [] (.cut [0,1,4,6,8] [] (.keep [0,1,4,6,8,34,35,36] true) .d) (.cut [0,1,4,6,7,9] [⟨9,[],.own 3 (.int .i64)⟩] (.keep [0,1,4,6,7,9,41,42,43,44,45] true) (.q (.q (.q (.q (.q (.cut [0,4,10,14] [] (.q (.blk (.loop [0,4,6,10,11,12,14,75,76,77] [⟨10,[3],.own 21 (.int .i32)⟩] (.q (.q (.seq (.blk (.q (.q (.cut [0,4,6,10,11,12,14,16,17,18,75,76,77] [] .d .d)))) .d)))))) .d)))))))))))) [F77.k,F80.k,F81.k,F82.k,F127.k,F128.k] f32 false [(78,.d),(79,(.q (.q (.cut [0,6,7] [] .d (.q (.q (.q (.cut [6] [] (.q (.blk (.loop [0,6,60,61,62] [] .d))) .d))))))))]
def t21(a:LB)(w:LI)(m f g h o p n b ab ae:Int)(ac:LX)(k:LI)(y aa:Int)(ad:LX):S:=⟨[(0,vb a),(4,.ptr 0 []),(6,.ptr 1 []),(10,.ptr 2 []),(11,.ptr 3 []),(12,.ptr 4 []),(14,vi y),(75,.own 5),(76,vi (Ac w)),(77,vi aa)],[.box 37 (.agg [vi 0,vi 0,vi 0,.nils]),.box 143 (.agg [.agg [vi m,vi f,vi g,vi h,vi o],.agg [vi p,vi n,vi b,vi ab,vi ae],.own 6]),.box 37 (.agg [vi f,vi g,vi h,.own 7]),.box 57 (.agg [vi f,vi g]),.box 149 (.val (.vec 16 (.int .i32)) ac),Ai 3 w,Ai 3 k,Aw 21 ad],[]⟩
def z21:ZT_ R_:=H.i P_ [r,r,r,r,r,r,r,r,r,r,r,l,r,d]
def t17(v:LI)(a u:LB)(m f g h o p n b:Int)(k:LI)(ag af:Int):S:=⟨[(0,.ptr 0 []),(6,.own 1),(60,.own 1),(61,vi (Ac v)),(62,vi ag)],[.box 143 (.agg [.agg [vi m,vi f,vi g,vi h,vi o],.agg [vi p,vi n,vi b,vi (Ae (Ae b (Bd (4:Int) (Ac v))) (4:Int)),vi af],.own 3]),Ai 3 v,.box 37 (.agg [vi 0,vi 0,vi 0,.nils]),Ai 3 k],[[(0,vb a),(1,vs u),(4,.ptr 2 []),(6,.ptr 0 []),(42,vb a)]]⟩
def z17:ZT_ R_:=H.i P_ [r,r,r,r,r,l,(call 1 79),r,r,r,r,r,r,l,r,d]
def x21(a:LB)(w:LI)(m f g h o p n b ab ae:Int)(ac:LX)(k:LI)(y aa:Int)(ad:LX):Option R_:=H.e P_ [r,r,r,r,r,r,r,r,r,r,r,l,r,d] (t21 a w m f g h o p n b ab ae ac k y aa ad)
def x14(a u:LB)(m f g h o p n b ah ai:Int)(k:LI)(am:Int):Option R_:=H.e P_ [r,r,r,r,l,r] ⟨[(0,vb a),(1,vs u),(4,.ptr 0 []),(6,.ptr 1 []),(8,vi am)],[.box 37 (.agg [vi 0,vi 0,vi 0,.nils]),.box 143 (.agg [.agg [vi m,vi f,vi g,vi h,vi o],.agg [vi p,vi n,vi b,vi ah,vi ai],.own 2]),Ai 3 k],[]⟩
theorem i21(a:LB)(w:LI)(m f g h o p n b ab ae:Int)(ac:LX)(k:LI):∀(q:Nat) (y aa:Int) (ad:LX),z21 q (t21 a w m f g h o p n b ab ae ac k y aa ad)=Pf a w m f g h o p n b ab ae ac k q y aa ad:=
 ind (λ_ _ _=>by kernel_rfl) λq ih y aa ad=>Eq.trans (b:=DL (PY (λy aa ad=>(z21 q) (t21 a w m f g h o p n b ab ae ac k y aa ad)) a w m f g h o p n b ab ae ac k) QC a w m f g h o p n b ab ae ac k y aa ad) F4 (by simp only[ih]<;>rfl)
theorem e21:x21=Al2:=by funext a w m f g h o p n b ab ae ac k y aa ad;exact Eq.trans F4 ((i21 a w m f g h o p n b ab ae ac k Cz y aa ad).trans (by rw[Az];rfl))
theorem i17(v:LI)(a u:LB)(m f g h o p n b:Int)(k:LI):∀(q:Nat) (ag af:Int),z17 q (t17 v a u m f g h o p n b k ag af)=Ou v a u m f g h o p n b k q ag af:=
 ind (λ_ _=>by kernel_rfl) λq ih ag af=>Eq.trans (b:=CM (OY (Pq x21)) (λag af=>(z17 q) (t17 v a u m f g h o p n b k ag af)) v a u m f g h o p n b k ag af) F4 (by simp only[e21,ih]<;>rfl)
theorem e14:x14=Ph:=Eq.trans (b:=DC (QP (Pq x21) (BN (Pq x21) (λv a u m f g h o p n b k ag af=>z17 Cz (t17 v a u m f g h o p n b k ag af))))) F4 (by simp only[e21,i17,Az]<;>rfl)
def k:KC_:=kk_ 32 H (u2 Hl) func32 (λx=>Eq.trans (b:=u2 (UH x14) x) F4 (by simp only[e14]<;>rfl))
end F32
namespace F237
def H:=hd_ [.agg [Si,Si,Si]] [Si] .d [] f237
def k:KC_:=kk_ 237 H (u3 An0) func237
end F237
namespace F220
def H:=hd_ [.agg [Si,Si,Si]] [Sz,Si] .d [F237.k] f220
def k:KC_:=kk_ 220 H (u3 Aqr) func220
end F220
namespace F221
abbrev R_:=LB
def H:=hd_ [.agg [Si,Si,Si],Sz,Sq] [Ob 5] (.q (.q (.q (.q (.cut [1,8,9] [] .d (.q (.cut [1,10] [] (.q (.blk (.loop [1,8,10,44,45] [⟨10,[],.own 5 (.int .u8)⟩] .d))) .d))))))) [F88.k] f221
def t6(a:Bool)(h:Int)(f:LQ)(g:Int)(b:LB):S:=⟨[(1,vt a),(8,.ptr 0 []),(10,.own 1),(44,vi h),(45,vi g)],[.box 348 (.val (.vec 9 (.int .u64)) f),Ab 5 b],[]⟩
def z6:ZT_ R_:=H.i P_ [r,r,r,r,r,r,l,r,d]
theorem i6(a:Bool)(h:Int)(f:LQ):∀(q:Nat) (g:Int) (b:LB),z6 q (t6 a h f g b)=GR a h f q g b:=
 ind (λ_ _=>by kernel_rfl) λq ih g b=>Eq.trans (b:=Adp Aei (λg b=>(z6 q) (t6 a h f g b)) a h f g b) F4 (by simp only[ih]<;>rfl)
def k:KC_:=kk_ 221 H (u5 Aqx) func221 (λx=>Eq.trans (b:=u5 (Ads (Aek (λa h f g b=>z6 Cz (t6 a h f g b)))) x) F4 (by simp only[i6,Az]<;>rfl))
end F221
namespace F197
def H:=hd_ [.agg [Si,Si,Si]] [Ob 5,Si] .d [F220.k,F221.k] f197
def k:KC_:=kk_ 197 H (u3 An2) func197
end F197
namespace F152
abbrev R_:=(LB×Int)
abbrev K_:=S->Option R_
def H:=hd_ [Si,Sw] [Ob 5,Si] (.q (.q (.q (.cut [7] [] (.q (.blk (.loop [0,7,17,18,19] [⟨7,[],.own 5 (.int .u8)⟩] (.q (.q (.cut [0,7,17,18,19] [] (.blk (.q (.cut [0,7,9,17,18,19] [] .d (.q (.blk (.loop [0,7,9,17,18,19,28,29] [] .d)))))) .d)))))) .d)))) [F139.k] f152
def t26(b:Int)(a:LX)(k:Int32)(f m:Int)(h:LB):S:=⟨[(0,vi b),(7,.own 0),(9,vx k),(17,vw a),(18,vi (Ac a)),(19,vi f),(28,vi (Cb b (8:Int))),(29,vi m)],[Ab 5 h],[]⟩
def z26(Rz:K_):ZT_ R_:=H.i P_ [r,r,r,l,r,d,(lp Rz),r,r,l,d,r,r,r,d]
def t16(b:Int)(a:LX)(f:Int)(g:LB):S:=⟨[(0,vi b),(7,.own 0),(17,vw a),(18,vi (Ac a)),(19,vi f)],[Ab 5 g],[]⟩
def z16:ZT_ R_:=H.i P_ [r,r,r,l,r,d]
def x26(Rz:K_)(b:Int)(a:LX)(k:Int32)(f m:Int)(h:LB):Option R_:=H.e P_ [r,r,r,l,r,d,(lp Rz),r,r,l,d,r,r,r,d] (t26 b a k f m h)
theorem i26(Rz:K_)(b:Int)(a:LX)(k:Int32)(f:Int):∀(q:Nat) (m:Int) (h:LB),z26 Rz q (t26 b a k f m h)=Hy (λf g=>Rz (t16 b a f g)) b a k f q m h:=
 ind (λ_ _=>by kernel_rfl) λq ih m h=>Eq.trans (b:=Yo (LN (λf g=>Rz (t16 b a f g)) b a) (λm h=>(z26 Rz q) (t26 b a k f m h)) b a k f m h) F4 (by simp only[ih]<;>rfl)
theorem e26(Rz:K_)(b:Int)(a:LX):x26 Rz b a=MF (λf g=>Rz (t16 b a f g)) b a:=by funext k f m h;exact Eq.trans F4 ((i26 Rz b a k f Cz m h).trans (by rw[Az];rfl))
theorem i16(b:Int)(a:LX):∀(q:Nat) (f:Int) (g:LB),z16 q (t16 b a f g)=Fq b a q f g:=
 ind (λ_ _=>by kernel_rfl) λq ih f g=>Eq.trans (b:=Ys (KX (x26 (z16 q) b a) b a) Ajw b a f g) F4 (by simp only[e26,ih]<;>rfl)
def k:KC_:=kk_ 152 H (u2 KO) func152 (λx=>Eq.trans (b:=u2 (QV (λb a f g=>z16 Cz (t16 b a f g))) x) F4 (by simp only[i16,Az]<;>rfl))
end F152
namespace F238
abbrev R_:=Bool
def H:=hd_ [Ss] [Sz] (.q (.cut [0] [] (.q (.blk (.loop [0,6,7,8] [] .d))) .d)) [] f238
def t4(a:LB)(b:Int):S:=⟨[(0,vs a),(6,.own 0),(7,vi (Ac a)),(8,vi b)],[Ab 5 a],[]⟩
def z4:ZT_ R_:=H.i P_ [r,l,r,d]
theorem i4(a:LB):∀(q:Nat) (b:Int),z4 q (t4 a b)=RD a q b:=
 ind (λ_=>by kernel_rfl) λq ih b=>Eq.trans (b:=Alu Amj (λb=>(z4 q) (t4 a b)) a b) F4 (by simp only[ih]<;>rfl)
def k:KC_:=kk_ 238 H eX func238 (λx=>Eq.trans (b:=Amr (λa b=>z4 Cz (t4 a b)) x) F4 (by simp only[i4,Az]<;>rfl))
end F238
namespace F226
abbrev R_:=Int
def H:=hd_ [.lf (.list (.cons .str (.cons (.list (.int .u8)) .nil))) none] [Si] (.q (.q (.cut [3] [] (.q (.blk (.loop [3,6,7,8] [] .d))) .d))) [] f226
def t4(a:List (LB×LB×Unit))(b f:Int):S:=⟨[(3,vi b),(6,.val (.list (.cons .str (.cons (.list (.int .u8)) .nil))) a),(7,vi (Ac a)),(8,vi f)],[],[]⟩
def z4:ZT_ R_:=H.i P_ [r,r,l,r,d]
theorem i4(a:List (LB×LB×Unit)):∀(q:Nat) (b f:Int),z4 q (t4 a b f)=YQ a q b f:=
 ind (λ_ _=>by kernel_rfl) λq ih b f=>Eq.trans (b:=Asc Ars (λb f=>(z4 q) (t4 a b f)) a b f) F4 (by simp only[ih]<;>rfl)
def k:KC_:=kk_ 226 H WB func226 (λx=>Eq.trans (b:=Asm (λa b f=>z4 Cz (t4 a b f)) x) F4 (by simp only[i4,Az]<;>rfl))
end F226
namespace F240
def H:=hd_ [.agg [Ss,Sb]] [Sz] .d [F238.k] f240
def k:KC_:=kk_ 240 H (u2 ZJ) func240
end F240
namespace F222
abbrev R_:=Int
abbrev K_:=S->Option R_
def H:=hd_ [Ss,.lf (.list (.cons .str (.cons (.list (.int .u8)) .nil))) none] [Si] (.q (.q (.cut [] [] (.cut [20] [] (.keep [17,19,20] true) .d) .d))) [F226.k,F238.k,F240.k] f222 false [(239,(.q (.cut [4] [] (.keep [4,7,8] true) .d))),(248,(.q (.cut [] [] (.q (.blk (.loop [0,1,7,8] [] (.q (.q (.cut [0,1,7,8] [] (.blk (.q (.cut [0,1,5,7,8,16] [] .d .d))) .d)))))) .d)))]
def t19(a:List (LB×LB×Unit))(b:Int):S:=⟨[(0,.val (.list (.cons .str (.cons (.list (.int .u8)) .nil))) a),(1,.fn 240 []),(7,vi (Ac a)),(8,vi b)],[],[[(4,vt false)],[(17,.cst (.bool false))]]⟩
def z19:ZT_ R_:=H.i P_ [r,r,l,l,(call 11 239),r,l,(call 2 248),r,l,r,d]
def t27(a:List (LB×LB×Unit))(f:Int):S:=⟨[(0,.val (.list (.cons .str (.cons (.list (.int .u8)) .nil))) a),(1,.fn 240 []),(7,vi (Ac a)),(8,vi f)],[],[[(4,vt false)],[(17,.cst (.bool false))]]⟩
def z27:ZT_ R_:=H.i P_ [r,r,l,l,(call 11 239),r,l,(call 2 248),r,l,r,d]
theorem i19(a:List (LB×LB×Unit)):∀(q:Nat) (b:Int),z19 q (t19 a b)=QG a q b:=
 ind (λ_=>by kernel_rfl) λq ih b=>Eq.trans (b:=Aml (Amw (λb=>(z19 q) (t19 a b)) a) Amx a b) F4 (by simp only[ih]<;>rfl)
theorem i27(a:List (LB×LB×Unit)):∀(q:Nat) (f:Int),z27 q (t27 a f)=QH a q f:=
 ind (λ_=>by kernel_rfl) λq ih f=>Eq.trans (b:=Amn (Amq (λf=>(z27 q) (t27 a f)) a) Amk a f) F4 (by simp only[ih]<;>rfl)
def k:KC_:=kk_ 222 H (u2 GN) func222 (λx=>Eq.trans (b:=u2 (UE DY (λa b=>z19 Cz (t19 a b)) (λa f=>z27 Cz (t27 a f))) x) F4 (by simp only[i19,i27,Az]<;>rfl))
end F222
theorem Azc:ConOk Tryz.prog gl 198 ZU:=Azf ent198 F222.k.2 F226.k.2 F88.k.2
namespace F162
def H:=hd_ [.agg [Si,Si,Si,Sw]] [Ob 5,Si] .d [F83.k,F152.k,F197.k,⟨(198,ZU),Azc⟩] f162
def k:KC_:=kk_ 162 H (u4 Aev) func162
end F162
namespace F120
def H:=hd_ [Sb,Ss] [Ob 5,Si] .d [F32.k,F162.k] f120
def k:KC_:=kk_ 120 H (u2 Ab3) func120
end F120
namespace F121
def H:=hd_ [Sb,Ss] [Si] .d [F32.k] f121
def k:KC_:=kk_ 121 H (u2 Avn) func121
end F121
namespace F69
def H:=hd_ [Sb,Ss,Si] [Sz] .d [F32.k,F120.k,F121.k] f69
def k:KC_:=kk_ 69 H (u3 Cn) func69
end F69
theorem Bao:ConOk Tryz.prog gl 27 Nq:=Bb3 ent27 F68.k.2 F69.k.2
namespace F28
def H:=hd_ [.agg [Si,Si,Si,Sw]] [Sz] .d [] f28
def k:KC_:=kk_ 28 H (u4 Yy) func28
end F28
namespace F71
def H:=hd_ [.agg [Si,Si,Si,Sw]] [.agg [Si,Si]] .d [] f71
def k:KC_:=kk_ 71 H (u4 Gm) func71
end F71
namespace F163
def H:=hd_ [Si] [Si] .d [] f163
def k:KC_:=kk_ 163 H Ht func163
end F163
namespace F122
def H:=hd_ [.agg [Si,Si]] [Si] .d [F163.k] f122
def k:KC_:=kk_ 122 H (u2 Cw) func122
end F122
namespace F123
abbrev R_:=Int
def H:=hd_ [Si,Sw] [Si] (.q (.q (.q (.q (.cut [] [] (.q (.blk (.loop [1,5,6] [] .d))) .d))))) [F163.k] f123
def t4(a:LX)(b f:Int):S:=⟨[(1,vw a),(5,vi b),(6,vi f)],[],[]⟩
def z4:ZT_ R_:=H.i P_ [r,r,r,r,l,r,d]
theorem i4(a:LX)(b:Int):∀(q:Nat) (f:Int),z4 q (t4 a b f)=Au a b q f:=
 ind (λ_=>by kernel_rfl) λq ih f=>Eq.trans (b:=Ce EW (λf=>(z4 q) (t4 a b f)) a b f) F4 (by simp only[ih]<;>rfl)
def k:KC_:=kk_ 123 H (u2 Ap) func123 (λx=>Eq.trans (b:=u2 (Cx (λa b f=>z4 Cz (t4 a b f))) x) F4 (by simp only[i4,Az]<;>rfl))
end F123
namespace F70
def H:=hd_ [.agg [Si,Si],Sw] [Si] .d [F122.k,F123.k] f70
def k:KC_:=kk_ 70 H (u3 By) func70
end F70
namespace F124
def H:=hd_ [.agg [Si,Si],Si] [Si] .d [F122.k] f124
def k:KC_:=kk_ 124 H (u3 Ec) func124
end F124
namespace F199
def H:=hd_ [Si] [Si,Si] .d [] f199
def k:KC_:=kk_ 199 H Nj func199
end F199
namespace F164
abbrev R_:=(LI×Int)
def H:=hd_ [Si,Si] [Ol 3,Si] (.q (.q (.q (.q (.cut [8] [] (.blk (.loop [1,6,8] [⟨8,[],.own 3 (.int .i64)⟩] .d)) .d))))) [F199.k] f164
def t4(b f:Int)(a:LI):S:=⟨[(1,vi f),(6,vi b),(8,.own 0)],[Ai 3 a],[]⟩
def z4:ZT_ R_:=H.i P_ [r,r,r,r,l,d]
theorem i4(b:Int):∀(q:Nat) (f:Int) (a:LI),z4 q (t4 b f a)=Hx b q f a:=
 ind (λ_ _=>by kernel_rfl) λq ih f a=>Eq.trans (b:=Oj Xc (λf a=>(z4 q) (t4 b f a)) b f a) F4 (by simp only[ih]<;>rfl)
def k:KC_:=kk_ 164 H (u2 Wh) func164 (λx=>Eq.trans (b:=u2 (Ok (λb f a=>z4 Cz (t4 b f a))) x) F4 (by simp only[i4,Az]<;>rfl))
end F164
namespace F125
def H:=hd_ [Si,Si] [Si,Si] .d [F164.k] f125
def k:KC_:=kk_ 125 H (u2 Iu) func125
end F125
namespace F72
def H:=hd_ [.agg [Si,Si,Si,Sw],Si] [Sz] .d [F71.k,F124.k,F125.k] f72
def k:KC_:=kk_ 72 H (u5 EN) func72
end F72
namespace F29
def H:=hd_ [.agg [Si,Si,Si,Sw]] [Si] .d [F70.k,F71.k,F72.k] f29
def k:KC_:=kk_ 29 H (u4 Cp) func29
end F29
namespace F73
abbrev R_:=LB
def H:=hd_ [Si] [Ob 5] (.q (.q (.cut [3] [] (.q (.blk (.loop [0,3,6] [] .d))) .d))) [] f73
def t4(f a:Int)(b:LB):S:=⟨[(0,vi f),(3,.own 0),(6,vi a)],[Ab 5 b],[]⟩
def z4:ZT_ R_:=H.i P_ [r,r,l,r,d]
theorem i4(f:Int):∀(q:Nat) (a:Int) (b:LB),z4 q (t4 f a b)=Gk f q a b:=
 ind (λ_ _=>by kernel_rfl) λq ih a b=>Eq.trans (b:=Rv LG (λa b=>(z4 q) (t4 f a b)) f a b) F4 (by simp only[ih]<;>rfl)
def k:KC_:=kk_ 73 H Ng func73 (λx=>Eq.trans (b:=Yn (λf a b=>z4 Cz (t4 f a b)) x) F4 (by simp only[i4,Az]<;>rfl))
end F73
theorem Bdm:ConOk Tryz.prog gl 30 MB:=Bdp ent30 F73.k.2
namespace F75
def H:=hd_ [.agg [Sb,Si,Sz]] [Si] .d [] f75
def k:KC_:=kk_ 75 H (u3 kD) func75
end F75
namespace F31
abbrev R_:=(LB×Int)
def H:=hd_ [.agg [Sb,Si,Sz]] [Ob 5,Si] (.q (.q (.q (.q (.cut [1,5,6] [⟨5,[],.own 5 (.int .u8)⟩] .d .d))))) [F75.k,F76.k] f31
def k:KC_:=kk_ 31 H (u3 VV) func31
end F31
namespace F33
abbrev R_:=(Int×Int×Int×Int×Int×Int)
def H:=hd_ [Sb] [.agg [Si,Si,Si,Si,Si],Si] (.q (.q (.q (.cut [0,2,4] [] (.cut [0,2,4,7] [] (.keep [0,2,4,7,17,18,19,20,21] true) .d) .d)))) [F77.k,F128.k] f33 false [(79,(.q (.q (.cut [0,6,7] [] .d (.q (.q (.q (.cut [6] [] (.q (.blk (.loop [0,6,60,61,62] [] .d))) .d))))))))]
def t8(k:LI)(a:LB)(m n o p u f g b:Int)(h:LI)(w v:Int):S:=⟨[(0,.ptr 0 []),(6,.own 1),(60,.own 1),(61,vi (Ac k)),(62,vi w)],[.box 143 (.agg [.agg [vi m,vi n,vi o,vi p,vi u],.agg [vi f,vi g,vi b,vi (Ae (Ae b (Bd (4:Int) (Ac k))) (4:Int)),vi v],.own 3]),Ai 3 k,.box 80 (.agg [vi 0,vi 0,vi 0,vi 0,vi 0]),Ai 3 h],[[(0,vb a),(2,.ptr 2 []),(4,.ptr 0 []),(18,vb a)]]⟩
def z8:ZT_ R_:=H.i P_ [r,r,r,l,l,(call 1 79),r,r,r,r,r,r,l,r,d]
theorem i8(k:LI)(a:LB)(m n o p u f g b:Int)(h:LI):∀(q:Nat) (w v:Int),z8 q (t8 k a m n o p u f g b h w v)=Ox k a m n o p u f g b h q w v:=
 ind (λ_ _=>by kernel_rfl) λq ih w v=>Eq.trans (b:=BE Yt (λw v=>(z8 q) (t8 k a m n o p u f g b h w v)) k a m n o p u f g b h w v) F4 (by simp only[ih]<;>rfl)
def k:KC_:=kk_ 33 H KU func33 (λx=>Eq.trans (b:=PD My (RJ My (λk a m n o p u f g b h w v=>z8 Cz (t8 k a m n o p u f g b h w v))) x) F4 (by simp only[i8,Az]<;>rfl))
end F33
namespace F34
abbrev R_:=Bool
def H:=hd_ [.agg [Si,Si,Si,Sw],.agg [Si,Si,Si,Sw]] [Sz] (.q (.q (.cut [] [] (.q (.blk (.loop [2,3,5] [] .d))) .d))) [] f34
def t4(f g h:Int)(a:LX)(k m n:Int)(b:LX)(o:Int):S:=⟨[(2,.ptr 0 []),(3,.ptr 1 []),(5,vi o)],[.box 37 (.agg [vi f,vi g,vi h,vw a]),.box 37 (.agg [vi k,vi m,vi n,vw b])],[]⟩
def z4:ZT_ R_:=H.i P_ [r,r,l,r,d]
theorem i4(f g h:Int)(a:LX)(k m n:Int)(b:LX):∀(q:Nat) (o:Int),z4 q (t4 f g h a k m n b o)=Gy f g h a k m n b q o:=
 ind (λ_=>by kernel_rfl) λq ih o=>Eq.trans (b:=Nn KS (λo=>(z4 q) (t4 f g h a k m n b o)) f g h a k m n b o) F4 (by simp only[ih]<;>rfl)
def k:KC_:=kk_ 34 H (u8 Tz) func34 (λx=>Eq.trans (b:=u8 (Vq (λf g h a k m n b o=>z4 Cz (t4 f g h a k m n b o))) x) F4 (by simp only[i4,Az]<;>rfl))
end F34
namespace F5
abbrev R_:=Bool
def H:=hd_ [.agg [Si,Si,Si,Sw],Ss,Sb,Sb,Si] [Sz] (.q (.q (.cut [1,2,3,4,5,11] [] .d (.q (.q (.q (.q (.q (.q (.cut [1,5,11,12,14,16,20] [] .d .d)))))))))) [F8.k,⟨(27,Nq),Bao⟩,F28.k,F29.k,⟨(30,MB),Bdm⟩,F31.k,F32.k,F33.k,F34.k] f5
def k:KC_:=kk_ 5 H (u8 Rh) func5
end F5
end
end Go.Proofs.YtaokmgopghpikaaGreatDoor
