/- A part of a proof (see the text that ends in Proof). No conditions. -/
import Derived.Test.YtaokmgopghpikaaGreatDoorPnHA
set_option linter.unusedVariables false
set_option linter.unusedSimpArgs false
set_option maxRecDepth 10000
namespace Go.Proofs.YtaokmgopghpikaaGreatDoor
open Go Go.Lv Go.Pl Go.Rx Go.Rx.PS
noncomputable section
def g0:List Value:=[.bool true,.int .i64 0]
def g1:List Value:=[.int .i64 2,.int .i64 2,.int .i64 2,.int .i64 4,.int .i64 4]
def g2:List Value:=[.bool false,.int .i64 0]
def g7:List Value:=[.int .u8 0,.int .u8 1,.int .u8 56,.int .u8 2,.int .u8 57,.int .u8 49,.int .u8 28,.int .u8 3,.int .u8 61,.int .u8 58,.int .u8 42,.int .u8 50,.int .u8 38,.int .u8 29,.int .u8 17,.int .u8 4,.int .u8 62,.int .u8 47,.int .u8 59,.int .u8 36,.int .u8 45,.int .u8 43,.int .u8 51,.int .u8 22,.int .u8 53,.int .u8 39,.int .u8 33,.int .u8 30,.int .u8 24,.int .u8 18,.int .u8 12,.int .u8 5,.int .u8 63,.int .u8 55,.int .u8 48,.int .u8 27,.int .u8 60,.int .u8 41,.int .u8 37,.int .u8 16,.int .u8 46,.int .u8 35,.int .u8 44,.int .u8 21,.int .u8 52,.int .u8 32,.int .u8 23,.int .u8 11,.int .u8 54,.int .u8 26,.int .u8 40,.int .u8 15,.int .u8 34,.int .u8 20,.int .u8 31,.int .u8 10,.int .u8 25,.int .u8 14,.int .u8 19,.int .u8 9,.int .u8 13,.int .u8 8,.int .u8 7,.int .u8 6]
def gl:List (Nat×List Value):=[(0,g0),(1,g1),(2,g2),(7,g7)]
theorem mixed:Tryz.prog.follows .mixedOrders=true:=A4
noncomputable abbrev P_:=Tryz.prog
noncomputable def kt(l:List (Kc P_ gl))(v:Bool)(c:Bool:=false):=pO l v c
theorem co(H:Hd){f:Nat}{F:Lg (Hj H.p)->Option (Lg (Hj H.r))}(hf:P_.funcs[f]? =some H.f)(h:∀x,H.u P_ x=F x:=by intro x;kernel_rfl)(hT:Lt P_ H.T:=by exact eG _ _ _)(hb:rL P_ H=true:=by kernel_rfl):ConOk P_ H.T.gl f ⟨H.p,H.r,F⟩:=Hd.cn mixed H hf hT hb h
def kk_(f:Nat)(H:Hd)(F:Lg (Hj H.p)->Option (Lg (Hj H.r)))(hf:P_.funcs[f]? =some H.f)(h:∀x,H.u P_ x=F x:=by intro x;kernel_rfl)(hT:Lt P_ H.T:=by exact eG _ _ _)(hb:rL P_ H=true:=by kernel_rfl):Kc P_ H.T.gl:=⟨(f,⟨H.p,H.r,F⟩),Hd.cn mixed H hf hT hb h⟩
abbrev KC_:=Kc P_ gl
abbrev hd_(p r:List Sh)(a:An)(l:List KC_)(f:Func)(v:Bool:=false)(s:List (Nat×An):=[]):Hd:=⟨p,r,a,kt l v,s,f⟩
abbrev ZT_(R:Type):=Nat->S->Option R
theorem ent98:Ent Tryz.prog 98:=Ent.mk Tryz.func98 A4 rfl
abbrev u2{A B R:Type}(f:A->B->R)(x:A×B):=f x.1 x.2
abbrev u3{A B C R:Type}(f:A->B->C->R):=u2 λa=>u2 (f a)
abbrev u4{A B C D R:Type}(f:A->B->C->D->R):=u2 λa=>u3 (f a)
abbrev u5{A B C D E R:Type}(f:A->B->C->D->E->R):=u2 λa=>u4 (f a)
abbrev u6{A B C D E F R:Type}(f:A->B->C->D->E->F->R):=u2 λa=>u5 (f a)
abbrev u7{A B C D E F G R:Type}(f:A->B->C->D->E->F->G->R):=u2 λa=>u6 (f a)
abbrev u8{A B C D E F G H R:Type}(f:A->B->C->D->E->F->G->H->R):=u2 λa=>u7 (f a)
abbrev u9{A B C D E F G H I R:Type}(f:A->B->C->D->E->F->G->H->I->R):=u2 λa=>u8 (f a)
abbrev tB{A B C D E F G H I J R:Type}(f:A->B->C->D->E->F->G->H->I->J->R):=u2 λa=>u9 (f a)
abbrev sZ{A B C D E F G H I J K R:Type}(f:A->B->C->D->E->F->G->H->I->J->K->R):=u2 λa=>tB (f a)
abbrev iE{A B C D E F G H I J K L R:Type}(f:A->B->C->D->E->F->G->H->I->J->K->L->R):=u2 λa=>sZ (f a)
abbrev rF{A B C D E F G H I J K L M R:Type}(f:A->B->C->D->E->F->G->H->I->J->K->L->M->R):=u2 λa=>iE (f a)
open Go.Proofs.Tryz
namespace F6
def H:=hd_ [Ss] [.agg [Ss,Ob 5,.agg [Si,Si,Si,Si,Si],Ol 3,Si,Ob 5,Sz,Si],Si] .d [] f6
def k:KC_:=kk_ 6 H Ko func6
end F6
namespace F86
def H:=hd_ [.agg [Si,Si,Si,Sw]] [.agg [Si,Si]] .d [] f86
def k:KC_:=kk_ 86 H (u4 DR) func86
end F86
namespace F115
abbrev R_:=(Int32×Int32×Int)
def H:=hd_ [Si] [Sx,Sx,Si] (.q (.seq (.q (.blk (.cut [0,7] [] .d .d))) .d)) [] f115
def k:KC_:=kk_ 115 H AT func115
end F115
namespace F114
def H:=hd_ [.agg [Si,Si]] [Si] .d [F115.k] f114
def k:KC_:=kk_ 114 H (u2 Ms) func114
end F114
namespace F113
def H:=hd_ [Si] [Si,Si] .d [] f113
def k:KC_:=kk_ 113 H Uz func113
end F113
namespace F179
def H:=hd_ [Si,Si] [Si,Si] .d [F113.k] f179
def k:KC_:=kk_ 179 H (u2 Mp) func179
end F179
namespace F138
def H:=hd_ [.agg [Si,Si,Si,Sw],Si] [Si] .d [F86.k,F114.k,F179.k] f138
def k:KC_:=kk_ 138 H (u5 TK) func138
end F138
namespace F139
abbrev R_:=Int
def H:=hd_ [Si,Sw] [Si] (.q (.q (.q (.q (.cut [] [] (.q (.blk (.loop [5,6,22,23,24] [] .d))) .d))))) [F115.k] f139
def t4(b f:Int32)(a:LX)(g:Int):S:=⟨[(5,vx b),(6,vx f),(22,vw a),(23,vi (Aa a)),(24,vi g)],[],[]⟩
def z4:ZT_ R_:=H.i P_ [r,r,r,r,l,r,d]
theorem i4(b f:Int32)(a:LX):∀(q:Nat) (g:Int),z4 q (t4 b f a g)=Pq b f a q g:=
 ind (λ_=>by kernel_rfl) λq ih g=>Eq.trans (b:=Yd Zt (λg=>(z4 q) (t4 b f a g)) b f a g) A4 (by simp only[ih]<;>rfl)
def k:KC_:=kk_ 139 H (u2 Na) func139 (λx=>Eq.trans (b:=u2 (Zp (λb f a g=>z4 Bo (t4 b f a g))) x) A4 (by simp only[i4,Ao]<;>rfl))
end F139
namespace F83
def H:=hd_ [.agg [Si,Si,Si,Sw]] [Si] .d [F138.k,F139.k] f83
def k:KC_:=kk_ 83 H (u4 Ly) func83
end F83
namespace F35
def Nv(j2:LB->Int->Int->Int->LX->Option (Int×Int×Int×Int×Int×Int))(a b f:Int)(g:LX)(h:LB):Option (Int×Int×Int×Int×Int×Int):=
(Ly a b f g).bind λk=>
if(Bm k 0)then
some (0,0,0,0,0,k)
else
if(Gc (Aa h) 64)then
some (0,0,0,0,0,2)
else
(Ef (Bm a 0)).bind λ_=>
bo (
j2 h a b f g)
theorem DV: @Nv= @Pf:=by
  unfold Nv Pf;simp only[Oi,It,Iy]
abbrev R_:=(Int×Int×Int×Int×Int×Int)
def H:=hd_ [.agg [Si,Si,Si,Sw],Ss] [.agg [Si,Si,Si,Si,Si],Si] (.q (.q (.q (.cut [1,4,7] [] .d .d)))) [F83.k] f35
def k:KC_:=kk_ 35 H (u5 KZ) func35 (λx=>Eq.trans (b:=u5 (Nv Zf) x) A4 (by simp only[DV]<;>rfl))
end F35
namespace F166
abbrev R_:=(UInt64×Int)
abbrev K_:=S->Option R_
def H:=hd_ [Sq,Sb] [Sq,Si] (.q (.q (.cut [4,5] [] (.keep [0,1,4,5,9,10,11,12] true) .d))) [] f166 false [(200,(.q (.cut [1] [] (.q (.blk (.loop [0,1,9,10,11] [] .d))) .d))),(201,(.q (.q (.cut [1] [] (.q (.blk (.loop [1,5] [] (.q (.q (.cut [1,5] [] (.blk (.q (.q (.cut [1,2,3,5] [] (.q (.blk (.loop [1,2,3,5,11] [] .d))) .d)))) .d)))))) .d))))]
def t27(a:LB)(b:UInt64)(f:LQ)(h:UInt64)(m:Int):S:=⟨[(0,.ptr 0 []),(1,vq h),(9,vb a),(10,vi (Aa a)),(11,vi m)],[.box 340 (.val (.vec 256 (.int .u64)) f)],[[(0,vq b),(1,vb a),(4,vq 0),(5,vi 0),(9,.ptr 0 []),(10,vq b),(11,vb a)]]⟩
def z27:ZT_ R_:=H.i P_ [r,r,l,(call 3 200),r,l,r,d]
def t21(b:UInt64)(a:LB)(g:Int)(f:LQ)(k:UInt64)(n:Int):S:=⟨[(1,.ptr 0 []),(2,vi g),(3,vq k),(5,vi g),(11,vi n)],[.box 340 (.val (.vec 256 (.int .u64)) f)],[[(0,vq b),(1,vb a),(4,vq 0),(5,vi 0)]]⟩
def z21(Hg:K_):ZT_ R_:=H.i P_ [r,r,l,(call 0 201),r,r,l,r,d,(lp Hg),r,r,l,d,r,r,l,r,d]
def t16(b:UInt64)(a:LB)(g:Int)(f:LQ):S:=⟨[(1,.ptr 0 []),(5,vi g)],[.box 340 (.val (.vec 256 (.int .u64)) f)],[[(0,vq b),(1,vb a),(4,vq 0),(5,vi 0)]]⟩
def z16:ZT_ R_:=H.i P_ [r,r,l,(call 0 201),r,r,l,r,d]
def x27(a:LB)(b:UInt64)(f:LQ)(h:UInt64)(m:Int):Option R_:=H.e P_ [r,r,l,(call 3 200),r,l,r,d] (t27 a b f h m)
def x21(Hg:K_)(b:UInt64)(a:LB)(g:Int)(f:LQ)(k:UInt64)(n:Int):Option R_:=H.e P_ [r,r,l,(call 0 201),r,r,l,r,d,(lp Hg),r,r,l,d,r,r,l,r,d] (t21 b a g f k n)
theorem i27(a:LB)(b:UInt64)(f:LQ):∀(q:Nat) (h:UInt64) (m:Int),z27 q (t27 a b f h m)=Pu a b f q h m:=
 ind (λ_ _=>by kernel_rfl) λq ih h m=>Eq.trans (b:=Yz Zo (λh m=>(z27 q) (t27 a b f h m)) a b f h m) A4 (by simp only[ih]<;>rfl)
theorem e27:x27=Yn:=by funext a b f h m;exact Eq.trans A4 ((i27 a b f Bo h m).trans (by rw[Ao];rfl))
theorem i21(Hg:K_)(b:UInt64)(a:LB)(g:Int)(f:LQ):∀(q:Nat) (k:UInt64) (n:Int),z21 Hg q (t21 b a g f k n)=Qi (λg f=>Hg (t16 b a g f)) b a g f q k n:=
 ind (λ_ _=>by kernel_rfl) λq ih k n=>Eq.trans (b:=Xw (Yk (λg f=>Hg (t16 b a g f)) b a) (λk n=>(z21 Hg q) (t21 b a g f k n)) b a g f k n) A4 (by simp only[ih]<;>rfl)
theorem e21(Hg:K_)(b:UInt64)(a:LB):x21 Hg b a=AN (λg f=>Hg (t16 b a g f)) b a:=by funext g f k n;exact Eq.trans A4 ((i21 Hg b a g f Bo k n).trans (by rw[Ao];rfl))
theorem i16(b:UInt64)(a:LB):∀(q:Nat) (g:Int) (f:LQ),z16 q (t16 b a g f)=Qu b a q g f:=
 ind (λ_ _=>by kernel_rfl) λq ih g f=>Eq.trans (b:=Zb (x21 (z16 q) b a) (Yc x27) b a g f) A4 (by simp only[e21,e27,ih]<;>rfl)
def k:KC_:=kk_ 166 H (u2 QZ) func166 (λx=>Eq.trans (b:=u2 (CW (λb a g f=>z16 Bo (t16 b a g f))) x) A4 (by simp only[i16,Ao]<;>rfl))
end F166
namespace F129
def H:=hd_ [Sb] [Sq,Si] .d [F166.k] f129
def k:KC_:=kk_ 129 H IW func129
end F129
namespace F130
abbrev R_:=LX
def H:=hd_ [Sq] [.lf (.vec 16 (.int .i32)) none] (.q (.q (.cut [2,3] [] (.q (.blk (.loop [0,2,3,5] [] .d))) .d))) [] f130
def t4(f:UInt64)(a:Int)(b:LX):S:=⟨[(0,vq f),(2,.ptr 0 []),(3,.ptr 1 []),(5,vi a)],[.box 149 (.val (.vec 16 (.int .i32)) (List.replicate 16 (0:Int32))),.box 149 (.val (.vec 16 (.int .i32)) b)],[]⟩
def z4:ZT_ R_:=H.i P_ [r,r,l,r,d]
theorem i4(f:UInt64):∀(q:Nat) (a:Int) (b:LX),z4 q (t4 f a b)=ED f q a b:=
 ind (λ_ _=>by kernel_rfl) λq ih a b=>Eq.trans (b:=RZ OG (λa b=>(z4 q) (t4 f a b)) f a b) A4 (by simp only[ih]<;>rfl)
def k:KC_:=kk_ 130 H cU func130 (λx=>Eq.trans (b:=RA (λf a b=>z4 Bo (t4 f a b)) x) A4 (by simp only[i4,Ao]<;>rfl))
end F130
namespace F80
def H:=hd_ [Ss] [.lf (.vec 16 (.int .i32)) none,Si] .d [F129.k,F130.k] f80
def k:KC_:=kk_ 80 H Kr func80
end F80
namespace F158
def H:=hd_ [Sq,Sq] [Sq,Sq] .d [] f158
def k:KC_:=kk_ 158 H (u2 Xc) func158
end F158
namespace F103
def H:=hd_ [Sq,Sq] [Sq,Sq] .d [F158.k] f103
def k:KC_:=kk_ 103 H (u2 DA) func103
end F103
namespace F180
def Fi(j10:LI->Option (LI))(eP:Int->LI->Option (LI))(b:Int)(a:LI):Option (LI):=
if(Cn b (Aa a))then
both (
(SD (Aa a) b (Aa a)).bind λ_=>
(SD (Aa a) 0 b).bind λ_=>
eP (Ac b (CR ((Aa a)-b) (Zq a 0 (b-(0:Int))).length)) (Jw a b ((Aa a)-b) (Zq a 0 (b-(0:Int))))) [
(SD (Aa a) 0 b).bind λ_=>
(SD (Aa a) b (Aa a)).bind λ_=>
eP (Ac b (CR ((Aa a)-b) (Zq a 0 (b-(0:Int))).length)) (Jw a b ((Aa a)-b) (Zq a 0 (b-(0:Int))))]
else
j10 a
theorem Nq: @Fi= @Fp:=by
  unfold Fi Fp
  repeat (refine funext λ_=>?_)
  repeat' first
    |with_reducible rfl
    |with_reducible refine Da ?_ ?_
    |with_reducible refine Cy ?_ ?_ ?_
    |with_reducible refine Db ?_ ?_ ?_ ?_
    |((with_reducible refine En ?_ ?_);focus (intro h;first|(subst h;rfl)|(simp only[h];rfl)|(simp[Bb,Aa,h];done)))
    |with_reducible refine Ek λx=>?_
    |with_reducible refine Gv (λ_=>?_) (λ_=>?_)
    |(refine Bt (λh=>by simp only[h,Em,Bk,Bh,ite_self]) (λx h=>?_);(try simp only[h,Bk]))
    |(refine Ck (λh=>?_) (λh=>?_)<;>simp only[h,if_true,if_false,Bool.false_eq_true])
abbrev R_:=LI
def H:=hd_ [Sl,Si] [Ol 3] (.q (.cut [0,1] [] .d (.q (.cut [0,6] [] .d (.q (.q (.cut [7] [] (.blk (.loop [7,8] [] (.q (.blk (.mode false))))) .d))))))) [F103.k] f180 true
def t8(b:Int)(a:LI):S:=⟨[(7,.own 0),(8,vi b)],[Ai 3 a],[]⟩
def z8:ZT_ R_:=H.i P_ [r,r,r,r,r,r,l,d]
theorem i8:∀(q:Nat) (b:Int) (a:LI),z8 q (t8 b a)=Fu q b a:=
 ind (λ_ _=>by kernel_rfl) λq ih b a=>Eq.trans (b:=Fi Ik (λb a=>(z8 q) (t8 b a)) b a) A4 (by rw[Nq];simp only[ih]<;>rfl)
def k:KC_:=kk_ 180 H (u2 Lu) func180 (λx=>Eq.trans (b:=u2 (Jm (Jd (Jn (λb a=>z8 Bo (t8 b a))))) x) A4 (by simp only[i8,Ao]<;>rfl))
end F180
namespace F210
abbrev R_:=LI
def H:=hd_ [.lf (.list (.list (.int .i64))) none] [Ol 3] (.q (.q (.cut [0,3] [] (.q (.blk (.loop [0,3,9,10,11] [] .d))) (.cut [0,6] [⟨6,[],.own 3 (.int .i64)⟩] (.keep [0,3,6,23,24] true) (.cut [6] [] (.q (.blk (.loop [6,25,26,27] [] .d))) .d))))) [] f210 true [(233,(.q (.cut [0,1] [] .d .d)))]
def t14(a:List LI)(g:Int)(f:LI):S:=⟨[(6,.own 0),(25,.val (.list (.list (.int .i64))) a),(26,vi (Aa a)),(27,vi g)],[Ai 3 f],[]⟩
def z14:ZT_ R_:=H.i P_ [r,r,r,r,l,r,d]
def t9(a:List LI)(b h:Int):S:=⟨[(0,.val (.list (.list (.int .i64))) a),(3,vi b),(9,.val (.list (.list (.int .i64))) a),(10,vi (Aa a)),(11,vi h)],[],[]⟩
def z9:ZT_ R_:=H.i P_ [r,r,l,r,d]
def x14(a:List LI)(g:Int)(f:LI):Option R_:=H.e P_ [r,r,r,r,l,r,d] (t14 a g f)
theorem i14(a:List LI):∀(q:Nat) (g:Int) (f:LI),z14 q (t14 a g f)=Fg a q g f:=
 ind (λ_ _=>by kernel_rfl) λq ih g f=>Eq.trans (b:=Il Ir (λg f=>(z14 q) (t14 a g f)) a g f) A4 (by simp only[ih]<;>rfl)
theorem e14:x14=Ip:=by funext a g f;exact Eq.trans A4 ((i14 a Bo g f).trans (by rw[Ao];rfl))
theorem i9(a:List LI):∀(q:Nat) (b h:Int),z9 q (t9 a b h)=Fq a q b h:=
 ind (λ_ _=>by kernel_rfl) λq ih b h=>Eq.trans (b:=Jf (Is (Io (Im x14))) (λb h=>(z9 q) (t9 a b h)) a b h) A4 (by simp only[e14,ih]<;>rfl)
def k:KC_:=kk_ 210 H Ls func210 (λx=>Eq.trans (b:=Jj (λa b h=>z9 Bo (t9 a b h)) x) A4 (by simp only[i9,Ao]<;>rfl))
end F210
namespace F181
def H:=hd_ [Sl,Sl] [Ol 3] .d [F210.k] f181
def k:KC_:=kk_ 181 H (u2 Zh) func181
end F181
namespace F141
def H:=hd_ [Si,Si] [Ol 3,Si] .d [F113.k,F179.k,F180.k,F181.k] f141
def k:KC_:=kk_ 141 H (u2 Mx) func141
end F141
namespace F182
def H:=hd_ [.agg [Si,Si],Sw] [Si] .d [F114.k,F139.k] f182
def k:KC_:=kk_ 182 H (u3 CE) func182
end F182
namespace F208
def H:=hd_ [Si,Sw] [Si] .d [] f208
def k:KC_:=kk_ 208 H (u2 JK) func208
end F208
namespace F160
def Eh(a:LX):Option (LX):=
NG a (
some ([]:LX)) (
(Bb ([]:LX) a).bind λb=>
some b)
theorem Lr: @Eh= @Cq:=by
  unfold Eh Cq
  repeat (refine funext λ_=>?_)
  repeat' first
    |with_reducible rfl
    |with_reducible refine Da ?_ ?_
    |with_reducible refine Cy ?_ ?_ ?_
    |with_reducible refine Db ?_ ?_ ?_ ?_
    |((with_reducible refine En ?_ ?_);focus (intro h;first|(subst h;rfl)|(simp only[h];rfl)|(simp[Bb,Aa,h];done)))
    |with_reducible refine Ek λx=>?_
    |with_reducible refine Gv (λ_=>?_) (λ_=>?_)
    |(refine Bt (λh=>by simp only[h,Em,Bk,Bh,ite_self]) (λx h=>?_);(try simp only[h,Bk]))
    |(refine Ck (λh=>?_) (λh=>?_)<;>simp only[h,if_true,if_false,Bool.false_eq_true])
def H:=hd_ [Sw] [Ow 21] .d [] f160
def k:KC_:=kk_ 160 H Cq func160 (λx=>Eq.trans (b:=Eh x) A4 (by simp only[Lr]<;>rfl))
end F160
namespace F183
abbrev R_:=(LX×Int)
abbrev K_:=S->Option R_
def H:=hd_ [Si,Sw] [Ow 21,Si] (.q (.q (.q (.cut [7] [] (.q (.blk (.loop [0,7,8] [] (.q (.cut [0,7,8] [] (.blk (.keep [0,7,8,24,25,26,27,28,29] true)) .d))))) .d)))) [F160.k,F208.k] f183 true [(211,(.q (.cut [0,2] [] (.q (.blk (.loop [0,2,7,8] [] .d))) .d)))]
def t17(b a f:Int)(g:LX):S:=⟨[(0,.view true 0 [] (.int .i32) a ((Ac a b)-a)),(2,vi (Al ((Ac a b)-a) (1:Int))),(7,vi (Al ((Ac a b)-a) (1:Int))),(8,vi f)],[Aw 21 g],[[(0,vi b),(7,.own 0),(8,vi a),(24,.own 0),(25,vi a),(26,vi a),(27,vi b),(28,vi (Ac a b)),(29,.view true 0 [] (.int .i32) a ((Ac a b)-a))]]⟩
def z17(Od:K_):ZT_ R_:=H.i P_ [r,r,r,l,r,d,(lp Od),r,l,d,(call 6 211),r,l,r,d]
def t12(b a:Int)(h:LX):S:=⟨[(0,vi b),(7,.own 0),(8,vi a)],[Aw 21 h],[]⟩
def z12:ZT_ R_:=H.i P_ [r,r,r,l,r,d]
def x17(Od:K_)(b a f:Int)(g:LX):Option R_:=H.e P_ [r,r,r,l,r,d,(lp Od),r,l,d,(call 6 211),r,l,r,d] (t17 b a f g)
theorem i17(Od:K_)(b a:Int):∀(q:Nat) (f:Int) (g:LX),z17 Od q (t17 b a f g)=Zs (λa h=>Od (t12 b a h)) b a q f g:=
 ind (λ_ _=>by kernel_rfl) λq ih f g=>Eq.trans (b:=JY (KC (λa h=>Od (t12 b a h)) b) (λf g=>(z17 Od q) (t17 b a f g)) b a f g) A4 (by simp only[ih]<;>rfl)
theorem e17(Od:K_)(b:Int):x17 Od b=KL (λa h=>Od (t12 b a h)) b:=by funext a f g;exact Eq.trans A4 ((i17 Od b a Bo f g).trans (by rw[Ao];rfl))
theorem i12(b:Int):∀(q:Nat) (a:Int) (h:LX),z12 q (t12 b a h)=AQ b q a h:=
 ind (λ_ _=>by kernel_rfl) λq ih a h=>Eq.trans (b:=KI (x17 (z12 q) b) KA b a h) A4 (by simp only[e17,ih]<;>rfl)
def k:KC_:=kk_ 183 H (u2 eH) func183 (λx=>Eq.trans (b:=u2 (PM (λb a h=>z12 Bo (t12 b a h))) x) A4 (by simp only[i12,Ao]<;>rfl))
end F183
namespace F204
abbrev R_:=(Int×LX×LX×Int)
def H:=hd_ [Si,.lf (.vec 16 (.int .i32)) none] [.agg [Si,.lf (.vec 16 (.int .i32)) none,.lf (.vec 16 (.int .i32)) none],Si] (.q (.q (.seq (.q (.blk (.cut [4,6,9,11] [] .d .d))) .d))) [] f204
def k:KC_:=kk_ 204 H (u2 QY) func204
end F204
namespace F173
def H:=hd_ [Si,.lf (.vec 16 (.int .i32)) none] [.agg [Si,Sx,.agg [Si,.lf (.vec 16 (.int .i32)) none,.lf (.vec 16 (.int .i32)) none]],Si] .d [F204.k] f173
def k:KC_:=kk_ 173 H (u2 JU) func173
end F173
namespace F205
def H:=hd_ [.agg [Si,Sx,.agg [Si,.lf (.vec 16 (.int .i32)) none,.lf (.vec 16 (.int .i32)) none]]] [Si] .d [F204.k] f205
def k:KC_:=kk_ 205 H (u5 Mz) func205
end F205
namespace F229
def H:=hd_ [Si] [Si,Si] .d [] f229
def k:KC_:=kk_ 229 H KS func229
end F229
namespace F230
def H:=hd_ [Si,Sx] [Sx] .d [] f230
def k:KC_:=kk_ 230 H (u2 JZ) func230
end F230
namespace F206
def H:=hd_ [Si,Sx] [Sx,Si] .d [F229.k,F230.k] f206
def k:KC_:=kk_ 206 H (u2 Nb) func206
end F206
namespace F245
def H:=hd_ [.agg [Si,.lf (.vec 16 (.int .i32)) none,.lf (.vec 16 (.int .i32)) none]] [Si] .d [] f245
def k:KC_:=kk_ 245 H (u3 Qh) func245
end F245
namespace F231
abbrev R_:=(Int32×Int)
def H:=hd_ [.agg [Si,.lf (.vec 16 (.int .i32)) none,.lf (.vec 16 (.int .i32)) none]] [Sx,Si] (.q (.q (.q (.cut [1,5] [] (.q (.blk (.loop [1,5,18,19] [] .d))) .d)))) [F245.k] f231
def t4(b:LX)(a:Int)(f:LX)(h:Int32)(g:Int):S:=⟨[(1,.ptr 0 []),(5,vx h),(18,.val (.vec 16 (.int .i32)) b),(19,vi g)],[.box 263 (.agg [vi a,.val (.vec 16 (.int .i32)) b,.val (.vec 16 (.int .i32)) f])],[]⟩
def z4:ZT_ R_:=H.i P_ [r,r,r,l,r,d]
theorem i4(b:LX)(a:Int)(f:LX):∀(q:Nat) (h:Int32) (g:Int),z4 q (t4 b a f h g)=Tm b a f q h g:=
 ind (λ_ _=>by kernel_rfl) λq ih h g=>Eq.trans (b:=CN CI (λh g=>(z4 q) (t4 b a f h g)) b a f h g) A4 (by simp only[ih]<;>rfl)
def k:KC_:=kk_ 231 H (u3 EA) func231 (λx=>Eq.trans (b:=u3 (CC (λb a f h g=>z4 Bo (t4 b a f h g))) x) A4 (by simp only[i4,Ao]<;>rfl))
end F231
namespace F252
def H:=hd_ [Si] [Sx] .d [] f252
def k:KC_:=kk_ 252 H II func252
end F252
namespace F246
abbrev R_:=(Int×LX×LX×Int)
def H:=hd_ [.agg [Si,.lf (.vec 16 (.int .i32)) none,.lf (.vec 16 (.int .i32)) none],Sx] [.agg [Si,.lf (.vec 16 (.int .i32)) none,.lf (.vec 16 (.int .i32)) none],Si] (.q (.q (.q (.cut [2,4] [] (.q (.blk (.loop [1,2,4,19,20] [] .d))) .d)))) [F245.k,F252.k] f246
def t4(h:Int32)(f:LX)(g a:Int)(b:LX):S:=⟨[(1,vx h),(2,.ptr 0 []),(4,.ptr 1 []),(19,.val (.vec 16 (.int .i32)) f),(20,vi a)],[.box 263 (.agg [vi g,.val (.vec 16 (.int .i32)) b,.val (.vec 16 (.int .i32)) f]),.box 263 (.agg [vi 0,.val (.vec 16 (.int .i32)) (List.replicate 16 (0:Int32)),.val (.vec 16 (.int .i32)) (List.replicate 16 (0:Int32))])],[]⟩
def z4:ZT_ R_:=H.i P_ [r,r,r,l,r,d]
theorem i4(h:Int32)(f:LX)(g:Int):∀(q:Nat) (a:Int) (b:LX),z4 q (t4 h f g a b)=Ta h f g q a b:=
 ind (λ_ _=>by kernel_rfl) λq ih a b=>Eq.trans (b:=CO CP (λa b=>(z4 q) (t4 h f g a b)) h f g a b) A4 (by simp only[ih]<;>rfl)
def k:KC_:=kk_ 246 H (u4 SA) func246 (λx=>Eq.trans (b:=u4 (CV (λh f g a b=>z4 Bo (t4 h f g a b))) x) A4 (by simp only[i4,Ao]<;>rfl))
end F246
namespace F247
def Sn(j2:Int32->Int->LX->LX->Option (Int×LX×LX×Int))(b:Int)(f a:LX)(g:Int32):Option (Int×LX×LX×Int):=
(Qh b f a).bind λh=>
if(Bm h 0)then
some (0,(List.replicate 16 (0:Int32)),(List.replicate 16 (0:Int32)),h)
else
both (
(SD 16 1 16).bind λ_=>
(SD 16 0 16).bind λ_=>
j2 g b f a) [
(SD 16 0 16).bind λ_=>
(SD 16 1 16).bind λ_=>
j2 g b f a]
theorem JQ: @Sn= @Vs:=by
  unfold Sn Vs
  repeat (refine funext λ_=>?_)
  repeat' first
    |with_reducible rfl
    |with_reducible refine Da ?_ ?_
    |with_reducible refine Cy ?_ ?_ ?_
    |with_reducible refine Db ?_ ?_ ?_ ?_
    |((with_reducible refine En ?_ ?_);focus (intro h;first|(subst h;rfl)|(simp only[h];rfl)|(simp[Bb,Aa,h];done)))
    |with_reducible refine Ek λx=>?_
    |with_reducible refine Gv (λ_=>?_) (λ_=>?_)
    |(refine Bt (λh=>by simp only[h,Em,Bk,Bh,ite_self]) (λx h=>?_);(try simp only[h,Bk]))
    |(refine Ck (λh=>?_) (λh=>?_)<;>simp only[h,if_true,if_false,Bool.false_eq_true])
abbrev R_:=(Int×LX×LX×Int)
def H:=hd_ [.agg [Si,.lf (.vec 16 (.int .i32)) none,.lf (.vec 16 (.int .i32)) none],Sx] [.agg [Si,.lf (.vec 16 (.int .i32)) none,.lf (.vec 16 (.int .i32)) none],Si] (.q (.q (.cut [1,2,4] [] .d .d))) [F245.k] f247
def k:KC_:=kk_ 247 H (u4 UI) func247 (λx=>Eq.trans (b:=u4 (Sn GZ) x) A4 (by simp only[JQ]<;>rfl))
end F247
namespace F232
def H:=hd_ [.agg [Si,.lf (.vec 16 (.int .i32)) none,.lf (.vec 16 (.int .i32)) none],Sx,Sx] [.agg [Si,.lf (.vec 16 (.int .i32)) none,.lf (.vec 16 (.int .i32)) none]] .d [F246.k,F247.k] f232
def k:KC_:=kk_ 232 H (u5 DJ) func232
end F232
namespace F212
def H:=hd_ [.agg [Si,.lf (.vec 16 (.int .i32)) none,.lf (.vec 16 (.int .i32)) none],Sx] [Sx,.agg [Si,.lf (.vec 16 (.int .i32)) none,.lf (.vec 16 (.int .i32)) none],Si] .d [F231.k,F232.k] f212
def k:KC_:=kk_ 212 H (u4 AY) func212
end F212
namespace F184
def Ll(a:Int)(b:Int32)(f:Int)(g h:LX)(k:Int32):Option (Int32×Int×Int32×Int×LX×LX×Int):=
(Mz a b f g h).bind λm=>
if(Bm m 0)then
some (0,0,0,0,(List.replicate 16 (0:Int32)),(List.replicate 16 (0:Int32)),m)
else
(Nb a b).bind λ(n,y)=>
(AY f g h (Al k n)).bind λ(o,p,u,v,w)=>
bo (
some (o,a,k,p,u,v,w))
theorem AD: @Ll= @Mn:=by
  unfold Ll Mn;simp only[Oi,It,Iy]
def H:=hd_ [.agg [Si,Sx,.agg [Si,.lf (.vec 16 (.int .i32)) none,.lf (.vec 16 (.int .i32)) none]],Sx] [Sx,.agg [Si,Sx,.agg [Si,.lf (.vec 16 (.int .i32)) none,.lf (.vec 16 (.int .i32)) none]],Si] (.q (.q (.q (.q (.seq (.mode false) .d))))) [F205.k,F206.k,F212.k] f184
def k:KC_:=kk_ 184 H (u6 Mn) func184 (λx=>Eq.trans (b:=u6 Ll x) A4 (by simp only[AD]<;>rfl))
end F184
namespace F185
def H:=hd_ [Sx] [Su] .d [] f185
def k:KC_:=kk_ 185 H TO func185
end F185
namespace F142
abbrev R_:=(LU×Int)
def H:=hd_ [.agg [Si,Si],.lf (.vec 16 (.int .i32)) none,Sw] [Ov 163,Si] (.q (.q (.q (.q (.q (.cut [3,9,11] [] (.q (.blk (.loop [3,4,9,11,36] [] .d))) (.q (.cut [13] [] (.q (.blk (.loop [3,11,13,49,50,51] [⟨13,[],.own 163 (.int .u32)⟩] .d))) .d)))))))) [F173.k,F182.k,F183.k,F184.k,F185.k] f142
def t10(b:LX)(a f g:Int)(k:List (Int×Int32×(Int×LX×LX×Unit)×Unit))(h:LU):S:=⟨[(3,.ptr 0 []),(11,.ptr 1 []),(13,.own 2),(49,.own 3),(50,vi (Aa b)),(51,vi g)],[.box 57 (.agg [vi a,vi f]),.box 266 (.val (.vec 6 (.cons (.int .i64) (.cons (.int .i32) (.cons (.cons (.int .i64) (.cons (.vec 16 (.int .i32)) (.cons (.vec 16 (.int .i32)) .nil))) .nil)))) k),Av 163 h,Aw 21 b],[]⟩
def z10:ZT_ R_:=H.i P_ [r,r,r,r,r,r,r,l,r,d]
def t7(a f:Int)(n b:LX)(o:Int)(m:List (Int×Int32×(Int×LX×LX×Unit)×Unit)):S:=⟨[(3,.ptr 0 []),(4,.ptr 1 []),(9,.own 2),(11,.ptr 3 []),(36,vi o)],[.box 57 (.agg [vi a,vi f]),.box 149 (.val (.vec 16 (.int .i32)) n),Aw 21 b,.box 266 (.val (.vec 6 (.cons (.int .i64) (.cons (.int .i32) (.cons (.cons (.int .i64) (.cons (.vec 16 (.int .i32)) (.cons (.vec 16 (.int .i32)) .nil))) .nil)))) m)],[]⟩
def z7:ZT_ R_:=H.i P_ [r,r,r,r,r,l,r,d]
def x10(b:LX)(a f g:Int)(k:List (Int×Int32×(Int×LX×LX×Unit)×Unit))(h:LU):Option R_:=H.e P_ [r,r,r,r,r,r,r,l,r,d] (t10 b a f g k h)
theorem i10(b:LX)(a f:Int):∀(q:Nat) (g:Int) (k:List (Int×Int32×(Int×LX×LX×Unit)×Unit)) (h:LU),z10 q (t10 b a f g k h)=Ka b a f q g k h:=
 ind (λ_ _ _=>by kernel_rfl) λq ih g k h=>Eq.trans (b:=Qv Re (λg k h=>(z10 q) (t10 b a f g k h)) b a f g k h) A4 (by simp only[ih]<;>rfl)
theorem e10:x10=Po:=by funext b a f g k h;exact Eq.trans A4 ((i10 b a f Bo g k h).trans (by rw[Ao];rfl))
theorem i7(a f:Int)(n b:LX):∀(q:Nat) (o:Int) (m:List (Int×Int32×(Int×LX×LX×Unit)×Unit)),z7 q (t7 a f n b o m)=Le a f n b q o m:=
 ind (λ_ _=>by kernel_rfl) λq ih o m=>Eq.trans (b:=Rq (Rn x10) (λo m=>(z7 q) (t7 a f n b o m)) a f n b o m) A4 (by simp only[e10,ih]<;>rfl)
def k:KC_:=kk_ 142 H (u4 Yq) func142 (λx=>Eq.trans (b:=u4 (Ry (λa f n b o m=>z7 Bo (t7 a f n b o m))) x) A4 (by simp only[i7,Ao]<;>rfl))
end F142
namespace F168
def H:=hd_ [] [.agg [Si,Si,Sq,Sq]] .d [] f168
def k:KC_:=kk_ 168 H (λ_=>FB) func168
end F168
namespace F143
abbrev R_:=((List (Int×Int×UInt64×UInt64×Unit)))
def H:=hd_ [] [.lf (.vec 6 (.cons (.int .i64) (.cons (.int .i64) (.cons (.int .u64) (.cons (.int .u64) .nil))))) none] (.q (.q (.cut [0,1] [] (.q (.blk (.loop [0,1,3] [] .d))) .d))) [F168.k] f143
def t4(b:Int)(a:List (Int×Int×UInt64×UInt64×Unit)):S:=⟨[(0,.ptr 0 []),(1,.ptr 1 []),(3,vi b)],[.box 223 (.val (.vec 6 (.cons (.int .i64) (.cons (.int .i64) (.cons (.int .u64) (.cons (.int .u64) .nil))))) (List.replicate 6 ((0:Int),(0:Int),(0:UInt64),(0:UInt64),()))),.box 223 (.val (.vec 6 (.cons (.int .i64) (.cons (.int .i64) (.cons (.int .u64) (.cons (.int .u64) .nil))))) a)],[]⟩
def z4:ZT_ R_:=H.i P_ [r,r,l,r,d]
theorem i4:∀(q:Nat) (b:Int) (a:List (Int×Int×UInt64×UInt64×Unit)),z4 q (t4 b a)=Kx q b a:=
 ind (λ_ _=>by kernel_rfl) λq ih b a=>Eq.trans (b:=Sj Sf (λb a=>(z4 q) (t4 b a)) b a) A4 (by simp only[ih]<;>rfl)
def k:KC_:=kk_ 143 H (λ_=>Zl) func143 (λx=>Eq.trans (b:=Rv (λb a=>z4 Bo (t4 b a))) A4 (by simp only[i4,Ao]<;>rfl))
end F143
namespace F171
def H:=hd_ [.agg [Sb,Si]] [Si] .d [] f171
def k:KC_:=kk_ 171 H (u2 Fc) func171
end F171
namespace F186
def Pz(j4:Int->Int->UInt64->UInt64->Option Int)(a b:Int)(f g:UInt64):Option Int:=
both (
bo (
j4 a b f g)) [
j4 a b f g]
theorem GH: @Pz= @Sr:=by
  unfold Pz Sr
  repeat (refine funext λ_=>?_)
  repeat' first
    |with_reducible rfl
    |with_reducible refine Da ?_ ?_
    |with_reducible refine Cy ?_ ?_ ?_
    |with_reducible refine Db ?_ ?_ ?_ ?_
    |((with_reducible refine En ?_ ?_);focus (intro h;first|(subst h;rfl)|(simp only[h];rfl)|(simp[Bb,Aa,h];done)))
    |with_reducible refine Ek λx=>?_
    |with_reducible refine Gv (λ_=>?_) (λ_=>?_)
    |(refine Bt (λh=>by simp only[h,Em,Bk,Bh,ite_self]) (λx h=>?_);(try simp only[h,Bk]))
    |(refine Ck (λh=>?_) (λh=>?_)<;>simp only[h,if_true,if_false,Bool.false_eq_true])
def Pe(j3:Int->Int->UInt64->UInt64->Option Int)(a b:Int)(f g:UInt64):Option Int:=
both (
bo (
j3 a b f g)) [
j3 a b f g]
theorem GU: @Pe= @Tf:=by
  unfold Pe Tf
  repeat (refine funext λ_=>?_)
  repeat' first
    |with_reducible rfl
    |with_reducible refine Da ?_ ?_
    |with_reducible refine Cy ?_ ?_ ?_
    |with_reducible refine Db ?_ ?_ ?_ ?_
    |((with_reducible refine En ?_ ?_);focus (intro h;first|(subst h;rfl)|(simp only[h];rfl)|(simp[Bb,Aa,h];done)))
    |with_reducible refine Ek λx=>?_
    |with_reducible refine Gv (λ_=>?_) (λ_=>?_)
    |(refine Bt (λh=>by simp only[h,Em,Bk,Bh,ite_self]) (λx h=>?_);(try simp only[h,Bk]))
    |(refine Ck (λh=>?_) (λh=>?_)<;>simp only[h,if_true,if_false,Bool.false_eq_true])
abbrev R_:=Int
def H:=hd_ [.agg [Si,Si,Sq,Sq]] [Si] (.q (.q (.cut [1,3] [] (.mode false) (.cut [1,3] [] (.mode false) .d)))) [] f186
def x3(a b:Int)(f g:UInt64):Option R_:=H.e P_ [r,r,r] ⟨[(1,.ptr 0 []),(3,.ptr 1 [])],[.box 222 (.agg [vi a,vi b,vq f,vq g]),.box 222 (.agg [vi (Fm (YJ a (0:Int)) (24:Int)),vi (Fm (YJ b (0:Int)) (24:Int)),vq f,vq g])],[]⟩
theorem e3:x3=DB:=Eq.trans (b:=Pz BW) A4 (by rw[GH];rfl)
def k:KC_:=kk_ 186 H (u4 EM) func186 (λx=>Eq.trans (b:=u4 (Pe x3) x) A4 (by rw[GU];simp only[e3]<;>rfl))
end F186
namespace F187
def H:=hd_ [.agg [Si,Si,Sq,Sq],Su] [Si,Su] .d [] f187
def k:KC_:=kk_ 187 H (u5 Vv) func187
end F187
namespace F109
def Ey(a:LB):Option (LB):=
NG a (
some ([]:LB)) (
(Bb ([]:LB) a).bind λb=>
some b)
theorem Nl: @Ey= @De:=by
  unfold Ey De
  repeat (refine funext λ_=>?_)
  repeat' first
    |with_reducible rfl
    |with_reducible refine Da ?_ ?_
    |with_reducible refine Cy ?_ ?_ ?_
    |with_reducible refine Db ?_ ?_ ?_ ?_
    |((with_reducible refine En ?_ ?_);focus (intro h;first|(subst h;rfl)|(simp only[h];rfl)|(simp[Bb,Aa,h];done)))
    |with_reducible refine Ek λx=>?_
    |with_reducible refine Gv (λ_=>?_) (λ_=>?_)
    |(refine Bt (λh=>by simp only[h,Em,Bk,Bh,ite_self]) (λx h=>?_);(try simp only[h,Bk]))
    |(refine Ck (λh=>?_) (λh=>?_)<;>simp only[h,if_true,if_false,Bool.false_eq_true])
def H:=hd_ [Sb] [Ob 5] .d [] f109
def k:KC_:=kk_ 109 H De func109 (λx=>Eq.trans (b:=Ey x) A4 (by simp only[Nl]<;>rfl))
end F109
namespace F213
def H:=hd_ [.agg [Sb,Si]] [.agg [Ob 5,Si]] .d [F109.k] f213
def k:KC_:=kk_ 213 H (u2 IV) func213
end F213
namespace F188
abbrev R_:=(LB×Int×Int)
abbrev K_:=S->Option R_
def H:=hd_ [.agg [Sb,Si],Sq,Si] [.agg [Ob 5,Si],Si] (.q (.q (.q (.cut [3,6] [] (.keep [1,2,3,6,40,41] true) .d)))) [F171.k,F213.k] f188 false [(202,(.blk (.loop [0,1,2] [] (.q (.blk (.cut [0,1,2] [] .d (.q (.cut [0,1,2,7] [] .d .d))))))))]
def t15(b:UInt64)(a:Int)(m:UInt64)(h f:Int)(o:LB):S:=⟨[(0,.ptr 0 []),(1,vq m),(2,vi h)],[.box 206 (.agg [.own 2,vi f]),.box 206 (.agg [.nils,vi 0]),Ab 5 o],[[(1,vq b),(2,vi a),(3,.ptr 0 []),(6,.ptr 1 []),(40,vq b),(41,vi a)]]⟩
def z15:ZT_ R_:=H.i P_ [r,r,r,l,(call 2 202),d]
def t22(b:UInt64)(a:Int)(n:UInt64)(k g:Int)(p:LB):S:=⟨[(0,.ptr 0 []),(1,vq n),(2,vi k)],[.box 206 (.agg [.own 2,vi g]),.box 206 (.agg [.nils,vi 0]),Ab 5 p],[[(1,vq b),(2,vi a),(3,.ptr 0 []),(6,.ptr 1 []),(40,vq b),(41,vi a)]]⟩
def z22:ZT_ R_:=H.i P_ [r,r,r,l,(call 2 202),d]
theorem i15(b:UInt64)(a:Int):∀(q:Nat) (m:UInt64) (h f:Int) (o:LB),z15 q (t15 b a m h f o)=Vj b a q m h f o:=
 ind (λ_ _ _ _=>by kernel_rfl) λq ih m h f o=>Eq.trans (b:=GM (GK (λm h f o=>(z15 q) (t15 b a m h f o)) b a) FW b a m h f o) A4 (by simp only[ih]<;>rfl)
theorem i22(b:UInt64)(a:Int):∀(q:Nat) (n:UInt64) (k g:Int) (p:LB),z22 q (t22 b a n k g p)=Vp b a q n k g p:=
 ind (λ_ _ _ _=>by kernel_rfl) λq ih n k g p=>Eq.trans (b:=FH (GX (λn k g p=>(z22 q) (t22 b a n k g p)) b a) HN b a n k g p) A4 (by simp only[ih]<;>rfl)
def k:KC_:=kk_ 188 H (u4 Zu) func188 (λx=>Eq.trans (b:=u4 (KK (λb a m h f o=>z15 Bo (t15 b a m h f o)) (λb a n k g p=>z22 Bo (t22 b a n k g p))) x) A4 (by simp only[i15,i22,Ao]<;>rfl))
end F188
namespace F214
def H:=hd_ [Su,Si] [Sz] .d [] f214
def k:KC_:=kk_ 214 H (u2 We) func214
end F214
namespace F234
def H:=hd_ [Si] [Si,Si] .d [] f234
def k:KC_:=kk_ 234 H HJ func234
end F234
namespace F215
def H:=hd_ [.agg [Sb,Si],Si] [.agg [Ob 5,Si],Si] .d [F171.k,F188.k,F234.k] f215
def k:KC_:=kk_ 215 H (u3 LC) func215
end F215
namespace F189
abbrev R_:=(LB×Int×Int)
def H:=hd_ [.agg [Sb,Si],Su,Si] [.agg [Ob 5,Si],Si] (.q (.q (.q (.q (.cut [3,6,9,10,11] [] .d .d))))) [F171.k,F188.k,F214.k,F215.k] f189
def k:KC_:=kk_ 189 H (u4 PZ) func189
end F189
namespace F144
def Ny(k u n:Int)(a:UInt64)(b:UInt32)(o:UInt64)(m:LB):Option (LB×Int×Int×Int×UInt64×UInt64×Int):=
(λaf:Option (LB×Int×Int×Int×UInt64×UInt64×Int)=>
both (
bo (
af)) [
af]) (
some (m,k,u,n,(Ac a (Al (Aq b:UInt64) (Cd a (GI.toZ (4:UInt64)).toNat))),o,0))
theorem EE: @Ny= @Rf:=by
  unfold Ny Rf
  try simp only[Oi,It,Iy]
  all_goals
    repeat (refine funext λ_=>?_)
    repeat' first
      |with_reducible rfl
      |with_reducible refine Da ?_ ?_
      |with_reducible refine Cy ?_ ?_ ?_
      |with_reducible refine Db ?_ ?_ ?_ ?_
      |((with_reducible refine En ?_ ?_);focus (intro h;first|(subst h;rfl)|(simp only[h];rfl)|(simp[Bb,Aa,h];done)))
      |with_reducible refine Ek λx=>?_
      |with_reducible refine Gv (λ_=>?_) (λ_=>?_)
      |(refine Bt (λh=>by simp only[h,Em,Bk,Bh,ite_self]) (λx h=>?_);(try simp only[h,Bk]))
      |(refine Ck (λh=>?_) (λh=>?_)<;>simp only[h,if_true,if_false,Bool.false_eq_true])
abbrev R_:=(LB×Int×Int×Int×UInt64×UInt64×Int)
def H:=hd_ [.agg [Sb,Si],.agg [Si,Si,Sq,Sq],Su] [.agg [Ob 5,Si],.agg [Si,Si,Sq,Sq],Si] (.q (.cut [2,3,4,6,7] [] .d (.q (.q (.cut [2,3,4,6,7,11] [] .d (.q (.cut [3,4,6,7] [] (.keep [2,3,4,6,7,65] true) (.seq (.mode false) .d)))))))) [F171.k,F186.k,F187.k,F188.k,F189.k] f144 false [(190,(.q (.q (.q (.blk (.cut [0,1,4] [] (.blk (.q (.keep [0,1,4,6,18,19,20,21,22,23,24,25] true))) (.cut [] [] (.keep [0,1,4,27,28,29,30,31,32,33,34] true) .d))))))),(216,.d)]
def x10(k u n:Int)(a:UInt64)(b:UInt32)(o:UInt64)(m:LB):Option R_:=H.e P_ [r,r,r,r,r,r,r] ⟨[(3,.ptr 0 []),(4,.ptr 1 []),(6,.ptr 2 []),(7,.ptr 3 [])],[.box 206 (.agg [.own 4,vi k]),.box 222 (.agg [vi u,vi n,vq (Ac a (Al (Aq b:UInt64) (Cd a (GI.toZ (4:UInt64)).toNat))),vq o]),.box 206 (.agg [.nils,vi 0]),.box 222 (.agg [vi 0,vi 0,vq 0,vq 0]),Ab 5 m],[]⟩
def x8(b:UInt32)(f:Int)(a:UInt64)(k:Int)(m:LB)(n:Int)(o:UInt64):Option R_:=H.e P_ [r,r,r,r,r,r,l,(call 1 190),r,r,r,d,r] ⟨[(0,.ptr 0 []),(1,vu b),(4,.fn 216 [])],[.box 222 (.agg [vi f,vi n,vq a,vq o]),.box 206 (.agg [.own 4,vi k]),.box 206 (.agg [.nils,vi 0]),.box 222 (.agg [vi 0,vi 0,vq 0,vq 0]),Ab 5 m],[[(2,vu b),(3,.ptr 1 []),(4,.ptr 0 []),(6,.ptr 2 []),(7,.ptr 3 []),(65,vu b)]]⟩
theorem e10:x10=AO:=Eq.trans (b:=Ny) A4 (by rw[EE];rfl)
theorem e8:x8=CD:=Eq.trans (b:=CB (CS x10)) A4 (by simp only[e10]<;>rfl)
def k:KC_:=kk_ 144 H (u7 PD) func144 (λx=>Eq.trans (b:=u7 (DD (CY (BY x8))) x) A4 (by simp only[e8]<;>rfl))
end F144
namespace F149
abbrev R_:=(UInt32×Int)
abbrev K_:=S->Option R_
def H:=hd_ [Su,Sb] [Su,Si] (.q (.q (.cut [0,1,6] [] (.keep [0,1,6,12] true) (.cut [0] [] (.q (.blk (.loop [0,6,13,14,15] [] .d))) .d)))) [] f149 false [(191,(.q (.q (.cut [1] [] (.q (.blk (.loop [1,5] [] (.q (.q (.cut [1,5] [] (.blk (.q (.q (.cut [1,2,3,5] [] (.q (.blk (.loop [1,2,3,5,10] [] .d))) .d)))) .d)))))) .d))))]
def t28(a:LB)(b:LU)(h:UInt32)(m:Int):S:=⟨[(0,vu h),(6,.ptr 0 []),(13,vb a),(14,vi (Aa a)),(15,vi m)],[.box 324 (.val (.vec 256 (.int .u32)) b)],[]⟩
def z28:ZT_ R_:=H.i P_ [r,r,r,l,r,d]
def t21(f:UInt32)(a:LB)(g:Int)(b:LU)(k:UInt32)(n:Int):S:=⟨[(1,.ptr 0 []),(2,vi g),(3,vu k),(5,vi g),(10,vi n)],[.box 324 (.val (.vec 256 (.int .u32)) b)],[[(0,vu f),(1,vb a)]]⟩
def z21(Hg:K_):ZT_ R_:=H.i P_ [r,r,l,(call 0 191),r,r,l,r,d,(lp Hg),r,r,l,d,r,r,l,r,d]
def t16(f:UInt32)(a:LB)(g:Int)(b:LU):S:=⟨[(1,.ptr 0 []),(5,vi g)],[.box 324 (.val (.vec 256 (.int .u32)) b)],[[(0,vu f),(1,vb a)]]⟩
def z16:ZT_ R_:=H.i P_ [r,r,l,(call 0 191),r,r,l,r,d]
def x28(a:LB)(b:LU)(h:UInt32)(m:Int):Option R_:=H.e P_ [r,r,r,l,r,d] (t28 a b h m)
def x21(Hg:K_)(f:UInt32)(a:LB)(g:Int)(b:LU)(k:UInt32)(n:Int):Option R_:=H.e P_ [r,r,l,(call 0 191),r,r,l,r,d,(lp Hg),r,r,l,d,r,r,l,r,d] (t21 f a g b k n)
theorem i28(a:LB)(b:LU):∀(q:Nat) (h:UInt32) (m:Int),z28 q (t28 a b h m)=Py a b q h m:=
 ind (λ_ _=>by kernel_rfl) λq ih h m=>Eq.trans (b:=AE Yo (λh m=>(z28 q) (t28 a b h m)) a b h m) A4 (by simp only[ih]<;>rfl)
theorem e28:x28=Zg:=by funext a b h m;exact Eq.trans A4 ((i28 a b Bo h m).trans (by rw[Ao];rfl))
theorem i21(Hg:K_)(f:UInt32)(a:LB)(g:Int)(b:LU):∀(q:Nat) (k:UInt32) (n:Int),z21 Hg q (t21 f a g b k n)=Pn (λg b=>Hg (t16 f a g b)) f a g b q k n:=
 ind (λ_ _=>by kernel_rfl) λq ih k n=>Eq.trans (b:=Yj (Yx (λg b=>Hg (t16 f a g b)) f a) (λk n=>(z21 Hg q) (t21 f a g b k n)) f a g b k n) A4 (by simp only[ih]<;>rfl)
theorem e21(Hg:K_)(f:UInt32)(a:LB):x21 Hg f a=Ya (λg b=>Hg (t16 f a g b)) f a:=by funext g b k n;exact Eq.trans A4 ((i21 Hg f a g b Bo k n).trans (by rw[Ao];rfl))
theorem i16(f:UInt32)(a:LB):∀(q:Nat) (g:Int) (b:LU),z16 q (t16 f a g b)=Pm f a q g b:=
 ind (λ_ _=>by kernel_rfl) λq ih g b=>Eq.trans (b:=AF (x21 (z16 q) f a) (Ys (Yy x28)) f a g b) A4 (by simp only[e21,e28,ih]<;>rfl)
def k:KC_:=kk_ 149 H (u2 RQ) func149 (λx=>Eq.trans (b:=u2 (CK (λf a g b=>z16 Bo (t16 f a g b))) x) A4 (by simp only[i16,Ao]<;>rfl))
end F149
namespace F89
def H:=hd_ [Sb] [Su,Si] .d [F149.k] f89
def k:KC_:=kk_ 89 H Ma func89
end F89
namespace F148
def H:=hd_ [Sq,Si] [Sz] .d [] f148
def k:KC_:=kk_ 148 H (u2 dY) func148
end F148
namespace F88
abbrev R_:=(LB×Int)
def H:=hd_ [Sq,Si] [Ob 5,Si] (.q (.q (.q (.q (.cut [6] [] (.q (.blk (.loop [0,6,21,22] [] .d))) .d))))) [F148.k] f88
def t4(f:UInt64)(g:LB)(a:Int)(b:LB):S:=⟨[(0,vq f),(6,.own 0),(21,vi (Aa g)),(22,vi a)],[Ab 5 b],[]⟩
def z4:ZT_ R_:=H.i P_ [r,r,r,r,l,r,d]
theorem i4(f:UInt64)(g:LB):∀(q:Nat) (a:Int) (b:LB),z4 q (t4 f g a b)=Zm f g q a b:=
 ind (λ_ _=>by kernel_rfl) λq ih a b=>Eq.trans (b:=KN KG (λa b=>(z4 q) (t4 f g a b)) f g a b) A4 (by simp only[ih]<;>rfl)
def k:KC_:=kk_ 88 H (u2 Mu) func88 (λx=>Eq.trans (b:=u2 (KT (λf g a b=>z4 Bo (t4 f g a b))) x) A4 (by simp only[i4,Ao]<;>rfl))
end F88
namespace F117
abbrev R_:=LB
def H:=hd_ [.lf (.list (.list (.int .u8))) none] [Ob 5] (.q (.q (.cut [0,3] [] (.q (.blk (.loop [0,3,9,10,11] [] .d))) (.cut [0,6] [⟨6,[],.own 5 (.int .u8)⟩] (.keep [0,3,6,23,24] true) (.cut [6] [] (.q (.blk (.loop [6,25,26,27] [] .d))) .d))))) [] f117 true [(161,(.q (.cut [0,1] [] .d .d)))]
def t14(a:List LB)(g:Int)(f:LB):S:=⟨[(6,.own 0),(25,.val (.list (.list (.int .u8))) a),(26,vi (Aa a)),(27,vi g)],[Ab 5 f],[]⟩
def z14:ZT_ R_:=H.i P_ [r,r,r,r,l,r,d]
def t9(a:List LB)(b h:Int):S:=⟨[(0,.val (.list (.list (.int .u8))) a),(3,vi b),(9,.val (.list (.list (.int .u8))) a),(10,vi (Aa a)),(11,vi h)],[],[]⟩
def z9:ZT_ R_:=H.i P_ [r,r,l,r,d]
def x14(a:List LB)(g:Int)(f:LB):Option R_:=H.e P_ [r,r,r,r,l,r,d] (t14 a g f)
theorem i14(a:List LB):∀(q:Nat) (g:Int) (f:LB),z14 q (t14 a g f)=El a q g f:=
 ind (λ_ _=>by kernel_rfl) λq ih g f=>Eq.trans (b:=Hq Ho (λg f=>(z14 q) (t14 a g f)) a g f) A4 (by simp only[ih]<;>rfl)
theorem e14:x14=Hn:=by funext a g f;exact Eq.trans A4 ((i14 a Bo g f).trans (by rw[Ao];rfl))
theorem i9(a:List LB):∀(q:Nat) (b h:Int),z9 q (t9 a b h)=Fb a q b h:=
 ind (λ_ _=>by kernel_rfl) λq ih b h=>Eq.trans (b:=Hx (Hs (Hu (Hr x14))) (λb h=>(z9 q) (t9 a b h)) a b h) A4 (by simp only[e14,ih]<;>rfl)
def k:KC_:=kk_ 117 H Ks func117 (λx=>Eq.trans (b:=Ic (λa b h=>z9 Bo (t9 a b h)) x) A4 (by simp only[i9,Ao]<;>rfl))
end F117
namespace F85
abbrev R_:=(LB×Int)
abbrev K_:=S->Option R_
def H:=hd_ [.agg [Si,Si],.lf (.vec 16 (.int .i32)) none,Sw] [Ob 5,Si] (.q (.q (.q (.q (.q (.cut [11] [] (.q (.blk (.loop [3,10,11,30,31,32] [⟨11,[0],.own 5 (.int .u8)⟩] (.q (.q (.cut [3,10,11,30,31,32] [] (.blk (.q (.q (.q (.q (.keep [3,10,11,14,30,31,32,59] true)))))) .d)))))) .d)))))) [F88.k,F89.k,F117.k,F142.k,F143.k,F144.k] f85 false [(145,(.q (.q (.blk (.loop [0,3,7,8] [] (.q (.q (.seq (.blk (.q (.cut [0,3,4,7,8] [] .d (.q (.cut [0,3,7,8] [] .d .d))))) .d))))))))]
def t44(b:LU)(a g h f:Int)(n:List (Int×Int×UInt64×UInt64×Unit))(m:LB)(o k:Int)(w:LB):S:=⟨[(0,.ptr 0 []),(3,.ptr 1 []),(7,vi h),(8,vi o)],[.box 206 (.agg [.own 7,vi k]),.box 206 (.agg [.own 6,vi h]),.box 57 (.agg [vi a,vi g]),.box 223 (.val (.vec 6 (.cons (.int .i64) (.cons (.int .i64) (.cons (.int .u64) (.cons (.int .u64) .nil))))) n),.box 206 (.agg [.own 6,vi h]),Av 163 b,Ab 5 m,Ab 5 w],[[(3,.ptr 2 []),(10,.ptr 3 []),(11,.ptr 0 []),(14,.ptr 4 []),(30,.own 5),(31,vi (Aa b)),(32,vi f),(59,.agg [.own 6,vi h])]]⟩
def z44(Oe:K_):ZT_ R_:=H.i P_ [r,r,r,r,r,l,r,d,(lp Oe),r,r,l,d,r,r,r,r,(call 1 145),r,r,d]
def t27(b:LU)(a g f:Int)(u:List (Int×Int×UInt64×UInt64×Unit))(v:Int)(p:LB):S:=⟨[(3,.ptr 0 []),(10,.ptr 1 []),(11,.ptr 2 []),(30,.own 3),(31,vi (Aa b)),(32,vi f)],[.box 57 (.agg [vi a,vi g]),.box 223 (.val (.vec 6 (.cons (.int .i64) (.cons (.int .i64) (.cons (.int .u64) (.cons (.int .u64) .nil))))) u),.box 206 (.agg [.own 4,vi v]),Av 163 b,Ab 5 p],[]⟩
def z27:ZT_ R_:=H.i P_ [r,r,r,r,r,l,r,d]
def x44(Oe:K_)(b:LU)(a g h f:Int)(n:List (Int×Int×UInt64×UInt64×Unit))(m:LB)(o k:Int)(w:LB):Option R_:=H.e P_ [r,r,r,r,r,l,r,d,(lp Oe),r,r,l,d,r,r,r,r,(call 1 145),r,r,d] (t44 b a g h f n m o k w)
theorem i44(Oe:K_)(b:LU)(a g h f:Int)(n:List (Int×Int×UInt64×UInt64×Unit))(m:LB):∀(q:Nat) (o k:Int) (w:LB),z44 Oe q (t44 b a g h f n m o k w)=Ke (λf u v p=>Oe (t27 b a g f u v p)) b a g h f n m q o k w:=
 ind (λ_ _ _=>by kernel_rfl) λq ih o k w=>Eq.trans (b:=Qy (Pw (λo k w=>(z44 Oe q) (t44 b a g h f n m o k w)) h b f a g n m) (Ra (λf u v p=>Oe (t27 b a g f u v p)) b a g) b a g h f n m o k w) A4 (by simp only[ih]<;>rfl)
theorem e44(Oe:K_)(b:LU)(a g:Int):x44 Oe b a g=Qg (λf u v p=>Oe (t27 b a g f u v p)) b a g:=by funext h f n m o k w;exact Eq.trans A4 ((i44 Oe b a g h f n m Bo o k w).trans (by rw[Ao];rfl))
theorem i27(b:LU)(a g:Int):∀(q:Nat) (f:Int) (u:List (Int×Int×UInt64×UInt64×Unit)) (v:Int) (p:LB),z27 q (t27 b a g f u v p)=Kb b a g q f u v p:=
 ind (λ_ _ _ _=>by kernel_rfl) λq ih f u v p=>Eq.trans (b:=Qj (x44 (z27 q) b a g) Qf b a g f u v p) A4 (by simp only[e44,ih]<;>rfl)
def k:KC_:=kk_ 85 H (u4 Lm) func85 (λx=>Eq.trans (b:=u4 (Rt (λb a g f u v p=>z27 Bo (t27 b a g f u v p))) x) A4 (by simp only[i27,Ao]<;>rfl))
end F85
theorem NF:ConOk Tryz.prog gl 36 Tc:=PH F83.k.2 F80.k.2 F141.k.2 F85.k.2 F86.k.2
namespace F146
abbrev R_:=Bool
def H:=hd_ [.agg [Si,Si,Si,Si,Si]] [Sz] (.q (.cut [1] [] .d .d)) [] f146
def k:KC_:=kk_ 146 H (u5 Sm) func146
end F146
namespace F147
def H:=hd_ [.agg [Si,Si,Si,Si,Si]] [Sz] .d [F179.k] f147
def k:KC_:=kk_ 147 H (u5 AH) func147
end F147
namespace F87
def H:=hd_ [.agg [Si,Si,Si,Si,Si]] [Si] .d [F146.k,F147.k] f87
def k:KC_:=kk_ 87 H (u5 Uy) func87
end F87
namespace F37
abbrev R_:=(LB×Int)
def H:=hd_ [.agg [Si,Si,Si,Si,Si]] [Ob 5,Si] (.q (.q (.q (.cut [5] [] (.q (.blk (.loop [5,31,32] [] .d))) .d)))) [F87.k,F88.k,F89.k] f37
def t4(b f g h k m:Int)(a:LB):S:=⟨[(5,.own 0),(31,.val (.vec 5 (.int .i64)) ([b,f,g,h,k]:LI)),(32,vi m)],[Ab 5 a],[]⟩
def z4:ZT_ R_:=H.i P_ [r,r,r,l,r,d]
theorem i4(b f g h k:Int):∀(q:Nat) (m:Int) (a:LB),z4 q (t4 b f g h k m a)=Nr b f g h k q m a:=
 ind (λ_ _=>by kernel_rfl) λq ih m a=>Eq.trans (b:=Xk Xm (λm a=>(z4 q) (t4 b f g h k m a)) b f g h k m a) A4 (by simp only[ih]<;>rfl)
def k:KC_:=kk_ 37 H (u5 GR) func37 (λx=>Eq.trans (b:=u5 (Xq (λb f g h k m a=>z4 Bo (t4 b f g h k m a))) x) A4 (by simp only[i4,Ao]<;>rfl))
end F37
namespace F90
def H:=hd_ [Ss] [Sq,Si] .d [F129.k] f90
def k:KC_:=kk_ 90 H TX func90
end F90
namespace F38
def H:=hd_ [Ss] [Ob 5,Si] .d [F88.k,F90.k] f38
def k:KC_:=kk_ 38 H Vu func38
end F38
namespace F91
abbrev R_:=Int
def H:=hd_ [Sl] [Si] (.q (.q (.q (.cut [] [] (.q (.blk (.loop [3,14,15,16] [] .d))) .d)))) [] f91
def t4(a:LI)(f b:Int):S:=⟨[(3,vi f),(14,vl a),(15,vi (Aa a)),(16,vi b)],[],[]⟩
def z4:ZT_ R_:=H.i P_ [r,r,r,l,r,d]
theorem i4(a:LI):∀(q:Nat) (f b:Int),z4 q (t4 a f b)=Qa a q f b:=
 ind (λ_ _=>by kernel_rfl) λq ih f b=>Eq.trans (b:=AU AZ (λf b=>(z4 q) (t4 a f b)) a f b) A4 (by simp only[ih]<;>rfl)
def k:KC_:=kk_ 91 H Sg func91 (λx=>Eq.trans (b:=Zw (λa f b=>z4 Bo (t4 a f b)) x) A4 (by simp only[i4,Ao]<;>rfl))
end F91
namespace F39
abbrev R_:=(LB×Int)
abbrev K_:=S->Option R_
def H:=hd_ [Sl] [Ob 5,Si] (.q (.q (.q (.q (.cut [5,6] [] (.q (.blk (.loop [5,6,17,18,19] [⟨5,[],.own 5 (.int .u8)⟩,⟨6,[0],.own 5 (.int .u8)⟩] (.q (.q (.cut [5,6,17,18,19] [] (.blk (.q (.keep [5,6,8,17,18,19,23,24,25] true))) .d)))))) (.q (.cut [5] [] (.keep [5,6,9,33,34,35] true) .d))))))) [F88.k,F89.k,F91.k] f39 false [(92,.d)]
def t8(a:LI)(f:Int)(b:LB):S:=⟨[(5,.ptr 0 []),(6,.fn 92 [.ptr 0 []]),(17,vl a),(18,vi (Aa a)),(19,vi f)],[.box 22 (.own 1),Ab 5 b],[]⟩
def z8:ZT_ R_:=H.i P_ [r,r,r,r,l,r,d]
theorem i8(a:LI):∀(q:Nat) (f:Int) (b:LB),z8 q (t8 a f b)=Pg a q f b:=
 ind (λ_ _=>by kernel_rfl) λq ih f b=>Eq.trans (b:=AS (Wy (λf b=>(z8 q) (t8 a f b)) a) Wq a f b) A4 (by simp only[ih]<;>rfl)
def k:KC_:=kk_ 39 H LG func39 (λx=>Eq.trans (b:=Yr (λa f b=>z8 Bo (t8 a f b)) x) A4 (by simp only[i8,Ao]<;>rfl))
end F39
namespace F41
def H:=hd_ [Sb] [Si] .d [] f41
def k:KC_:=kk_ 41 H CG func41
end F41
namespace F42
abbrev R_:=LB
def H:=hd_ [.lf (.list (.list (.int .u8))) none] [Ob 5] (.q (.q (.cut [3] [] (.q (.blk (.loop [3,6,7,8] [⟨3,[],.own 5 (.int .u8)⟩] .d))) .d))) [] f42
def t4(a:List LB)(f:Int)(b:LB):S:=⟨[(3,.own 0),(6,.val (.list (.list (.int .u8))) a),(7,vi (Aa a)),(8,vi f)],[Ab 5 b],[]⟩
def z4:ZT_ R_:=H.i P_ [r,r,l,r,d]
theorem i4(a:List LB):∀(q:Nat) (f:Int) (b:LB),z4 q (t4 a f b)=Qw a q f b:=
 ind (λ_ _=>by kernel_rfl) λq ih f b=>Eq.trans (b:=Zn AK (λf b=>(z4 q) (t4 a f b)) a f b) A4 (by simp only[ih]<;>rfl)
def k:KC_:=kk_ 42 H LJ func42 (λx=>Eq.trans (b:=Yt (λa f b=>z4 Bo (t4 a f b)) x) A4 (by simp only[i4,Ao]<;>rfl))
end F42
namespace F8
abbrev R_:=(LB×Int)
abbrev K_:=S->Option R_
def H:=hd_ [.agg [Si,Si,Si,Sw],Ss] [Ob 5,Si] (.q (.q (.q (.q (.q (.q (.q (.q (.cut [8,9,10] [⟨10,[],.own 5 (.int .u8)⟩] .d (.cut [7,8,9,10,11] [] (.keep [7,8,9,10,11,46,48,49,50,51] true) .d)))))))))) [F35.k,⟨(36,Tc),NF⟩,F37.k,F38.k,F39.k,F41.k,F42.k] f8 false [(40,(.q (.q (.cut [5] [] (.q (.blk (.loop [1,5,11,12,13] [] (.q (.q (.cut [1,5,11,12,13] [] .d .d)))))) .d))))]
def t9(a:List LB)(b f:LB)(g:Int)(h:LI):S:=⟨[(1,.fn 41 []),(5,.own 0),(11,.own 1),(12,vi (Aa a)),(13,vi g)],[Ai 3 h,.arr 22 (.list (.int .u8)) a,Ab 5 b,Ab 5 f],[[(8,.own 1),(9,.own 2),(10,.own 3)]]⟩
def z9:ZT_ R_:=H.i P_ [r,r,r,r,r,r,r,r,r,l,(call 1 40),r,r,l,r,d]
theorem i9(a:List LB)(b f:LB):∀(q:Nat) (g:Int) (h:LI),z9 q (t9 a b f g h)=Qn a b f q g h:=
 ind (λ_ _=>by kernel_rfl) λq ih g h=>Eq.trans (b:=Zk (Wx (λg h=>(z9 q) (t9 a b f g h)) a b f) Xn a b f g h) A4 (by simp only[ih]<;>rfl)
def k:KC_:=kk_ 8 H (u5 AJ) func8 (λx=>Eq.trans (b:=u5 (Yi (Yb (λa b f g h=>z9 Bo (t9 a b f g h)))) x) A4 (by simp only[i9,Ao]<;>rfl))
end F8
namespace F7
def H:=hd_ [] [Ob 5,Sz] .d [F8.k] f7
def k:KC_:=kk_ 7 H (λ_=>Ki) func7
end F7
namespace F48
def Ns(a:LB):Option (LB):=
NG a (
some ([]:LB)) (
(Bb ([]:LB) a).bind λb=>
some b)
theorem ES: @Ns= @Kn:=by
  unfold Ns Kn
  repeat (refine funext λ_=>?_)
  repeat' first
    |with_reducible rfl
    |with_reducible refine Da ?_ ?_
    |with_reducible refine Cy ?_ ?_ ?_
    |with_reducible refine Db ?_ ?_ ?_ ?_
    |((with_reducible refine En ?_ ?_);focus (intro h;first|(subst h;rfl)|(simp only[h];rfl)|(simp[Bb,Aa,h];done)))
    |with_reducible refine Ek λx=>?_
    |with_reducible refine Gv (λ_=>?_) (λ_=>?_)
    |(refine Bt (λh=>by simp only[h,Em,Bk,Bh,ite_self]) (λx h=>?_);(try simp only[h,Bk]))
    |(refine Ck (λh=>?_) (λh=>?_)<;>simp only[h,if_true,if_false,Bool.false_eq_true])
def H:=hd_ [Sb] [Ob 5] .d [] f48
def k:KC_:=kk_ 48 H Kn func48 (λx=>Eq.trans (b:=Ns x) A4 (by simp only[ES]<;>rfl))
end F48
namespace F97
def Ft(a:LI):Option (LI):=
NG a (
some ([]:LI)) (
(Bb ([]:LI) a).bind λb=>
some b)
theorem Oq: @Ft= @Fo:=by
  unfold Ft Fo
  repeat (refine funext λ_=>?_)
  repeat' first
    |with_reducible rfl
    |with_reducible refine Da ?_ ?_
    |with_reducible refine Cy ?_ ?_ ?_
    |with_reducible refine Db ?_ ?_ ?_ ?_
    |((with_reducible refine En ?_ ?_);focus (intro h;first|(subst h;rfl)|(simp only[h];rfl)|(simp[Bb,Aa,h];done)))
    |with_reducible refine Ek λx=>?_
    |with_reducible refine Gv (λ_=>?_) (λ_=>?_)
    |(refine Bt (λh=>by simp only[h,Em,Bk,Bh,ite_self]) (λx h=>?_);(try simp only[h,Bk]))
    |(refine Ck (λh=>?_) (λh=>?_)<;>simp only[h,if_true,if_false,Bool.false_eq_true])
def H:=hd_ [Sl] [Ol 3] .d [] f97
def k:KC_:=kk_ 97 H Fo func97 (λx=>Eq.trans (b:=Ft x) A4 (by simp only[Oq]<;>rfl))
end F97
namespace F45
def H:=hd_ [.agg [Ss,Sb,.agg [Si,Si,Si,Si,Si],Sl,Si,Sb,Sz,Si]] [.agg [Ss,Ob 5,.agg [Si,Si,Si,Si,Si],Ol 3,Si,Ob 5,Sz,Si]] .d [F48.k,F97.k] f45
def k:KC_:=kk_ 45 H (iE Cs) func45
end F45
namespace F100
def H:=hd_ [.agg [Si,Si,Si,Si,Si]] [Ol 3,Si] .d [F87.k,F141.k] f100
def k:KC_:=kk_ 100 H (u5 Ep) func100
end F100
namespace F101
def H:=hd_ [.agg [Si,Si,Si,Si,Si],Ss] [Si] .d [] f101
def k:KC_:=kk_ 101 H (u6 Ld) func101
end F101
namespace F49
abbrev R_:=Bool
def H:=hd_ [.agg [Ss,Sb,.agg [Si,Si,Si,Si,Si],Sl,Si,Sb,Sz,Si]] [Sz] (.q (.q (.q (.cut [1,3] [] .d (.q (.q (.q (.cut [1,5] [] (.q (.blk (.loop [1,5,83,84,85] [] .d))) .d)))))))) [F91.k,F100.k,F101.k] f49
def t6(w:LI)(o p:LB)(h b f k m:Int)(g:LI)(a:Int)(n:LB)(u:Bool)(v y aa:Int):S:=⟨[(1,.ptr 0 []),(5,vi y),(83,vl w),(84,vi (Aa w)),(85,vi aa)],[.box 28 (.agg [vs o,vb p,.agg [vi h,vi b,vi f,vi k,vi m],vl g,vi a,vb n,vt u,vi v])],[]⟩
def z6:ZT_ R_:=H.i P_ [r,r,r,r,r,r,r,l,r,d]
theorem i6(w:LI)(o p:LB)(h b f k m:Int)(g:LI)(a:Int)(n:LB)(u:Bool)(v:Int):∀(q:Nat) (y aa:Int),z6 q (t6 w o p h b f k m g a n u v y aa)=Nn w o p h b f k m g a n u v q y aa:=
 ind (λ_ _=>by kernel_rfl) λq ih y aa=>Eq.trans (b:=Wo Xe (λy aa=>(z6 q) (t6 w o p h b f k m g a n u v y aa)) w o p h b f k m g a n u v y aa) A4 (by simp only[ih]<;>rfl)
def k:KC_:=kk_ 49 H (iE Vi) func49 (λx=>Eq.trans (b:=iE (Xj (Xd (λw o p h b f k m g a n u v y aa=>z6 Bo (t6 w o p h b f k m g a n u v y aa)))) x) A4 (by simp only[i6,Ao]<;>rfl))
end F49
namespace F165
def H:=hd_ [Sb,Sb] [Sz] .d [] f165
def k:KC_:=kk_ 165 H (u2 Ib) func165
end F165
namespace F177
def H:=hd_ [Sb,Sb] [Sz] .d [F165.k] f177
def k:KC_:=kk_ 177 H (u2 Hc) func177
end F177
namespace F235
abbrev R_:=(Int×Int)
def H:=hd_ [Sb] [Si,Si] (.q (.q (.q (.cut [4] [] (.q (.blk (.loop [4,10,11,12] [] .d))) .d)))) [] f235
def t4(a:LB)(b f:Int):S:=⟨[(4,vi b),(10,vb a),(11,vi (Aa a)),(12,vi f)],[],[]⟩
def z4:ZT_ R_:=H.i P_ [r,r,r,l,r,d]
theorem i4(a:LB):∀(q:Nat) (b f:Int),z4 q (t4 a b f)=Lz a q b f:=
 ind (λ_ _=>by kernel_rfl) λq ih b f=>Eq.trans (b:=Tz Um (λb f=>(z4 q) (t4 a b f)) a b f) A4 (by simp only[ih]<;>rfl)
def k:KC_:=kk_ 235 H CM func235 (λx=>Eq.trans (b:=Ul (λa b f=>z4 Bo (t4 a b f)) x) A4 (by simp only[i4,Ao]<;>rfl))
end F235
namespace F217
def Me(j5:LB->UInt8->UInt8->Option (Int×Int))(a:LB):Option (Int×Int):=
(Hc a ([(73:UInt8),(68:UInt8),(51:UInt8)]:LB)).bind λn=>
if(!n)then
some (0,6)
else
if(Cn (Aa a) 10)then
some (0,24)
else
(Ag a 3).bind λf=>
(Ag a 5).bind λb=>
(λo:Option (Int×Int)=>
(λp:Option (Int×Int)=>
both (
both (
bo (
j5 a f b)) [
o,
o]) [
sM (
bo (
j5 a f b)),
p,
p]) (
both (
o) [
bo (
j5 a f b),
both (
bo (
j5 a f b)) [
j5 a f b]])) (
both (
j5 a f b) [
bo (
j5 a f b)])
theorem BP: @Me= @Nt:=by
  unfold Me Nt
  try simp only[Oi,It,Iy]
  all_goals
    repeat (refine funext λ_=>?_)
    repeat' first
      |with_reducible rfl
      |with_reducible refine Da ?_ ?_
      |with_reducible refine Cy ?_ ?_ ?_
      |with_reducible refine Db ?_ ?_ ?_ ?_
      |((with_reducible refine En ?_ ?_);focus (intro h;first|(subst h;rfl)|(simp only[h];rfl)|(simp[Bb,Aa,h];done)))
      |with_reducible refine Ek λx=>?_
      |with_reducible refine Gv (λ_=>?_) (λ_=>?_)
      |(refine Bt (λh=>by simp only[h,Em,Bk,Bh,ite_self]) (λx h=>?_);(try simp only[h,Bk]))
      |(refine Ck (λh=>?_) (λh=>?_)<;>simp only[h,if_true,if_false,Bool.false_eq_true])
abbrev R_:=(Int×Int)
def H:=hd_ [Sb] [Si,Si] (.q (.q (.q (.cut [0,4,5] [] (.mode false) (.q (.q (.cut [0,5,6] [] (.cut [0,5,6,43] [] (.keep [0,5,6,7,8,31,32,33,34,35,36,37,38,39,40,41,42,43] true) .d) (.q (.cut [0,5,6] [] .d .d))))))))) [F165.k,F177.k,F235.k] f217 false [(236,.d)]
def x6(a:LB)(g:Int)(b:UInt8)(m:Bool):Option R_:=H.e P_ [r,r,r,r,r,r,l,r] ⟨[(0,vb a),(5,.ptr 0 []),(6,vi g),(43,vt m)],[.box 5 (vc b)],[]⟩
def x5(a:LB)(f b:UInt8):Option R_:=H.e P_ [r,r,r,r] ⟨[(0,vb a),(4,.ptr 0 []),(5,.ptr 1 [])],[.box 5 (vc f),.box 5 (vc b)],[]⟩
theorem e6:x6=Wn:=A4
theorem e5:x5=Wv:=Eq.trans (b:=Xo x6) A4 (by simp only[e6]<;>rfl)
def k:KC_:=kk_ 217 H FJ func217 (λx=>Eq.trans (b:=Me x5 x) A4 (by rw[BP];simp only[e5]<;>rfl))
end F217
namespace F167
abbrev R_:=(UInt64×Int)
def H:=hd_ [Sb] [Sq,Si] (.q (.q (.q (.cut [4] [] (.q (.blk (.loop [4,15,16,17] [] .d))) .d)))) [] f167
def t4(a:LB)(f:UInt64)(b:Int):S:=⟨[(4,vq f),(15,vb a),(16,vi (Aa a)),(17,vi b)],[],[]⟩
def z4:ZT_ R_:=H.i P_ [r,r,r,l,r,d]
theorem i4(a:LB):∀(q:Nat) (f:UInt64) (b:Int),z4 q (t4 a f b)=Xz a q f b:=
 ind (λ_ _=>by kernel_rfl) λq ih f b=>Eq.trans (b:=KR KM (λf b=>(z4 q) (t4 a f b)) a f b) A4 (by simp only[ih]<;>rfl)
def k:KC_:=kk_ 167 H OK func167 (λx=>Eq.trans (b:=LM (λa f b=>z4 Bo (t4 a f b)) x) A4 (by simp only[i4,Ao]<;>rfl))
end F167
namespace F155
def H:=hd_ [Sb,Si,Si] [Sq,Si] .d [F167.k] f155
def k:KC_:=kk_ 155 H (u3 RB) func155
end F155
namespace F76
abbrev R_:=LB
def H:=hd_ [Si,Si,Sq] [Ob 5] (.q (.q (.cut [7] [] (.q (.blk (.loop [7,20,21,22] [] .d))) .d))) [F88.k] f76
def t4(a b:Int)(f:UInt64)(h:Int)(g:LB):S:=⟨[(7,.own 0),(20,.own 1),(21,vi (Aa ([(2000:UInt64),(Aq (Ac a (32:Int)):UInt64),(Aq b:UInt64),f,(0:UInt64),(0:UInt64)]:LQ))),(22,vi h)],[Ab 5 g,.arr 140 (.int .u64) ([(2000:UInt64),(Aq (Ac a (32:Int)):UInt64),(Aq b:UInt64),f,(0:UInt64),(0:UInt64)]:LQ)],[]⟩
def z4:ZT_ R_:=H.i P_ [r,r,l,r,d]
theorem i4(a b:Int)(f:UInt64):∀(q:Nat) (h:Int) (g:LB),z4 q (t4 a b f h g)=FA a b f q h g:=
 ind (λ_ _=>by kernel_rfl) λq ih h g=>Eq.trans (b:=PQ PK (λh g=>(z4 q) (t4 a b f h g)) a b f h g) A4 (by simp only[ih]<;>rfl)
def k:KC_:=kk_ 76 H (u3 MY) func76 (λx=>Eq.trans (b:=u3 (RH (λa b f h g=>z4 Bo (t4 a b f h g))) x) A4 (by simp only[i4,Ao]<;>rfl))
end F76
namespace F178
def H:=hd_ [Sb,Sq] [.agg [Si,Si],Sz] .d [F76.k,F155.k,F165.k] f178
def k:KC_:=kk_ 178 H (u2 BE) func178
end F178
namespace F218
def H:=hd_ [Sb] [Si,Si] .d [F76.k,F165.k,F177.k,F178.k] f218
def k:KC_:=kk_ 218 H TW func218
end F218
namespace F193
def H:=hd_ [Sb] [Si,Si] .d [F217.k,F218.k] f193
def k:KC_:=kk_ 193 H Md func193
end F193
theorem Qs:ConOk Tryz.prog gl 98 Jr:=QQ ent98 F193.k.2
namespace F96
def H:=hd_ [Si] [.agg [Sz,Si]] .d [] f96
def k:KC_:=kk_ 96 H Af func96
end F96
namespace F194
def H:=hd_ [Ss,Ss] [Sz] .d [] f194
def k:KC_:=kk_ 194 H (u2 Fy) func194
end F194
namespace F154
def H:=hd_ [Ss,Ss] [Sz] .d [F194.k] f154
def k:KC_:=kk_ 154 H (u2 Lb) func154
end F154
namespace F150
abbrev R_:=Bool
def H:=hd_ [Sb] [Sz] (.q (.cut [] [] (.q (.blk (.loop [0,5,6] [] .d))) .d)) [F154.k] f150
def t4(a:LB)(b:Int):S:=⟨[(0,vb a),(5,.val (.vec 2 .str) ([([73,68,51]:LB),([65,80,69,84,65,71,69,88]:LB)]:List LB)),(6,vi b)],[],[]⟩
def z4:ZT_ R_:=H.i P_ [r,l,r,d]
theorem i4(a:LB):∀(q:Nat) (b:Int),z4 q (t4 a b)=Nu a q b:=
 ind (λ_=>by kernel_rfl) λq ih b=>Eq.trans (b:=Wr Wu (λb=>(z4 q) (t4 a b)) a b) A4 (by simp only[ih]<;>rfl)
def k:KC_:=kk_ 150 H Lo func150 (λx=>Eq.trans (b:=Xg (λa b=>z4 Bo (t4 a b)) x) A4 (by simp only[i4,Ao]<;>rfl))
end F150
namespace F99
abbrev R_:=(Int×Int×Int×Int×Int×Int)
def H:=hd_ [Sb] [.agg [Si,Si,Si,Si,Si],Si] (.q (.q (.q (.q (.q (.q (.q (.cut [2,8] [] (.q (.blk (.loop [0,2,8,9,44,45] [] .d))) .d)))))))) [F89.k,F146.k,F147.k,F154.k,F155.k] f99
def t4(b:LB)(g f:Int)(a:LI):S:=⟨[(0,vb b),(2,.ptr 0 []),(8,.ptr 1 []),(9,vi g),(44,.val (.vec 5 (.int .i64)) ([(2:Int),(2:Int),(2:Int),(4:Int),(4:Int)]:LI)),(45,vi f)],[.box 24 (.agg [vi 0,vi 0,vi 0,vi 0,vi 0]),.box 161 (.val (.vec 5 (.int .i64)) a)],[]⟩
def z4:ZT_ R_:=H.i P_ [r,r,r,r,r,r,r,l,r,d]
theorem i4(b:LB):∀(q:Nat) (g f:Int) (a:LI),z4 q (t4 b g f a)=Pk b q g f a:=
 ind (λ_ _ _=>by kernel_rfl) λq ih g f a=>Eq.trans (b:=Yg Yf (λg f a=>(z4 q) (t4 b g f a)) b g f a) A4 (by simp only[ih]<;>rfl)
def k:KC_:=kk_ 99 H Km func99 (λx=>Eq.trans (b:=Zy (λb g f a=>z4 Bo (t4 b g f a)) x) A4 (by simp only[i4,Ao]<;>rfl))
end F99
namespace F127
def H:=hd_ [Sb,Ss] [Sz,Si] .d [F38.k,F165.k] f127
def k:KC_:=kk_ 127 H (u2 Wa) func127
end F127
namespace F128
abbrev R_:=(LI×Int)
def H:=hd_ [Sb,Si] [Ol 3,Si] (.q (.q (.q (.q (.q (.q (.cut [10] [] (.q (.blk (.loop [0,10,48,49] [] .d))) .d))))))) [F89.k,F91.k,F155.k] f128
def t4(a:LB)(f:LI)(g:Int)(b:LI):S:=⟨[(0,vb a),(10,.own 0),(48,vi (Aa f)),(49,vi g)],[Ai 3 b],[]⟩
def z4:ZT_ R_:=H.i P_ [r,r,r,r,r,r,l,r,d]
theorem i4(a:LB)(f:LI):∀(q:Nat) (g:Int) (b:LI),z4 q (t4 a f g b)=Te a f q g b:=
 ind (λ_ _=>by kernel_rfl) λq ih g b=>Eq.trans (b:=CL CA (λg b=>(z4 q) (t4 a f g b)) a f g b) A4 (by simp only[ih]<;>rfl)
def k:KC_:=kk_ 128 H (u2 DY) func128 (λx=>Eq.trans (b:=u2 (DC (λa f g b=>z4 Bo (t4 a f g b))) x) A4 (by simp only[i4,Ao]<;>rfl))
end F128
namespace F151
def H:=hd_ [.agg [Si,Si,Si,Si,Si]] [.agg [Si,Si]] .d [] f151
def k:KC_:=kk_ 151 H (u5 Sy) func151
end F151
namespace F131
def H:=hd_ [Sb] [Sb,Si] .d [F89.k,F167.k] f131
def k:KC_:=kk_ 131 H Zi func131
end F131
namespace F132
def H:=hd_ [Sb] [.agg [Ob 5,Si],Si] .d [F109.k] f132
def k:KC_:=kk_ 132 H eA func132
end F132
namespace F172
abbrev R_:=UInt64
def H:=hd_ [.agg [Sb,Si],Si,Si] [Sq] (.q (.q (.cut [7] [] (.blk (.loop [1,2,3,7,8] [] .d)) .d))) [] f172
def t4(b f:Int)(h:LB)(k:Int)(g:UInt64)(a:Int):S:=⟨[(1,vi b),(2,vi f),(3,.ptr 0 []),(7,vq g),(8,vi a)],[.box 206 (.agg [vb h,vi k])],[]⟩
def z4:ZT_ R_:=H.i P_ [r,r,l,d]
theorem i4(b f:Int)(h:LB)(k:Int):∀(q:Nat) (g:UInt64) (a:Int),z4 q (t4 b f h k g a)=Zj b f h k q g a:=
 ind (λ_ _=>by kernel_rfl) λq ih g a=>Eq.trans (b:=KV KY (λg a=>(z4 q) (t4 b f h k g a)) b f h k g a) A4 (by simp only[ih]<;>rfl)
def k:KC_:=kk_ 172 H (u4 RD) func172 (λx=>Eq.trans (b:=u4 (KD (λb f h k g a=>z4 Bo (t4 b f h k g a))) x) A4 (by simp only[i4,Ao]<;>rfl))
end F172
namespace F169
abbrev R_:=(LB×Int×Int)
abbrev K_:=S->Option R_
def H:=hd_ [.agg [Sb,Si],Si,Si] [.agg [Ob 5,Si],Si] (.q (.q (.q (.q (.cut [6,8] [] (.q (.blk (.loop [2,3,6,8,9] [⟨8,[0],.own 5 (.int .u8)⟩] (.q (.cut [2,3,6,8,9] [] (.blk (.q (.keep [2,3,6,8,9,10,39,40,41,42,43] true))) .d))))) .d))))) [F171.k,F172.k] f169 false [(202,(.blk (.loop [0,1,2] [] (.q (.blk (.cut [0,1,2] [] .d (.q (.cut [0,1,2,7] [] .d .d))))))))]
def t44(a:Int)(g:LB)(b f:Int)(m n:UInt64)(k h:Int)(u:LB):S:=⟨[(0,.ptr 0 []),(1,vq n),(2,vi k)],[.box 206 (.agg [.own 3,vi h]),.box 206 (.agg [vb g,vi b]),.box 206 (.agg [.nils,vi 0]),Ab 5 u],[[(2,vi a),(3,.ptr 1 []),(6,.ptr 2 []),(8,.ptr 0 []),(9,vi f),(10,vi (Fm (64:Int) (Al a f))),(39,.agg [vb g,vi b]),(40,vi f),(41,vi (Fm (64:Int) (Al a f))),(42,vq m),(43,vi (Fm (64:Int) (Al a f)))]]⟩
def z44(Oe:K_):ZT_ R_:=H.i P_ [r,r,r,r,l,r,d,(lp Oe),r,l,d,r,(call 5 202),d]
def t27(a:Int)(g:LB)(b f o:Int)(p:LB):S:=⟨[(2,vi a),(3,.ptr 0 []),(6,.ptr 1 []),(8,.ptr 2 []),(9,vi f)],[.box 206 (.agg [vb g,vi b]),.box 206 (.agg [.nils,vi 0]),.box 206 (.agg [.own 3,vi o]),Ab 5 p],[]⟩
def z27:ZT_ R_:=H.i P_ [r,r,r,r,l,r,d]
def x44(Oe:K_)(a:Int)(g:LB)(b f:Int)(m n:UInt64)(k h:Int)(u:LB):Option R_:=H.e P_ [r,r,r,r,l,r,d,(lp Oe),r,l,d,r,(call 5 202),d] (t44 a g b f m n k h u)
theorem i44(Oe:K_)(a:Int)(g:LB)(b f:Int)(m:UInt64):∀(q:Nat) (n:UInt64) (k h:Int) (u:LB),z44 Oe q (t44 a g b f m n k h u)=Vk (λf o p=>Oe (t27 a g b f o p)) a g b f m q n k h u:=
 ind (λ_ _ _ _=>by kernel_rfl) λq ih n k h u=>Eq.trans (b:=GG (GP (λn k h u=>(z44 Oe q) (t44 a g b f m n k h u)) a f g b m) (FF (λf o p=>Oe (t27 a g b f o p)) a g b) a g b f m n k h u) A4 (by simp only[ih]<;>rfl)
theorem e44(Oe:K_)(a:Int)(g:LB)(b:Int):x44 Oe a g b=HH (λf o p=>Oe (t27 a g b f o p)) a g b:=by funext f m n k h u;exact Eq.trans A4 ((i44 Oe a g b f m Bo n k h u).trans (by rw[Ao];rfl))
theorem i27(a:Int)(g:LB)(b:Int):∀(q:Nat) (f o:Int) (p:LB),z27 q (t27 a g b f o p)=Vg a g b q f o p:=
 ind (λ_ _ _=>by kernel_rfl) λq ih f o p=>Eq.trans (b:=HE (x44 (z27 q) a g b) FY a g b f o p) A4 (by simp only[e44,ih]<;>rfl)
def k:KC_:=kk_ 169 H (u4 QB) func169 (λx=>Eq.trans (b:=u4 (KX (λa g b f o p=>z27 Bo (t27 a g b f o p))) x) A4 (by simp only[i27,Ao]<;>rfl))
end F169
namespace F134
def H:=hd_ [.agg [Sb,Si],Si,Si] [Sq,Si] .d [F171.k,F172.k] f134
def k:KC_:=kk_ 134 H (u4 Qk) func134
end F134
namespace F244
def H:=hd_ [Sq] [Si] .d [] f244
def k:KC_:=kk_ 244 H Ij func244
end F244
namespace F228
def Rg(j6:Int->UInt64->Int->LB->Int->Option (Int×Int×Int))(g:LB)(b a:Int):Option (Int×Int×Int):=
(Fc g b).bind λm=>
if(Bm m 0)then
some (0,0,m)
else
if(Cn a 0)then
some (0,0,2)
else
if(Ja a b)then
some (0,0,24)
else
(λn:Option (Int×Int×Int)=>
(λo:Option (Int×Int×Int)=>
sM (
o)) (
bo (
n))) (
(Qk g b a (Fm 48 (Al b a))).bind λ(k,h)=>
j6 h k a g b)
theorem FL: @Rg= @Tl:=by
  unfold Rg Tl;simp only[Oi,It,Iy]
abbrev R_:=(Int×Int×Int)
def H:=hd_ [.agg [Sb,Si],Si] [Si,Si,Si] (.q (.q (.q (.q (.q (.cut [3,5,6,8,9] [] (.keep [2,3,5,6,8,9,22,23,24,25,26,27,28,29] false) (.q (.q (.cut [] [] (.blk (.seq (.blk (.seq (.blk (.cut [] [] (.cut [3,4,5] [] (.cut [3,4,5,36] [] (.keep [3,4,5,8,36,37,38,39,40] true) .d) .d) .d)) .d)) .d)) .d))))))))) [F134.k,F171.k,F244.k] f228 false [(243,.d)]
def k:KC_:=kk_ 228 H (u3 QG) func228 (λx=>Eq.trans (b:=u3 (Rg CH) x) A4 (by simp only[FL]<;>rfl))
end F228
namespace F203
abbrev R_:=(UInt32×Int×Int)
def H:=hd_ [.agg [Sb,Si],Si,Si] [Su,Si,Si] (.q (.q (.q (.q (.q (.q (.cut [2,3,7,10,11] [] .d .d))))))) [F134.k,F171.k,F214.k,F228.k] f203
def k:KC_:=kk_ 203 H (u4 UB) func203
end F203
namespace F170
abbrev R_:=(UInt32×Int×Int×Int×UInt64×UInt64×Int)
def H:=hd_ [.agg [Sb,Si],Si,.agg [Si,Si,Sq,Sq]] [Su,Si,.agg [Si,Si,Sq,Sq],Si] (.q (.cut [1,3,5,8] [] .d (.q (.q (.cut [5,6,7,8] [] .d (.cut [5,6,7,8] [] (.keep [5,6,7,8,81] true) .d)))))) [F134.k,F171.k,F186.k,F187.k,F203.k] f170 false [(190,(.q (.q (.q (.blk (.cut [0,1,4] [] (.blk (.q (.keep [0,1,4,6,18,19,20,21,22,23,24,25] true))) (.cut [] [] (.keep [0,1,4,27,28,29,30,31,32,33,34] true) .d))))))),(216,.d)]
def x8(f:UInt32)(k a:Int)(b:UInt64)(m:Int)(n:UInt64):Option R_:=H.e P_ [r,r,r,r,r,l,(call 1 190),r,r,r,d,r] ⟨[(0,.ptr 0 []),(1,vu f),(4,.fn 216 [])],[.box 222 (.agg [vi a,vi m,vq b,vq n]),.box 222 (.agg [vi 0,vi 0,vq 0,vq 0])],[[(5,.ptr 0 []),(6,vu f),(7,vi k),(8,.ptr 1 []),(81,vu f)]]⟩
theorem e8:x8=HK:=A4
def k:KC_:=kk_ 170 H (u7 Ub) func170 (λx=>Eq.trans (b:=u7 (HU (GL (FZ x8))) x) A4 (by simp only[e8]<;>rfl))
end F170
namespace F133
def Iw(j21:Int->Int->Int->UInt32->Int-> (List (Int×Int×UInt64×UInt64×Unit))->LU->Int->Int->UInt64->UInt64->Option (LU×Int×Int))(j24:Int->LU->Option (LU×Int×Int))(a f:Int)(g:LB)(b k h:Int)(m:List (Int×Int×UInt64×UInt64×Unit))(n:LU):Option (LU×Int×Int):=
if(Cn h (Ew f a))then
(QB g b k (Fm (Ac k 81) b)).bind λ(ag,ae,af)=>
if(Bm af 0)then
some (([]:LU),0,af)
else
(Ef (Bm a 0)).bind λ_=>
(Ag m (Hw h a)).bind λ_=>
(λai:Option (LU×Int×Int)=>
both (
both (
(Ag m (Hw h a)).bind λo=>
(λao:Option (LU×Int×Int)=>
bo (
ao)) (
(Ub ag ae 0 o.1 o.2.1 o.2.2.1 o.2.2.2.1).bind λ(w,v,aa,ab,ac,ad,y)=>
j21 k h y w v m n aa ab ac ad)) [
ai]) [
(Ag m (Hw h a)).bind λo=>
(λaj:Option (LU×Int×Int)=>
both (
bo (
aj)) [
aj]) (
(Ub ag ae 0 o.1 o.2.1 o.2.2.1 o.2.2.2.1).bind λ(w,v,aa,ab,ac,ad,y)=>
j21 k h y w v m n aa ab ac ad),
bo (
ai)]) (
(Ag m (Hw h a)).bind λo=>
(Ub ag ae 0 o.1 o.2.1 o.2.2.1 o.2.2.2.1).bind λ(w,v,aa,ab,ac,ad,y)=>
j21 k h y w v m n aa ab ac ad)
else
j24 k n
theorem Wg: @Iw= @Kf:=by
  unfold Iw Kf
  try simp only[Oi,It,Iy]
  all_goals
    repeat (refine funext λ_=>?_)
    repeat' first
      |with_reducible rfl
      |with_reducible refine Da ?_ ?_
      |with_reducible refine Cy ?_ ?_ ?_
      |with_reducible refine Db ?_ ?_ ?_ ?_
      |((with_reducible refine En ?_ ?_);focus (intro h;first|(subst h;rfl)|(simp only[h];rfl)|(simp[Bb,Aa,h];done)))
      |with_reducible refine Ek λx=>?_
      |with_reducible refine Gv (λ_=>?_) (λ_=>?_)
      |(refine Bt (λh=>by simp only[h,Em,Bk,Bh,ite_self]) (λx h=>?_);(try simp only[h,Bk]))
      |(refine Ck (λh=>?_) (λh=>?_)<;>simp only[h,if_true,if_false,Bool.false_eq_true])
abbrev R_:=(LU×Int×Int)
abbrev K_:=S->Option R_
def H:=hd_ [Si,Si,.agg [Sb,Si]] [Ov 163,Si,Si] (.q (.q (.cut [0,1,5,9] [] (.q (.blk (.loop [0,1,5,9,19] [] .d))) (.q (.q (.cut [11,12] [] (.q (.blk (.loop [0,5,9,11,12,28,29] [⟨11,[],.own 163 (.int .u32)⟩] (.q (.q (.seq (.blk (.q (.q (.q (.cut [0,5,9,11,12,13,15,16,17,18,28,29] [] (.mode false) (.q (.cut [0,5,9,11,12,16,28,29] [] .d .d))))))) .d)))))) .d)))))) [F168.k,F169.k,F170.k] f133
def t16(a f:Int)(g:LB)(b k h:Int)(m:List (Int×Int×UInt64×UInt64×Unit))(n:LU):S:=⟨[(0,vi a),(5,.ptr 0 []),(9,.ptr 1 []),(11,.own 2),(12,vi k),(28,vi (Ew f a)),(29,vi h)],[.box 206 (.agg [vb g,vi b]),.box 223 (.val (.vec 6 (.cons (.int .i64) (.cons (.int .i64) (.cons (.int .u64) (.cons (.int .u64) .nil))))) m),Av 163 n],[]⟩
def z16:ZT_ R_:=H.i P_ [r,r,r,r,r,l,r,d]
def t13(a f:Int)(g:LB)(b u:Int)(p:List (Int×Int×UInt64×UInt64×Unit)):S:=⟨[(0,vi a),(1,vi f),(5,.ptr 0 []),(9,.ptr 1 []),(19,vi u)],[.box 206 (.agg [vb g,vi b]),.box 223 (.val (.vec 6 (.cons (.int .i64) (.cons (.int .i64) (.cons (.int .u64) (.cons (.int .u64) .nil))))) p)],[]⟩
def z13:ZT_ R_:=H.i P_ [r,r,l,r,d]
def x16(a f:Int)(g:LB)(b k h:Int)(m:List (Int×Int×UInt64×UInt64×Unit))(n:LU):Option R_:=H.e P_ [r,r,r,r,r,l,r,d] (t16 a f g b k h m n)
theorem i16(a f:Int)(g:LB)(b:Int):∀(q:Nat) (k h:Int) (m:List (Int×Int×UInt64×UInt64×Unit)) (n:LU),z16 q (t16 a f g b k h m n)=Jv a f g b q k h m n:=
 ind (λ_ _ _ _=>by kernel_rfl) λq ih k h m n=>Eq.trans (b:=Iw (Qe (λk h m n=>(z16 q) (t16 a f g b k h m n)) a f g b) Qo a f g b k h m n) A4 (by rw[Wg];simp only[ih]<;>rfl)
theorem e16:x16=Qz:=by funext a f g b k h m n;exact Eq.trans A4 ((i16 a f g b Bo k h m n).trans (by rw[Ao];rfl))
theorem i13(a f:Int)(g:LB)(b:Int):∀(q:Nat) (u:Int) (p:List (Int×Int×UInt64×UInt64×Unit)),z13 q (t13 a f g b u p)=Jy a f g b q u p:=
 ind (λ_ _=>by kernel_rfl) λq ih u p=>Eq.trans (b:=Pp (Pj x16) (λu p=>(z13 q) (t13 a f g b u p)) a f g b u p) A4 (by simp only[e16,ih]<;>rfl)
def k:KC_:=kk_ 133 H (u4 Ze) func133 (λx=>Eq.trans (b:=u4 (Sa (λa f g b u p=>z13 Bo (t13 a f g b u p))) x) A4 (by simp only[i13,Ao]<;>rfl))
end F133
namespace F175
def H:=hd_ [Su] [Sx] .d [] f175
def k:KC_:=kk_ 175 H Mk func175
end F175
namespace F207
def H:=hd_ [.agg [Si,.lf (.vec 16 (.int .i32)) none,.lf (.vec 16 (.int .i32)) none],Sx] [Sx,.agg [Si,.lf (.vec 16 (.int .i32)) none,.lf (.vec 16 (.int .i32)) none],Si] .d [F231.k,F232.k] f207
def k:KC_:=kk_ 207 H (u4 RP) func207
end F207
namespace F174
def Qd(a:Int)(b:Int32)(f:Int)(g h:LX)(o:Int32):Option (Int32×Int×Int32×Int×LX×LX×Int):=
(Mz a b f g h).bind λk=>
if(Bm k 0)then
some (0,0,0,0,(List.replicate 16 (0:Int32)),(List.replicate 16 (0:Int32)),k)
else
(Nb a b).bind λ(m,y)=>
(RP f g h o).bind λ(n,p,u,v,w)=>
(λaa:Option (Int32×Int×Int32×Int×LX×LX×Int)=>
bo (
aa)) (
some ((Ac n m),a,(Ac n m),p,u,v,w))
theorem GJ: @Qd= @Fs:=by
  unfold Qd Fs;simp only[Oi,It,Iy]
def H:=hd_ [.agg [Si,Sx,.agg [Si,.lf (.vec 16 (.int .i32)) none,.lf (.vec 16 (.int .i32)) none]],Sx] [Sx,.agg [Si,Sx,.agg [Si,.lf (.vec 16 (.int .i32)) none,.lf (.vec 16 (.int .i32)) none]],Si] (.q (.q (.q (.q (.seq (.mode false) .d))))) [F205.k,F206.k,F207.k] f174
def k:KC_:=kk_ 174 H (u6 Fs) func174 (λx=>Eq.trans (b:=u6 Qd x) A4 (by simp only[GJ]<;>rfl))
end F174
namespace F176
abbrev R_:=(LX×Int)
abbrev K_:=S->Option R_
def H:=hd_ [Si,Sw] [Ow 21,Si] (.q (.q (.q (.cut [7] [] (.q (.blk (.loop [0,7,8] [] (.q (.cut [0,7,8] [] (.blk (.keep [0,7,8,24,25,26,27,28,29] true)) .d))))) .d)))) [F160.k,F208.k] f176 true [(209,(.q (.cut [0,2] [] .d (.q (.blk (.loop [0,3] [] .d))))))]
def t18(b a g:Int)(h:LX):S:=⟨[(0,.view true 0 [] (.int .i32) a ((Ac a b)-a)),(3,vi g)],[Aw 21 h],[[(0,vi b),(7,.own 0),(8,vi a),(24,.own 0),(25,vi a),(26,vi a),(27,vi b),(28,vi (Ac a b)),(29,.view true 0 [] (.int .i32) a ((Ac a b)-a))]]⟩
def z18(Od:K_):ZT_ R_:=H.i P_ [r,r,r,l,r,d,(lp Od),r,l,d,(call 6 209),r,r,r,d]
def t12(b a:Int)(f:LX):S:=⟨[(0,vi b),(7,.own 0),(8,vi a)],[Aw 21 f],[]⟩
def z12:ZT_ R_:=H.i P_ [r,r,r,l,r,d]
def x18(Od:K_)(b a g:Int)(h:LX):Option R_:=H.e P_ [r,r,r,l,r,d,(lp Od),r,l,d,(call 6 209),r,r,r,d] (t18 b a g h)
theorem i18(Od:K_)(b a:Int):∀(q:Nat) (g:Int) (h:LX),z18 Od q (t18 b a g h)=Vx (λa f=>Od (t12 b a f)) b a q g h:=
 ind (λ_ _=>by kernel_rfl) λq ih g h=>Eq.trans (b:=FR (GW (λa f=>Od (t12 b a f)) b) (λg h=>(z18 Od q) (t18 b a g h)) b a g h) A4 (by simp only[ih]<;>rfl)
theorem e18(Od:K_)(b:Int):x18 Od b=FX (λa f=>Od (t12 b a f)) b:=by funext a g h;exact Eq.trans A4 ((i18 Od b a Bo g h).trans (by rw[Ao];rfl))
theorem i12(b:Int):∀(q:Nat) (a:Int) (f:LX),z12 q (t12 b a f)=Vt b q a f:=
 ind (λ_ _=>by kernel_rfl) λq ih a f=>Eq.trans (b:=FU (FE (x18 (z12 q) b) b) GA b a f) A4 (by simp only[e18,ih]<;>rfl)
def k:KC_:=kk_ 176 H (u2 YQ) func176 (λx=>Eq.trans (b:=u2 (LK (λb a f=>z12 Bo (t12 b a f))) x) A4 (by simp only[i12,Ao]<;>rfl))
end F176
namespace F135
def Hz(j16:Int->Int32->Int-> (List (Int×Int32×(Int×LX×LX×Unit)×Unit))->LX->Int->Int32->Int->LX->LX->Option (LX×Int))(j18:Int->Int->LX->Option (LX×Int))(f:LU)(a b g:Int)(h:List (Int×Int32×(Int×LX×LX×Unit)×Unit))(k:LX):Option (LX×Int):=
if(Cn g (Aa f))then
(Ag f g).bind λag=>
(Ef (Bm a 0)).bind λ_=>
(Ag h (Hw g a)).bind λ_=>
both (
(Ag h (Hw g a)).bind λm=>
both (
(Mk ag).bind λae=>
(λao:Option (LX×Int)=>
bo (
ao)) (
(Fs m.1 m.2.1 m.2.2.1.1 m.2.2.1.2.1 m.2.2.1.2.2.1 ae).bind λ(y,aa,w,ab,ac,ad,v)=>
j16 g y v h k aa w ab ac ad)) [
(Mk ag).bind λae=>
(Fs m.1 m.2.1 m.2.2.1.1 m.2.2.1.2.1 m.2.2.1.2.2.1 ae).bind λ(y,aa,w,ab,ac,ad,v)=>
j16 g y v h k aa w ab ac ad]) [
(Mk ag).bind λaf=>
both (
(Ag h (Hw g a)).bind λu=>
(λap:Option (LX×Int)=>
bo (
ap)) (
(Fs u.1 u.2.1 u.2.2.1.1 u.2.2.1.2.1 u.2.2.1.2.2.1 af).bind λ(y,aa,w,ab,ac,ad,v)=>
j16 g y v h k aa w ab ac ad)) [
(Ag h (Hw g a)).bind λu=>
(Fs u.1 u.2.1 u.2.2.1.1 u.2.2.1.2.1 u.2.2.1.2.2.1 af).bind λ(y,aa,w,ab,ac,ad,v)=>
j16 g y v h k aa w ab ac ad],
both (
(Ag h (Hw g a)).bind λm=>
(Mk ag).bind λae=>
(Fs m.1 m.2.1 m.2.2.1.1 m.2.2.1.2.1 m.2.2.1.2.2.1 ae).bind λ(y,aa,w,ab,ac,ad,v)=>
j16 g y v h k aa w ab ac ad) [
(Mk ag).bind λaf=>
(Ag h (Hw g a)).bind λu=>
(Fs u.1 u.2.1 u.2.2.1.1 u.2.2.1.2.1 u.2.2.1.2.2.1 af).bind λ(y,aa,w,ab,ac,ad,v)=>
j16 g y v h k aa w ab ac ad]]
else
j18 a b k
theorem Tu: @Hz= @Iu:=by
  unfold Hz Iu
  try simp only[Oi,It,Iy]
  all_goals
    repeat (refine funext λ_=>?_)
    repeat' first
      |with_reducible rfl
      |with_reducible refine Da ?_ ?_
      |with_reducible refine Cy ?_ ?_ ?_
      |with_reducible refine Db ?_ ?_ ?_ ?_
      |((with_reducible refine En ?_ ?_);focus (intro h;first|(subst h;rfl)|(simp only[h];rfl)|(simp[Bb,Aa,h];done)))
      |with_reducible refine Ek λx=>?_
      |with_reducible refine Gv (λ_=>?_) (λ_=>?_)
      |(refine Bt (λh=>by simp only[h,Em,Bk,Bh,ite_self]) (λx h=>?_);(try simp only[h,Bk]))
      |(refine Ck (λh=>?_) (λh=>?_)<;>simp only[h,if_true,if_false,Bool.false_eq_true])
abbrev R_:=(LX×Int)
abbrev K_:=S->Option R_
def H:=hd_ [.agg [Si,Si],.lf (.vec 16 (.int .i32)) none,Sv] [Ow 21,Si] (.q (.q (.cut [2,3,8] [] (.q (.blk (.loop [2,3,4,8,20] [] .d))) (.q (.cut [3,10] [] (.q (.blk (.loop [3,8,10,33,34,35] [⟨10,[],.own 21 (.int .i32)⟩] (.q (.q (.seq (.blk (.q (.q (.cut [3,8,10,13,14,15,16,33,34,35] [] (.mode false) .d)))) .d)))))) .d))))) [F139.k,F173.k,F174.k,F175.k,F176.k] f135
def t13(f:LU)(a b g:Int)(h:List (Int×Int32×(Int×LX×LX×Unit)×Unit))(k:LX):S:=⟨[(3,.ptr 0 []),(8,.ptr 1 []),(10,.own 2),(33,vv f),(34,vi (Aa f)),(35,vi g)],[.box 57 (.agg [vi a,vi b]),.box 266 (.val (.vec 6 (.cons (.int .i64) (.cons (.int .i32) (.cons (.cons (.int .i64) (.cons (.vec 16 (.int .i32)) (.cons (.vec 16 (.int .i32)) .nil))) .nil)))) h),Aw 21 k],[]⟩
def z13:ZT_ R_:=H.i P_ [r,r,r,r,l,r,d]
def t10(f:LU)(a b:Int)(o:LX)(p:Int)(n:List (Int×Int32×(Int×LX×LX×Unit)×Unit)):S:=⟨[(2,vv f),(3,.ptr 0 []),(4,.ptr 1 []),(8,.ptr 2 []),(20,vi p)],[.box 57 (.agg [vi a,vi b]),.box 149 (.val (.vec 16 (.int .i32)) o),.box 266 (.val (.vec 6 (.cons (.int .i64) (.cons (.int .i32) (.cons (.cons (.int .i64) (.cons (.vec 16 (.int .i32)) (.cons (.vec 16 (.int .i32)) .nil))) .nil)))) n)],[]⟩
def z10:ZT_ R_:=H.i P_ [r,r,l,r,d]
def x13(f:LU)(a b g:Int)(h:List (Int×Int32×(Int×LX×LX×Unit)×Unit))(k:LX):Option R_:=H.e P_ [r,r,r,r,l,r,d] (t13 f a b g h k)
theorem i13(f:LU)(a b:Int):∀(q:Nat) (g:Int) (h:List (Int×Int32×(Int×LX×LX×Unit)×Unit)) (k:LX),z13 q (t13 f a b g h k)=Iv f a b q g h k:=
 ind (λ_ _ _=>by kernel_rfl) λq ih g h k=>Eq.trans (b:=Hz (Og (λg h k=>(z13 q) (t13 f a b g h k)) a f b) Of f a b g h k) A4 (by rw[Tu];simp only[ih]<;>rfl)
theorem e13:x13=Ok:=by funext f a b g h k;exact Eq.trans A4 ((i13 f a b Bo g h k).trans (by rw[Ao];rfl))
theorem i10(f:LU)(a b:Int)(o:LX):∀(q:Nat) (p:Int) (n:List (Int×Int32×(Int×LX×LX×Unit)×Unit)),z10 q (t10 f a b o p n)=Iz f a b o q p n:=
 ind (λ_ _=>by kernel_rfl) λq ih p n=>Eq.trans (b:=Oj (Oh x13) (λp n=>(z10 q) (t10 f a b o p n)) f a b o p n) A4 (by simp only[e13,ih]<;>rfl)
def k:KC_:=kk_ 135 H (u4 Ww) func135 (λx=>Eq.trans (b:=u4 (Qx (λf a b o p n=>z10 Bo (t10 f a b o p n))) x) A4 (by simp only[i10,Ao]<;>rfl))
end F135
namespace F81
def H:=hd_ [.agg [Si,Si],.lf (.vec 16 (.int .i32)) none,Si,Sb] [Ow 21,Si] .d [F114.k,F131.k,F132.k,F133.k,F134.k,F135.k] f81
def k:KC_:=kk_ 81 H (u5 Pd) func81
end F81
namespace F152
abbrev R_:=(LB×Int)
abbrev K_:=S->Option R_
def H:=hd_ [Si,Sw] [Ob 5,Si] (.q (.q (.q (.cut [7] [] (.q (.blk (.loop [0,7,17,18,19] [⟨7,[],.own 5 (.int .u8)⟩] (.q (.q (.cut [0,7,17,18,19] [] (.blk (.q (.cut [0,7,9,17,18,19] [] .d (.q (.blk (.loop [0,7,9,17,18,19,28,29] [] .d)))))) .d)))))) .d)))) [F139.k] f152
def t26(b:Int)(a:LX)(k:Int32)(f m:Int)(h:LB):S:=⟨[(0,vi b),(7,.own 0),(9,vx k),(17,vw a),(18,vi (Aa a)),(19,vi f),(28,vi (Oc b (8:Int))),(29,vi m)],[Ab 5 h],[]⟩
def z26(Hg:K_):ZT_ R_:=H.i P_ [r,r,r,l,r,d,(lp Hg),r,r,l,d,r,r,r,d]
def t16(b:Int)(a:LX)(f:Int)(g:LB):S:=⟨[(0,vi b),(7,.own 0),(17,vw a),(18,vi (Aa a)),(19,vi f)],[Ab 5 g],[]⟩
def z16:ZT_ R_:=H.i P_ [r,r,r,l,r,d]
def x26(Hg:K_)(b:Int)(a:LX)(k:Int32)(f m:Int)(h:LB):Option R_:=H.e P_ [r,r,r,l,r,d,(lp Hg),r,r,l,d,r,r,r,d] (t26 b a k f m h)
theorem i26(Hg:K_)(b:Int)(a:LX)(k:Int32)(f:Int):∀(q:Nat) (m:Int) (h:LB),z26 Hg q (t26 b a k f m h)=Nz (λf g=>Hg (t16 b a f g)) b a k f q m h:=
 ind (λ_ _=>by kernel_rfl) λq ih m h=>Eq.trans (b:=Wt (Xa (λf g=>Hg (t16 b a f g)) b a) (λm h=>(z26 Hg q) (t26 b a k f m h)) b a k f m h) A4 (by simp only[ih]<;>rfl)
theorem e26(Hg:K_)(b:Int)(a:LX):x26 Hg b a=Xr (λf g=>Hg (t16 b a f g)) b a:=by funext k f m h;exact Eq.trans A4 ((i26 Hg b a k f Bo m h).trans (by rw[Ao];rfl))
theorem i16(b:Int)(a:LX):∀(q:Nat) (f:Int) (g:LB),z16 q (t16 b a f g)=Oa b a q f g:=
 ind (λ_ _=>by kernel_rfl) λq ih f g=>Eq.trans (b:=Xi (Wm (x26 (z16 q) b a) b a) Xp b a f g) A4 (by simp only[e26,ih]<;>rfl)
def k:KC_:=kk_ 152 H (u2 Nk) func152 (λx=>Eq.trans (b:=u2 (Zr (λb a f g=>z16 Bo (t16 b a f g))) x) A4 (by simp only[i16,Ao]<;>rfl))
end F152
namespace F156
abbrev R_:=Int
def H:=hd_ [Sl,Si] [Si] (.q (.cut [] [] (.q (.blk (.loop [0,1,7,8] [] .d))) .d)) [] f156
def t4(a:LI)(b f:Int):S:=⟨[(0,vl a),(1,vi b),(7,vi (Aa a)),(8,vi f)],[],[]⟩
def z4:ZT_ R_:=H.i P_ [r,l,r,d]
theorem i4(a:LI)(b:Int):∀(q:Nat) (f:Int),z4 q (t4 a b f)=Cp a b q f:=
 ind (λ_=>by kernel_rfl) λq ih f=>Eq.trans (b:=Et Eo (λf=>(z4 q) (t4 a b f)) a b f) A4 (by simp only[ih]<;>rfl)
def k:KC_:=kk_ 156 H (u2 Fk) func156 (λx=>Eq.trans (b:=u2 (Es (λa b f=>z4 Bo (t4 a b f))) x) A4 (by simp only[i4,Ao]<;>rfl))
end F156
namespace F102
def H:=hd_ [Sl,Si] [Sz] .d [F156.k] f102
def k:KC_:=kk_ 102 H (u2 Er) func102
end F102
namespace F50
def H:=hd_ [Si] [Sz] .d [F102.k] f50
def k:KC_:=kk_ 50 H Ji func50
end F50
namespace F15
def Jt(j28:Bool->Int->Option Int)(y ac:Int)(g a:LB)(h p m u v b:Int)(n:Bool)(o:Int)(ak:LX)(f:LI)(k:LB):Option Int:=
if(Bm ac 0)then
(Af ac).bind λ(bi,bj)=>
j28 bi bj
else
(Nk m ak).bind λ(bk,bb)=>
if(Bm bb 0)then
(Af bb).bind λ(bl,bm)=>
j28 bl bm
else
(Bb k bk).bind λdv=>
(λfa:Option Int=>
bo (
fa)) (
(Bu a y (Aa a)).bind λdw=>
j28 false 0)
theorem Xu: @Jt= @Lk:=by
  unfold Jt Lk;simp only[Oi,It,Iy]
def La(j13:Bool->Int->Option Int)(j12:LB->LB->Int->Int->Int->Int->Int->Int->Bool->Int->LI->LB->Option Int)(j25:Bool->Int->Option Int)(j23:LB->LB->Int->Int->Int->Int->Int->Int->Bool->Int->LI->LB->Option Int)(j24:LB->LB->Int->Int->Int->Int->Int->Int->Bool->Int->LI->LB->Int->Option Int)(j28:Bool->Int->Option Int)(j26:Int->LB->LB->Int->Int->Int->Int->Int->Int->Bool->Int->LX->LI->LI->LB->Option Int)(j22:Bool->Option Int)(j21:Option Int)(al am:LB)(an ao ap aq ar:Int)(au:LI)(ad:Int)(ae:LB)(aa:Bool)(w:Int):Option Int:=
if(Gc (Aa al) 64)then
some 8
else
if((geq w 0)&&(!aa))then
(Cs al am an ao ap aq ar au ad ae aa w).bind λ(g,a,h,p,m,u,v,f,b,k,n,o)=>
(Vi al am an ao ap aq ar au ad ae aa w).bind λbn=>
if bn then
if(geq h 0)then
(Fl a).bind λ(ah,av)=>
if(geq av 24)then
j13 true 0
else
if(Bm av 0)then
(Af av).bind λ(bp,bq)=>
j13 bp bq
else
(Bu a ah (Aa a)).bind λbr=>
(Lo br).bind λaj=>
if aj then
j13 true 0
else
(Bu a ah (Aa a)).bind λbs=>
(Km bs).bind λ(ay,az,ab,ba,af,aw)=>
if(geq aw 24)then
j13 true 0
else
if(Bm aw 0)then
(Af aw).bind λ(bt,bu)=>
j13 bt bu
else
both (
(Bu a (Ac ah 22) (Aa a)).bind λax=>
(λfb:Option Int=>
bo (
fb)) (
j12 g ax ay az ab ba af b n o f k)) [
(Bu a (Ac ah 22) (Aa a)).bind λax=>
j12 g ax ay az ab ba af b n o f k]
else
if(geq (Aa f) 0)then
if(geq h 2)then
if(Cn (Aa a) 8)then
j25 true 0
else
j23 g a h p m u v b n o f k
else
j24 g a h p m u v b n o f k 0
else
if(Cn b (Aa f))then
(Ag f b).bind λ_=>
(Ag f b).bind λy=>
if(Cn (Aa a) y)then
j28 true 0
else
(Kr g).bind λ(bc,ai)=>
if(Bm ai 0)then
(Af ai).bind λ(bv,bw)=>
j28 bv bw
else
(Ep h p m u v).bind λ(ag,bx)=>
if((Bm bx 0)||(Ja b (Aa ag)))then
(Af 8).bind λ(bz,da)=>
j28 bz da
else
j26 y g a h p m u v b n o bc ag f k
else
if(Gc (Aa a) 4000)then
(Af 38).bind λ(db,bd)=>
j22 ((db==true)&&((geq bd 0)&&true))
else
j21
else
j22 false
else
if((geq (Aa am) 0)&&(geq (Aa au) 0))then
if((((geq an 0)&&((geq ao 0)&&((geq ap 0)&&((geq aq 0)&&((geq ar 0)&&true)))))&&(geq ad 0))&&(fM (Aa ae) 12000))then
if(geq w 0)then
j22 true
else
if(!aa)then
(Ji w).bind λdc=>
j22 dc
else
j22 false
else
j22 false
else
if((false&&(geq ad 0))&&(fM (Aa ae) 12000))then
if(geq w 0)then
j22 true
else
if(!aa)then
(Ji w).bind λdd=>
j22 dd
else
j22 false
else
j22 false
theorem AR: @La= @Mi:=by
  unfold La Mi
  try simp only[Oi,It,Iy]
  all_goals
    repeat (refine funext λ_=>?_)
    repeat' first
      |with_reducible rfl
      |with_reducible refine Da ?_ ?_
      |with_reducible refine Cy ?_ ?_ ?_
      |with_reducible refine Db ?_ ?_ ?_ ?_
      |((with_reducible refine En ?_ ?_);focus (intro h;first|(subst h;rfl)|(simp only[h];rfl)|(simp[Bb,Aa,h];done)))
      |with_reducible refine Ek λx=>?_
      |with_reducible refine Gv (λ_=>?_) (λ_=>?_)
      |(refine Bt (λh=>by simp only[h,Em,Bk,Bh,ite_self]) (λx h=>?_);(try simp only[h,Bk]))
      |(refine Ck (λh=>?_) (λh=>?_)<;>simp only[h,if_true,if_false,Bool.false_eq_true])
abbrev R_:=Int
def H:=hd_ [.agg [Ss,Sb,.agg [Si,Si,Si,Si,Si],Sl,Si,Sb,Sz,Si]] [Si] (.q (.q (.q (.cut [3] [] (.q (.cond (.q (.keep [3,21,22,23,24,25] false)) .d)) .d)))) [F45.k,F49.k,F50.k,F80.k,F81.k,F96.k,⟨(98,Jr),Qs⟩,F99.k,F100.k,F101.k,F127.k,F128.k,F150.k,F151.k,F152.k] f15 false [(44,(.q (.cut [2] [] (.blk (.q (.cond (.cut [2] [] (.keep [2,11] true) .d) (.q (.cond (.cut [2] [] (.keep [2,20] true) .d) (.q (.cond (.cut [2] [] (.keep [2,33] true) .d) .d))))))) .d))),(93,(.q (.q (.q (.q (.q (.cut [0,2,5] [] (.mode false) .d))))))),(94,(.q (.q (.cut [0,2,3] [⟨0,[1],.ro (.int .u8)⟩] (.q (.cond (.q (.cut [0,2,3] [⟨0,[1],.ro (.int .u8)⟩,⟨9,[1],.ro (.int .u8)⟩,⟨10,[1],.ro (.int .u8)⟩,⟨15,[1],.ro (.int .u8)⟩,⟨16,[1],.ro (.int .u8)⟩,⟨18,[],.ro (.int .u8)⟩] .d (.cut [0,2,3,4,5] [] .d .d))) .d)) .d)))),(95,(.q (.q (.q (.q (.q (.q (.cut [0,2,3,4,6] [⟨0,[1],.ro (.int .u8)⟩,⟨9,[1],.ro (.int .u8)⟩,⟨10,[1],.ro (.int .u8)⟩,⟨13,[1],.ro (.int .u8)⟩,⟨14,[1],.ro (.int .u8)⟩,⟨19,[1],.ro (.int .u8)⟩,⟨20,[1],.ro (.int .u8)⟩,⟨22,[],.ro (.int .u8)⟩,⟨28,[1],.ro (.int .u8)⟩,⟨29,[1],.ro (.int .u8)⟩,⟨40,[1],.ro (.int .u8)⟩,⟨41,[1],.ro (.int .u8)⟩] .d (.cut [0,2,3,5,7] [] .d (.q (.q (.q (.q (.seq (.mode false) .d))))))))))))))]
def x27(y ac:Int)(g a:LB)(h p m u v b:Int)(n:Bool)(o:Int)(ak:LX)(f:LI)(k:LB):Option R_:=H.e P_ [r,r,r,l,r,l,r,(dcall 3 44 3 #[true,true,true,true,true,true,true,true] #[true,true,true,true,true,false,false,false]),r,l,d,r,r,r,r,r,l,l,(call 1 95),r,r,r,r,r,r,r,r] ⟨[(0,.ptr 0 []),(2,.ptr 1 []),(3,vi y),(5,vi ac),(7,.own 2)],[.box 28 (.agg [vs g,vb a,.agg [vi h,vi p,vi m,vi u,vi v],.own 4,vi b,.own 5,vt n,vi o]),.box 96 (.agg [vt false,vi 0]),Aw 21 ak,.box 96 (.agg [vt false,vi 0]),Ai 3 f,Ab 5 k],[[(2,.ptr 3 [])],[(3,vt false),(21,.cst (.bool true)),(23,.agg [vt true,vi 0])]]⟩
theorem e27:x27=Sk:=Eq.trans (b:=Jt Hp) A4 (by rw[Xu];rfl)
def k:KC_:=kk_ 15 H (iE Hk) func15 (λx=>Eq.trans (b:=iE (La Lc Rs Ht Rr Lp Hp (Sc x27) Eg Sd) x) A4 (by rw[AR];simp only[e27]<;>rfl))
end F15
namespace F43
def Li(f g:LB)(h k m n o:Int)(p:LI)(u:Int)(v:LB)(b:Bool)(a:Int):Option (LB×LB×Int×Int×Int×Int×Int×LI×Int×LB×Bool×Int×Int):=
(Hk f g h k m n o p u v b a).bind λw=>
if(Bm w 0)then
some (([]:LB),([]:LB),0,0,0,0,0,([]:LI),0,([]:LB),false,0,w)
else
if(Bm a 0)then
(λbl:Option (LB×LB×Int×Int×Int×Int×Int×LI×Int×LB×Bool×Int×Int)=>
both (
both (
(Cs f g h k m n o p u v b a).bind λ(y,aa,ab,ac,ad,ae,af,ag,ah,ai,aj,ak)=>
(λbm:Option (LB×LB×Int×Int×Int×Int×Int×LI×Int×LB×Bool×Int×Int)=>
bo (
bm)) (
some (y,aa,ab,ac,ad,ae,af,ag,ah,ai,aj,ak,a))) [
bl]) [
bl]) (
(Cs f g h k m n o p u v b a).bind λ(y,aa,ab,ac,ad,ae,af,ag,ah,ai,aj,ak)=>
some (y,aa,ab,ac,ad,ae,af,ag,ah,ai,aj,ak,a))
else
if b then
(Cs f g h k m n o p u v b a).bind λ(al,am,an,ao,ap,aq,ar,au,av,aw,ax,ay)=>
some (al,am,an,ao,ap,aq,ar,au,av,aw,ax,ay,36)
else
(Cs f g h k m n o p u v b a).bind λ(az,ba,bb,bc,bd,be,bf,bg,bh,bi,bj,bk)=>
some (az,ba,bb,bc,bd,be,bf,bg,bh,bi,bj,bk,0)
theorem AA: @Li= @Jo:=by
  unfold Li Jo
  try simp only[Oi,It,Iy]
  all_goals
    repeat (refine funext λ_=>?_)
    repeat' first
      |with_reducible rfl
      |with_reducible refine Da ?_ ?_
      |with_reducible refine Cy ?_ ?_ ?_
      |with_reducible refine Db ?_ ?_ ?_ ?_
      |((with_reducible refine En ?_ ?_);focus (intro h;first|(subst h;rfl)|(simp only[h];rfl)|(simp[Bb,Aa,h];done)))
      |with_reducible refine Ek λx=>?_
      |with_reducible refine Gv (λ_=>?_) (λ_=>?_)
      |(refine Bt (λh=>by simp only[h,Em,Bk,Bh,ite_self]) (λx h=>?_);(try simp only[h,Bk]))
      |(refine Ck (λh=>?_) (λh=>?_)<;>simp only[h,if_true,if_false,Bool.false_eq_true])
def H:=hd_ [.agg [Ss,Sb,.agg [Si,Si,Si,Si,Si],Sl,Si,Sb,Sz,Si]] [.agg [Ss,Ob 5,.agg [Si,Si,Si,Si,Si],Ol 3,Si,Ob 5,Sz,Si],Si] (.q (.q (.seq (.blk (.q (.cond (.seq (.mode false) .d) .d))) .d))) [F15.k,F45.k] f43
def k:KC_:=kk_ 43 H (iE Jo) func43 (λx=>Eq.trans (b:=iE Li x) A4 (by simp only[AA]<;>rfl))
end F43
namespace F46
def H:=hd_ [.agg [Ss,Sb,.agg [Si,Si,Si,Si,Si],Sl,Si,Sb,Sz,Si],Si] [.agg [Ss,Ob 5,.agg [Si,Si,Si,Si,Si],Ol 3,Si,Sb,Sz,Si],Si] .d [] f46
def k:KC_:=kk_ 46 H (rF Wf) func46
end F46
namespace F12
def Lq(j78:Int->Int->Int->Int->Int->LI->Bool->Int->LB->Int->LB->Option (LB×LB×Int×Int×Int×Int×Int×LI×Int×LB×Bool×Int×Int))(a:LB)(b:Bool)(f w ab:Int)(g:LB)(m o n p u h:Int)(am:LX)(k:LI)(v:LB):Option (LB×LB×Int×Int×Int×Int×Int×LI×Int×LB×Bool×Int×Int):=
if(Bm ab 0)then
(Af ab).bind λ(br,bs)=>
j78 m o n p u k br bs g h v
else
(Nk n am).bind λ(bt,af)=>
if(Bm af 0)then
(Af af).bind λ(bu,bv)=>
j78 m o n p u k bu bv g h v
else
(Bb v bt).bind λbw=>
(λhb:Option (LB×LB×Int×Int×Int×Int×Int×LI×Int×LB×Bool×Int×Int)=>
bo (
hb)) (
(Bu g w (Aa g)).bind λbx=>
j78 m o n p u k false 0 bx (Ac h 1) bw)
theorem Yp: @Lq= @Mf:=by
  unfold Lq Mf;simp only[Oi,It,Iy]
def Kz(j62:Int->LI->LB->Bool->Int->LB->Int->Int->Int->Int->Int->Option (LB×LB×Int×Int×Int×Int×Int×LI×Int×LB×Bool×Int×Int))(j61:LB->Int->Int->Int->Int->Int->Int->LI->LB->Option (LB×LB×Int×Int×Int×Int×Int×LI×Int×LB×Bool×Int×Int))(j75:Int->Int->Int->Int->Int->Int->LB->Bool->Int->LB->LI->Option (LB×LB×Int×Int×Int×Int×Int×LI×Int×LB×Bool×Int×Int))(j73:LB->Int->Int->Int->Int->Int->Int->LI->LB->Option (LB×LB×Int×Int×Int×Int×Int×LI×Int×LB×Bool×Int×Int))(j74:LB->Int->Int->Int->Int->Int->Int->LI->LB->Int->Option (LB×LB×Int×Int×Int×Int×Int×LI×Int×LB×Bool×Int×Int))(j78:Int->Int->Int->Int->Int->LI->Bool->Int->LB->Int->LB->Option (LB×LB×Int×Int×Int×Int×Int×LI×Int×LB×Bool×Int×Int))(j76:Int->LB->Int->Int->Int->Int->Int->Int->LX->LI->LI->LB->Option (LB×LB×Int×Int×Int×Int×Int×LI×Int×LB×Bool×Int×Int))(j71:LB->Int->Int->Int->Int->Int->Int->Bool->Int->LI->LB->Option (LB×LB×Int×Int×Int×Int×Int×LI×Int×LB×Bool×Int×Int))(j70:LB->Int->Int->Int->Int->Int->Int->LI->LB->Option (LB×LB×Int×Int×Int×Int×Int×LI×Int×LB×Bool×Int×Int))(a:LB)(b:Bool)(f:Int)(g:LB)(m o n p u h:Int)(k:LI)(v:LB):Option (LB×LB×Int×Int×Int×Int×Int×LI×Int×LB×Bool×Int×Int):=
if(geq m 0)then
(Fl g).bind λ(ad,an)=>
if(geq an 24)then
j62 h k v true 0 g m o n p u
else
if(Bm an 0)then
(Af an).bind λ(bz,da)=>
j62 h k v bz da g m o n p u
else
(Bu g ad (Aa g)).bind λdb=>
(Lo db).bind λal=>
if al then
j62 h k v true 0 g m o n p u
else
(Bu g ad (Aa g)).bind λdc=>
(Km dc).bind λ(ah,ai,y,aj,aa,ao)=>
if(geq ao 24)then
j62 h k v true 0 g m o n p u
else
if(Bm ao 0)then
(Af ao).bind λ(dd,de)=>
j62 h k v dd de g m o n p u
else
both (
(Bu g (Ac ad 22) (Aa g)).bind λag=>
bo (
j61 ag ah ai y aj aa h k v)) [
(Bu g (Ac ad 22) (Aa g)).bind λag=>
j61 ag ah ai y aj aa h k v]
else
if(geq (Aa k) 0)then
if(geq m 2)then
if(Cn (Aa g) 8)then
j75 m o n p u h v true 0 g k
else
j73 g m o n p u h k v
else
j74 g m o n p u h k v 0
else
if(Cn h (Aa k))then
(Ag k h).bind λ_=>
(Ag k h).bind λw=>
if(Cn (Aa g) w)then
j78 m o n p u k true 0 g h v
else
(Kr a).bind λ(aq,ak)=>
if(Bm ak 0)then
(Af ak).bind λ(df,dg)=>
j78 m o n p u k df dg g h v
else
(Ep m o n p u).bind λ(ac,dh)=>
if((Bm dh 0)||(Ja h (Aa ac)))then
(Af 8).bind λ(di,ap)=>
j78 m o n p u k di ap g h v
else
j76 w g m o n p u h aq ac k v
else
if(Gc (Aa g) 4000)then
(Af 38).bind λ(dj,ae)=>
j71 g m o n p u h dj ae k v
else
j70 g m o n p u h k v
theorem AI: @Kz= @Lw:=by
  unfold Kz Lw
  repeat (refine funext λ_=>?_)
  repeat' first
    |with_reducible rfl
    |with_reducible refine Da ?_ ?_
    |with_reducible refine Cy ?_ ?_ ?_
    |with_reducible refine Db ?_ ?_ ?_ ?_
    |((with_reducible refine En ?_ ?_);focus (intro h;first|(subst h;rfl)|(simp only[h];rfl)|(simp[Bb,Aa,h];done)))
    |with_reducible refine Ek λx=>?_
    |with_reducible refine Gv (λ_=>?_) (λ_=>?_)
    |(refine Bt (λh=>by simp only[h,Em,Bk,Bh,ite_self]) (λx h=>?_);(try simp only[h,Bk]))
    |(refine Ck (λh=>?_) (λh=>?_)<;>simp only[h,if_true,if_false,Bool.false_eq_true])
abbrev R_:=(LB×LB×Int×Int×Int×Int×Int×LI×Int×LB×Bool×Int×Int)
abbrev K_:=S->Option R_
def H:=hd_ [.agg [Ss,Sb,.agg [Si,Si,Si,Si,Si],Sl,Si,Sb,Sz,Si],Sb] [.agg [Ss,Ob 5,.agg [Si,Si,Si,Si,Si],Ol 3,Si,Sb,Sz,Si],Si] (.q (.q (.q (.q (.blk (.loop [2,4] [⟨2,[1],.ro (.int .u8)⟩] (.blk (.cut [2,4,7] [] (.keep [2,4,7,22] true) .d)))))))) [F43.k,F45.k,F46.k,F80.k,F81.k,F96.k,⟨(98,Jr),Qs⟩,F99.k,F100.k,F101.k,F127.k,F128.k,F150.k,F151.k,F152.k] f12 false [(44,(.q (.cut [2] [] (.blk (.q (.cond (.cut [2] [] (.keep [2,11] true) .d) (.q (.cond (.cut [2] [] (.keep [2,20] true) .d) (.q (.cond (.cut [2] [] (.keep [2,33] true) .d) .d))))))) .d))),(93,(.q (.q (.q (.q (.q (.cut [0,2,5] [] (.mode false) .d))))))),(94,(.q (.q (.cut [0,2,3] [] (.q (.cond (.q (.cut [0,2,3] [⟨0,[1],.ro (.int .u8)⟩,⟨9,[1],.ro (.int .u8)⟩,⟨10,[1],.ro (.int .u8)⟩,⟨15,[1],.ro (.int .u8)⟩,⟨16,[1],.ro (.int .u8)⟩,⟨18,[],.ro (.int .u8)⟩] .d (.cut [0,2,3,4,5] [] .d .d))) .d)) .d)))),(95,(.q (.q (.q (.q (.q (.q (.cut [0,2,3,4,6] [⟨0,[1],.ro (.int .u8)⟩,⟨9,[1],.ro (.int .u8)⟩,⟨10,[1],.ro (.int .u8)⟩,⟨13,[1],.ro (.int .u8)⟩,⟨14,[1],.ro (.int .u8)⟩,⟨19,[1],.ro (.int .u8)⟩,⟨20,[1],.ro (.int .u8)⟩,⟨22,[],.ro (.int .u8)⟩,⟨28,[1],.ro (.int .u8)⟩,⟨29,[1],.ro (.int .u8)⟩,⟨40,[1],.ro (.int .u8)⟩,⟨41,[1],.ro (.int .u8)⟩] .d (.cut [0,2,3,5,7] [] .d (.q (.q (.q (.q (.seq (.mode false) .d))))))))))))))]
def t37(a:LB)(b:Bool)(f:Int)(g:LB)(m o n p u h:Int)(k:LI)(v:LB):S:=⟨[(2,.ptr 0 []),(4,.ptr 1 [])],[.box 28 (.agg [vs a,vb g,.agg [vi m,vi o,vi n,vi p,vi u],.own 2,vi h,.own 3,vt b,vi f]),.box 28 (.agg [vs ([]:LB),.nils,.agg [vi 0,vi 0,vi 0,vi 0,vi 0],.nils,vi 0,.nils,vt false,vi 0]),Ai 3 k,Ab 5 v],[]⟩
def z37:ZT_ R_:=H.i P_ [r,r,r,r,d]
def x75(FC:K_)(a:LB)(b:Bool)(f m o n p u h:Int)(v:LB)(bf:Bool)(bg:Int)(bh:LB)(bi:LI):Option R_:=H.e P_ [r,r,r,r,d,(lp FC),d,l,(call 0 44),r,l,d,r,r,r,l,r] ⟨[(2,.ptr 0 [])],[.box 96 (.agg [vt bf,vi bg]),.box 28 (.agg [vs a,vb bh,.agg [vi m,vi o,vi n,vi p,vi u],.own 3,vi h,.own 4,vt b,vi f]),.box 28 (.agg [vs ([]:LB),.nils,.agg [vi 0,vi 0,vi 0,vi 0,vi 0],.nils,vi 0,.nils,vt false,vi 0]),Ai 3 bi,Ab 5 v],[[(2,.ptr 1 []),(4,.ptr 2 [])]]⟩
def x78(FC:K_)(a:LB)(b:Bool)(f m o n p u:Int)(k:LI)(bl:Bool)(bm:Int)(bn:LB)(bp:Int)(bq:LB):Option R_:=H.e P_ [r,r,r,r,d,(lp FC),d,l,(call 0 44),r,l,d,r,r,r,r,r,l,r] ⟨[(2,.ptr 0 [])],[.box 96 (.agg [vt bl,vi bm]),.box 28 (.agg [vs a,vb bn,.agg [vi m,vi o,vi n,vi p,vi u],.own 3,vi bp,.own 4,vt b,vi f]),.box 28 (.agg [vs ([]:LB),.nils,.agg [vi 0,vi 0,vi 0,vi 0,vi 0],.nils,vi 0,.nils,vt false,vi 0]),Ai 3 k,Ab 5 bq],[[(2,.ptr 1 []),(4,.ptr 2 [])]]⟩
def x77(FC:K_)(a:LB)(b:Bool)(f w ab:Int)(g:LB)(m o n p u h:Int)(am:LX)(k:LI)(v:LB):Option R_:=H.e P_ [r,r,r,r,d,(lp FC),d,l,(call 0 44),r,l,d,r,r,r,r,r,l,l,(call 1 95),r,r,r,r,r,r,r,r] ⟨[(0,.ptr 0 []),(2,.ptr 1 []),(3,vi w),(5,vi ab),(7,.own 2)],[.box 28 (.agg [vs a,vb g,.agg [vi m,vi o,vi n,vi p,vi u],.own 5,vi h,.own 6,vt b,vi f]),.box 96 (.agg [vt false,vi 0]),Aw 21 am,.box 96 (.agg [vt false,vi 0]),.box 28 (.agg [vs ([]:LB),.nils,.agg [vi 0,vi 0,vi 0,vi 0,vi 0],.nils,vi 0,.nils,vt false,vi 0]),Ai 3 k,Ab 5 v],[[(2,.ptr 3 [])],[(2,.ptr 0 []),(4,.ptr 4 [])]]⟩
theorem e75(FC:K_)(a:LB)(b:Bool)(f:Int):x75 FC a b f=Ii (λg m o n p u h k v=>FC (t37 a b f g m o n p u h k v)) a b f:=A4
theorem e78(FC:K_)(a:LB)(b:Bool)(f:Int):x78 FC a b f=Mh (λg m o n p u h k v=>FC (t37 a b f g m o n p u h k v)) a b f:=A4
theorem e77(FC:K_)(a:LB)(b:Bool)(f:Int):x77 FC a b f=Ud (λg m o n p u h k v=>FC (t37 a b f g m o n p u h k v)) a b f:=Eq.trans (b:=Lq (x78 FC a b f) a b f) A4 (by rw[Yp];simp only[e78]<;>rfl)
theorem i37(a:LB)(b:Bool)(f:Int):∀(q:Nat) (g:LB) (m o n p u h:Int) (k:LI) (v:LB),z37 q (t37 a b f g m o n p u h k v)=Br a b f q g m o n p u h k v:=
 ind (λ_ _ _ _ _ _ _ _ _=>by kernel_rfl) λq ih g m o n p u h k v=>Eq.trans (b:=Kz (Mj (λg m o n p u h k v=>(z37 q) (t37 a b f g m o n p u h k v)) a b f) (Tv (λg m o n p u h k v=>(z37 q) (t37 a b f g m o n p u h k v)) a b f) (x75 (z37 q) a b f) (Tx (Un (x75 (z37 q) a b f) (Mm (x75 (z37 q) a b f) a b f) a b f) a b f) (Mm (x75 (z37 q) a b f) a b f) (x78 (z37 q) a b f) (Tw (x77 (z37 q) a b f) a b f) (Ev (λg m o n p u h k v=>(z37 q) (t37 a b f g m o n p u h k v)) a b f) (Uj (λg m o n p u h k v=>(z37 q) (t37 a b f g m o n p u h k v)) a b f) a b f g m o n p u h k v) A4 (by rw[AI];simp only[e75,e78,e77,ih]<;>rfl)
def k:KC_:=kk_ 12 H (rF Ad) func12 (λx=>Eq.trans (b:=rF (Xh (λa b f g m o n p u h k v=>z37 Bo (t37 a b f g m o n p u h k v))) x) A4 (by simp only[i37,Ao]<;>rfl))
end F12
namespace F9
def H:=hd_ [Sb] [.agg [Ss,Ob 5,.agg [Si,Si,Si,Si,Si],Ol 3,Si,Sb,Sz,Si],Sz] .d [F6.k,F12.k] f9
def k:KC_:=kk_ 9 H Bq func9
end F9
namespace F137
abbrev R_:=(Int×Int)
def H:=hd_ [Sb] [Si,Si] (.q (.q (.cut [0,4] [] .d .d))) [F76.k,F165.k,F177.k,F178.k] f137
def k:KC_:=kk_ 137 H YI func137
end F137
namespace F82
abbrev R_:=(Int×Int)
abbrev K_:=S->Option R_
def H:=hd_ [Sb] [Si,Si] (.q (.q (.q (.q (.cut [5] [] (.blk (.loop [1,4,5] [] (.q (.cut [1,4,5] [] (.blk (.cut [1,4,5,6] [] (.keep [1,4,5,6,16,17] true) .d)) .d)))) .d))))) [F137.k] f82 false [(136,.d)]
def t8(a:Int)(b:LB):S:=⟨[(1,.ptr 0 []),(4,.fn 136 [.ptr 0 []]),(5,vi a)],[.box 22 (vb b)],[]⟩
def z8:ZT_ R_:=H.i P_ [r,r,r,r,l,d]
theorem i8:∀(q:Nat) (a:Int) (b:LB),z8 q (t8 a b)=Np q a b:=
 ind (λ_ _=>by kernel_rfl) λq ih a b=>Eq.trans (b:=Xl (Uc (λa b=>(z8 q) (t8 a b))) Uq a b) A4 (by simp only[ih]<;>rfl)
def k:KC_:=kk_ 82 H GC func82 (λx=>Eq.trans (b:=Xf (λa b=>z8 Bo (t8 a b)) x) A4 (by simp only[i8,Ao]<;>rfl))
end F82
namespace F47
def H:=hd_ [.agg [Ss,Sb,.agg [Si,Si,Si,Si,Si],Sl,Si,Sb,Sz,Si]] [Si] .d [F82.k,⟨(98,Jr),Qs⟩,F99.k] f47
def k:KC_:=kk_ 47 H (iE Yl) func47
end F47
namespace F13
def H:=hd_ [.agg [Ss,Sb,.agg [Si,Si,Si,Si,Si],Sl,Si,Sb,Sz,Si]] [.agg [Ss,Ob 5,.agg [Si,Si,Si,Si,Si],Ol 3,Si,Sb,Sz,Si],Si] .d [F43.k,F46.k,F47.k] f13
def k:KC_:=kk_ 13 H (iE Ga) func13
end F13
namespace F14
def H:=hd_ [.agg [Ss,Sb,.agg [Si,Si,Si,Si,Si],Sl,Si,Sb,Sz,Si],Si] [.agg [Ss,Ob 5,.agg [Si,Si,Si,Si,Si],Ol 3,Si,Sb,Sz,Si],Ob 5,Si] .d [F15.k,F45.k,F48.k] f14
def k:KC_:=kk_ 14 H (rF Mo) func14
end F14
namespace F10
def H:=hd_ [.agg [Ss,Sb,.agg [Si,Si,Si,Si,Si],Sl,Si,Sb,Sz,Si]] [Sz] .d [F12.k,F13.k,F14.k,F15.k] f10
def k:KC_:=kk_ 10 H (iE Uu) func10
end F10
namespace F11
def H:=hd_ [Sb,Ss] [.agg [Ss,Ob 5,.agg [Si,Si,Si,Si,Si],Ol 3,Si,Sb,Sz,Si],Si] .d [F6.k,F12.k,F13.k] f11
def k:KC_:=kk_ 11 H (u2 Be) func11
end F11
namespace F16
def H:=hd_ [] [Sz] .d [F7.k,F9.k,F11.k] f16
def k:KC_:=kk_ 16 H (λ_=>Ez) func16
end F16
end
end Go.Proofs.YtaokmgopghpikaaGreatDoor
