/- A part of a proof (see the text that ends in Proof). No conditions. -/
import Derived.Test.YtmnpghdjdepelaaGreatDoorPyBB
import Derived.Test.YtmnpghdjdepelaaGreatDoorPyPA
import Derived.Test.YtmnpghdjdepelaaGreatDoorProg
import Derived.KernelRfl
import Derived.RangeFuncKeeps
import Derived.RangeFuncWrites
import Derived.Shelf.Abstract
import Derived.OwnWalkIn
import Derived.TacticsInMore
namespace Go
theorem A4{p:Prop}(h:p:=by kernel_rfl):p:=h
end Go
set_option linter.unusedVariables false
set_option linter.unusedSimpArgs false
namespace Go.Proofs.YtmnpghdjdepelaaGreatDoor
open Go.RowKit Go.Shelf Go Go.Rx Go.Lv Go.Pl
attribute [local go_sem] Oper.semAt_some
noncomputable def MI:Con:=⟨[.lf (.int .i64) none, .lf (.int .i64) none],[.lf (.list (.int .i64)) (some 3), .lf (.int .i64) none],λx=>Kt x.1 x.2⟩
noncomputable def Gg(gl:List (Nat×List Value)):Tab:=⟨[(174,MI)],gl,false,false⟩
noncomputable abbrev Kf{R:Type}(gl:List (Nat×List Value)):GD R:=Ka Tryz.prog (Gg gl) 8 []
noncomputable def iU:Code:=fB Tryz.f173
noncomputable def dU:Code:=cB iU
noncomputable def cF:Code:=cB dU
noncomputable def TY:Code:=cA (cA (cB cF))
noncomputable def dK:Code:=cB (cB TY)
noncomputable def VE:Code:=cA (cA dK)
noncomputable def PH:Code:=cB (cB VE)
noncomputable def bR:Code:=cA iU
noncomputable def cT:Code:=cA dU
noncomputable def bQ:Code:=cA cF
noncomputable def dJ:Code:=cA TY
noncomputable def bY:Code:=cA (cB TY)
noncomputable def bV:Code:=cB dK
noncomputable def dR:Code:=cA VE
noncomputable def cL:Code:=cA (cB VE)
noncomputable def dF:Code:=cB PH
noncomputable def VR:List Oper:=cO (cA (cA PH))
noncomputable def VP:Code:=cB (cA PH)
noncomputable def FA:List Oper:=VR.take 6
noncomputable def Ty:Oper:=qS VR 6
noncomputable def Zj:Oper:=qS VR 7
theorem eW:Tryz.f173.body=some (.seq bR (.seq cT (.seq bQ (.block 0 (.loop (.seq dJ (.seq bY (.seq (.block 1 (.seq dR (.seq cL (.seq (.seq (.region 6 (FA++Ty::[Zj]).toArray false) VP) dF)))) bV)))))))):=A4
theorem lZ:Tryz.f173.ntmps=43:=A4
theorem gS:Ty.guard=none:=A4
theorem iP:Ty.dst=some 39:=A4
theorem XJ:Ty.op= .call ⟨.value (.tmp 33), #[.tmp 38], #[35]⟩:=A4
abbrev Dh(a f h:Int)(b:LX):PV:= .agg [vi a,vi f,vi h,vw b]
abbrev Mx(y:Value)(v:PV)(ls:LI)(i x:Int):Slots:=[(0, .cst y),(1, .rptr v),(5,vi x),(21,vl ls),(22,vi (Ac ls)),(23,vi i)]
abbrev Ra(lv:List Nat):K (Nat×S):=kC lv []
abbrev Ce(l:Nat):Value:= .func (.yield l) #[] #[]
theorem kD(gl:List (Nat×List Value))(l:Nat)(a f h:Int)(b:LX):ex Tryz.prog (Gg gl) (Kf gl) 43 bR .d (kC [0,1,3] [⟨3,[], .ro (.int .i64)⟩]) ⟨[(0, .cst (Ce l)),(1, .rptr (Dh a f h b))],[],[]⟩=
    Option.bind (Ds (Bk a 0)) λ_=>Option.bind (Kt h (Gs (Ac b) a)) λp=>some (0,⟨[(0, .cst (Ce l)),(1, .rptr (Dh a f h b)),(3,vl p.1)],[],[]⟩):=A4
theorem lC(gl:List (Nat×List Value))(l:Nat)(v:PV)(ls:LI):ex Tryz.prog (Gg gl) (Kf gl) 43 cT .d (Ra [0,1,3,5]) ⟨[(0, .cst (Ce l)),(1, .rptr v),(3,vl ls)],[],[]⟩=some (0,⟨[(0, .cst (Ce l)),(1, .rptr (QL [] v)),(3,vl ls),(5,vi 0)],[],[]⟩):=A4
theorem lN(gl:List (Nat×List Value))(l:Nat)(a f h:Int)(b:LX)(ls:LI):ex Tryz.prog (Gg gl) (Kf gl) 43 bQ .d (Ra [0,1,5,21,22,23]) ⟨[(0, .cst (Ce l)),(1, .rptr (Dh a f h b)),(3,vl ls),(5,vi 0)],[],[]⟩=
    some (0,⟨Mx (Ce l) (Dh a f h b) ls 0 0,[],[]⟩):=A4
theorem jZ(gl:List (Nat×List Value))(l:Nat)(a f h:Int)(b:LX)(ls:LI)(i x:Int):ex Tryz.prog (Gg gl) (Kf gl) 43 dJ .d (Ra [0,1,5,21,22,23,24]) ⟨Mx (Ce l) (Dh a f h b) ls i x,[],[]⟩=
    some (0,⟨Mx (Ce l) (Dh a f h b) ls i x++[(24,vt (Cl i (Ac ls)))],[],[]⟩):=A4
theorem cZ(gl:List (Nat×List Value))(l:Nat)(a f h:Int)(b:LX)(ls:LI)(i x:Int)(t:Bool):ex Tryz.prog (Gg gl) (Kf gl) 43 bY .d (Ra [0,1,5,21,22,23]) ⟨Mx (Ce l) (Dh a f h b) ls i x++[(24,vt t)],[],[]⟩=
    if t=true then some (0,⟨Mx (Ce l) (Dh a f h b) ls i x,[],[]⟩)else some (2,⟨Mx (Ce l) (Dh a f h b) ls i x,[],[]⟩):=A4
theorem kV(gl:List (Nat×List Value))(l:Nat)(a f h:Int)(b:LX)(ls:LI)(i x:Int):ex Tryz.prog (Gg gl) (Kf gl) 43 dR .d (Ra [0,1,5,7,21,22,23]) ⟨Mx (Ce l) (Dh a f h b) ls i x,[],[]⟩=
    Option.bind (Ah ls i) λn=>some (0,⟨[(0, .cst (Ce l)),(1, .rptr (Dh a f h b)),(5,vi x),(7,vi n),(21,vl ls),(22,vi (Ac ls)),(23,vi i)],[],[]⟩):=A4
theorem lQ(gl:List (Nat×List Value))(l:Nat)(a f h:Int)(b:LX)(ls:LI)(i x n:Int):ex Tryz.prog (Gg gl) (Kf gl) 43 cL .d (Ra [0,1,5,8,21,22,23]) ⟨[(0, .cst (Ce l)),(1, .rptr (Dh a f h b)),(5,vi x),(7,vi n),(21,vl ls),(22,vi (Ac ls)),(23,vi i)],[],[]⟩=
    some (0,⟨[(0, .cst (Ce l)),(1, .rptr (Dh a f h b)),(5,vi x),(8,vi (Aa x (Dm n a))),(21,vl ls),(22,vi (Ac ls)),(23,vi i)],[],[]⟩):=A4
abbrev dQ(y:Value)(v:PV)(ls:LI)(i x z:Int)(p:LX):Slots:=[(0, .cst y),(1, .rptr v),(5,vi x),(8,vi z),(21,vl ls),(22,vi (Ac ls)),(23,vi i),(33, .cst y),(38,vw p)]
theorem lV(gl:List (Nat×List Value))(l:Nat)(a f h:Int)(b:LX)(ls:LI)(i x z:Int):DZ Tryz.prog (Gg gl) (Kf gl) 43 (FA++Ty::[Zj]).toArray FA ⟨[(0, .cst (Ce l)),(1, .rptr (Dh a f h b)),(5,vi x),(8,vi z),(21,vl ls),(22,vi (Ac ls)),(23,vi i)],[],[]⟩ (jW [0,1,5,8,21,22,23,33,38] [] 0)=
    Option.bind (Ee b x z) λp=>some (0,⟨dQ (Ce l) (Dh a f h b) ls i x z p,[],[]⟩):=A4
theorem lR(gl:List (Nat×List Value))(l:Nat)(a f h:Int)(b:LX)(ls:LI)(i x z:Int)(p:LX)(t:Bool):DZ Tryz.prog (Gg gl) (Kf gl) 43 (FA++Ty::[Zj]).toArray [Zj] ⟨eM (dQ (Ce l) (Dh a f h b) ls i x z p) 39 (vt t),[],[]⟩ (jW [0,1,5,8,21,22,23,40] [] 0)=
    some (0,⟨[(0, .cst (Ce l)),(1, .rptr (Dh a f h b)),(5,vi x),(8,vi z),(21,vl ls),(22,vi (Ac ls)),(23,vi i),(40,vt (!t))],[],[]⟩):=A4
theorem kM(gl:List (Nat×List Value))(l:Nat)(a f h:Int)(b:LX)(ls:LI)(i x z:Int)(t:Bool):ex Tryz.prog (Gg gl) (Kf gl) 43 VP .d (Ra [0,1,5,8,21,22,23]) ⟨[(0, .cst (Ce l)),(1, .rptr (Dh a f h b)),(5,vi x),(8,vi z),(21,vl ls),(22,vi (Ac ls)),(23,vi i),(40,vt t)],[],[]⟩=
    if t=true then some (1,⟨[(0, .cst (Ce l)),(1, .rptr (Dh a f h b)),(5,vi x),(8,vi z),(21,vl ls),(22,vi (Ac ls)),(23,vi i)],[],[]⟩)else some (0,⟨[(0, .cst (Ce l)),(1, .rptr (Dh a f h b)),(5,vi x),(8,vi z),(21,vl ls),(22,vi (Ac ls)),(23,vi i)],[],[]⟩):=A4
theorem kH(gl:List (Nat×List Value))(l:Nat)(a f h:Int)(b:LX)(ls:LI)(i x z:Int):ex Tryz.prog (Gg gl) (Kf gl) 43 dF .d (Ra [0,1,5,21,22,23]) ⟨[(0, .cst (Ce l)),(1, .rptr (Dh a f h b)),(5,vi x),(8,vi z),(21,vl ls),(22,vi (Ac ls)),(23,vi i)],[],[]⟩=
    some (0,⟨Mx (Ce l) (Dh a f h b) ls i z,[],[]⟩):=A4
theorem mD(gl:List (Nat×List Value))(l:Nat)(a f h:Int)(b:LX)(ls:LI)(i x:Int):ex Tryz.prog (Gg gl) (Kf gl) 43 bV .d (Ra [0,1,5,21,22,23]) ⟨Mx (Ce l) (Dh a f h b) ls i x,[],[]⟩=
    some (0,⟨Mx (Ce l) (Dh a f h b) ls (Aa i 1) x,[],[]⟩):=A4
theorem iJ:DZ Tryz.prog ⟨[],[],false,false⟩ (Ka Tryz.prog ⟨[],[],false,false⟩ 8 []) 43 (FA++Ty::[Zj]).toArray [Zj] ⟨[(39,vt false)],[],[]⟩ (jW [40] [] 0)=some (0,⟨[(40,vt true)],[],[]⟩):=A4
theorem gP:ex Tryz.prog ⟨[],[],false,false⟩ (Ka Tryz.prog ⟨[],[],false,false⟩ 8 []) 43 VP .d (Ra []) ⟨[(40,vt true)],[],[]⟩=some (1,⟨[],[],[]⟩):=A4
theorem gM{i:Nat}(h:i<17179869184):Aa (i:Int) 1=((i+1:Nat):Int):=by
  rw[show Aa (i:Int) 1=Go.Lv.wrap64 ((i:Int)+1)from rfl,Go.Lv.GZ A7 A7];omega
def OY:PV->Option (List LX)
  | .agg [.val (.int .i64) a, .val (.int .i64) _, .val (.int .i64) h, .val (.list (.int .i32)) b]=>Yj a h b
  |_=>none
theorem aO{v:PV}{xs:List LX}(h:OY v=some xs):∃a f r b,v=Dh a f r b/\Yj a r b=some xs:=by
  unfold OY at h;split at h
  · exact⟨_,_,_,_,rfl,h⟩
  · cases h
theorem Uy{a:Int}{b:LX}{n:Int}{l:LI}{x:Int}{ps:List LX}(h:Gt a b (n::l) x=some ps):∃p r,Ee b x (Aa x (Dm n a))=some p/\Gt a b l (Aa x (Dm n a))=some r/\ps=p::r:=by
  simp only[Gt]at h;obtain⟨p,h1,h⟩:=Go.Lv.bind_some h;obtain⟨r,h2,h⟩:=Go.Lv.bind_some h;cases h;exact⟨p,r,h1,h2,rfl⟩
theorem Yi{a:Int}{b:LX}:∀{l:LI} {x:Int} {ps:List LX},Gt a b l x=some ps->ps.length=l.length
  |[],x,ps,h=>by simp only[Gt,Option.some.injEq]at h;subst h;rfl
  |n::l,x,ps,h=>by
    obtain⟨p,r,_,h2,rfl⟩:=Uy h;simp[Yi h2]
theorem fM{gl:List (Nat×List Value)}(hC:ConOk Tryz.prog gl 174 MI)(hE:Ent Tryz.prog 173):ItOk Tryz.prog gl 173 ⟨37, .list (.int .i32),OY⟩:=by
  refine⟨hE,λm B w b v cells xs hB hb hcell henc hgl hF=>?_⟩;have hF:OY v=some xs:=hF;obtain⟨a,f,h,s,rfl,hF⟩:=aO hF;have hM:Tryz.prog.follows .mixedOrders=true:=A4
  have hT:Jt Tryz.prog (Gg gl):= .cons hC .nil;have hI:∀{R:Type},Ir (R:=R) Tryz.prog (Gg gl).gl (Kf gl):=EI hM hT ZV.nil 8;unfold Yj at hF;obtain⟨u0,hok,hF⟩:=Go.Lv.bind_some hF;obtain⟨p0,hall,hF⟩:=Go.Lv.bind_some hF;obtain⟨u1,hlim,hF⟩:=Go.Lv.bind_some hF;have hlim:p0.1.length<=17179869184:=by
    unfold Ds at hlim;split at hlim
    · rename_i h;have h':=of_decide_eq_true h;unfold Ac at h';omega
    · cases hlim
  have hlen:=Yi hF;intro l J Jx W hk hJ hJx hY h0;refine callsIn_of_wp_marks Tryz.func173 eW trivial ?_ rfl;have fP:∀i V X Y,J i V X->KeepN (λ_=>True) X Y->J i (grown V X Y) Y:=λi V X Y h k=>hJ i V X Y h k;have hbW:W.heap[b]? =some (.cells cells.toArray 37 (0,0)):=(hk.same b (hB b hb) trivial).trans hcell;have hm0:MemI gl B W ⟨[(0, .cst (Ce l)),(1, .rptr (Dh a f h s))],[],[]⟩ (AF [Ce l, .pointer (some ⟨b,0,none⟩)]):=by
    refine⟨λk hk'=>Nat.lt_of_lt_of_le (hB k hk') hk.gr.le,rfl,rfl,λp hp=>?_,hgl.keep (λ_ h=>h) (λk hk'=>hk.same k (hB k hk') trivial) hk.gr⟩;rcases List.mem_cons.1 hp with rfl|hp
    · exact(show _/\ _ from⟨rfl,rfl⟩)
    rcases List.mem_cons.1 hp with rfl|hp
    · exact⟨_,cells,rfl,⟨b,0,cells.toArray,_,_,rfl,hb,hbW,λi _=>by simp⟩,Aj.step (λ_ h=>h) (λk hk'=>hk.same k (hB k hk') trivial) (.refl []) henc⟩
    · cases hp
  have ha0:=NX (fn:=Tryz.f173) (vs:=[Ce l, .pointer (some ⟨b,0,none⟩)]) A4;have e0:(#[Value.func (.yield l) #[] #[]]++ #[Value.pointer (some ⟨b,0,none⟩)]:Array Value)=[Ce l, .pointer (some ⟨b,0,none⟩)].toArray:=by simp
  rw[e0]
  revert ha0
  generalize({tmps:=_,defers:=[]}:Act)=sZ;rw[lZ];intro ha0;refine CR hM hT hI (J:=J 0) (fP 0) .d [0,1,3] [⟨3,[], .ro (.int .i64)⟩] ((kD gl l a f h s).trans (by rw[hok,hall];rfl)) rfl hm0 h0 ha0 λσ1 V1 w1 a1 f1 j1 m1=>?_;refine CR hM hT hI (J:=J 0) (fP 0) .d [0,1,3,5] [] (lC gl l _ p0.1) rfl m1 j1 f1 λσ2 V2 w2 a2 f2 j2 m2=>?_;refine CR hM hT hI (J:=J 0) (fP 0) .d [0,1,5,21,22,23] [] (lN gl l a f h s p0.1) rfl m2 j2 f2 λσ3 V3 w3 a3 f3 j3 m3=>?_;have fin:∀{σ:Env} {a':Act} {w':World},Fits [] 43 a' σ-> ((∃V,J xs.length V w')\/Jx w')->LeavesInM (wr none) m Tryz.prog Tryz.f173 a'.tmps (λe W'=>(∃v,e= .returned v)/\ ((∃V,J xs.length V W')\/Jx W')) a'.defers .returning w':=by
    intro σ a' w' hf hh;rw[hf.defers];exact⟨_,Pg (rs:=[]) (vs:=[]) A4 hf trivial,⟨_,rfl⟩,hh⟩
  refine wpIn_block (eY (p0.1.length+1) (λq a' w'=>∃(i:Nat) (x:Int) (V:Reg) (σ:Env),q+i=p0.1.length+1/\i<=p0.1.length/\Fits [] 43 a' σ/\J i V w'/\MemI gl V w' ⟨Mx (Ce l) (Dh a f h s) p0.1 (i:Int) x,[],[]⟩ σ/\Gt a s (p0.1.drop i) x=some (xs.drop i)) ?_ ?_
    ⟨0,0,V3,σ3,rfl,Nat.zero_le _,f3,j3,m3,hF⟩)
  · rintro a' w' ⟨i,x,V,σ,hq,hi,_⟩
    omega
  rintro q a' w' ⟨i,x,V,σ,hq,hi,hf,hj,hm,hp⟩;refine CR hM hT hI (J:=J i) (fP i) .d [0,1,5,21,22,23,24] [] (jZ gl l a f h s p0.1 i x) rfl hm hj hf λσ4 V4 w4 a4 f4 j4 m4=>?_;by_cases hlt:i<p0.1.length
  · have hg:Cl (i:Int) (Ac p0.1)=true:=by simp[Cl,Ac,GI.toZ];exact hlt
    rw[hg]at m4;refine CR hM hT hI (J:=J i) (fP i) .d [0,1,5,21,22,23] [] (cZ gl l a f h s p0.1 i x true) rfl m4 j4 f4 λσ5 V5 w5 a5 f5 j5 m5=>?_;obtain⟨n,hn⟩:∃n,p0.1[i]? =some n:=⟨_,List.getElem?_eq_getElem hlt⟩;have hgn:Go.Lv.Ah p0.1 (i:Int)=some n:=by simp[Go.Lv.Ah,hn]
    have hd:p0.1.drop i=n::p0.1.drop (i+1):=by rw[List.drop_eq_getElem_cons hlt];congr 1;rw[List.getElem?_eq_getElem hlt]at hn;exact Option.some.inj hn
    rw[hd]at hp;obtain⟨p,r,hcut,hp',hxs⟩:=Uy hp;have hi':i<xs.length:=A7
    have hx:xs[i]? =some p:=by
      have:=congrArg List.head? hxs;rw[List.head?_drop]at this;exact this
    have hr:xs.drop (i+1)=r:=by
      have:=congrArg List.tail hxs;rw[List.tail_drop]at this;exact this
    refine wpIn_seq (wpIn_block ?_);refine CR hM hT hI (J:=J i) (fP i) .d [0,1,5,7,21,22,23] [] ((kV gl l a f h s p0.1 i x).trans (by rw[hgn];rfl)) rfl m5 j5 f5 λσ6 V6 w6 a6 f6 j6 m6=>?_;refine CR hM hT hI (J:=J i) (fP i) .d [0,1,5,8,21,22,23] [] (lQ gl l a f h s p0.1 i x n) rfl m6 j6 f6 λσ7 V7 w7 a7 f7 j7 m7=>?_;refine wpIn_seq (wpIn_seq (wpIn_region_lit ?_));refine UG (T:=Gg gl) hT hI (J:=J i) (fP i) [0,1,5,8,21,22,23,33,38] A4 ((lV gl l a f h s p0.1 i x (Aa x (Dm n a))).trans (by rw[hcut];rfl)) rfl m7 j7 f7 λσ8 V8 w8 a8 f8 j8 m8=>?_;have v33:σ8 33=Ce l:=by
      have:=m8.val (t:=33) (p:= .cst (Ce l)) A9 rfl;exact(show [σ8 33]=[Ce l]/\ _ from this).1|>List.head_eq_of_cons_eq
    have v38:Cz V8 w8 [] (vw p) (σ8 38):=(To rfl).1 (m8.val (t:=38) (p:=vw p) A9 rfl);refine iA gS iP B0 (λc hc=>by rw[XJ]at hc;cases hc) (YE XJ v33 rfl) (hY i V8 w8 (σ8 38) hi' j8 (λx' hx'=>by rw[hx]at hx';cases hx';exact v38)) ?_ f8;rintro e w9 (⟨rfl,j9,hgr,hsame⟩|⟨rfl,jx⟩)
    · refine⟨_,rfl,λa9 f9=>?_⟩
      have m9:=(m8.round hgr hsame).set (d:=39) (p:=vt true) (v:= .bool true) rfl (show [Value.bool true]=[Value.bool true]from rfl);refine UG (T:=Gg gl) (l2:=[]) hT hI (J:=J (i+1)) (fP (i+1)) [0,1,5,8,21,22,23,40] A4 (lR gl l a f h s p0.1 i x (Aa x (Dm n a)) p true) rfl m9 j9 f9 λσb Vb wb ab fb jb mb=>?_;refine wpIn_mono (Zi hM hT hI (J:=J (i+1)) (fP (i+1)) (an:= .d) (lv:=[0,1,5,8,21,22,23]) (co:=[]) (kM gl l a f h s p0.1 i x (Aa x (Dm n a)) false) rfl mb jb fb) ?_;rintro e ac wc ⟨he,σc,Vc,fc,jc,mc⟩;cases e with
      |normal=>
        refine wpIn_mono (Zi hM hT hI (J:=J (i+1)) (fP (i+1)) (an:= .d) (lv:=[0,1,5,21,22,23]) (co:=[]) (kH gl l a f h s p0.1 i x (Aa x (Dm n a))) rfl mc jc fc) ?_;rintro e ad wd ⟨he,σd,Vd,fd,jd,md⟩;cases e with
        |normal=>
          refine wpIn_mono (Zi hM hT hI (J:=J (i+1)) (fP (i+1)) (an:= .d) (lv:=[0,1,5,21,22,23]) (co:=[]) (mD gl l a f h s p0.1 i (Aa x (Dm n a))) rfl md jd fd) ?_;rintro e ae we ⟨he,σe,Ve,fe,je,me⟩;cases e with
          |normal=>
            have hadd:Aa (i:Int) 1=((i+1:Nat):Int):=gM A7;rw[hadd]at me;exact⟨i+1,_,Ve,σe,A7,A7,fe,je,me,by rw[hr];exact hp'⟩
          |ret=>simp[CS]at he
          |exit id=>simp[CS]at he
          |goto l=>cases he
          |panic c=>cases he
          |outgrown=>cases he
        |ret=>simp[CS]at he
        |exit id=>simp[CS]at he
        |goto l=>cases he
        |panic c=>cases he
        |outgrown=>cases he
      |ret=>simp[CS]at he
      |exit id=>simp[CS]at he
      |goto l=>cases he
      |panic c=>cases he
      |outgrown=>cases he
    · refine⟨_,rfl,λa9 f9=>?_⟩
      have hT0:Jt Tryz.prog ⟨[],[],false,false⟩:= .nil;have hI0:∀{R:Type},Ir (R:=R) Tryz.prog [] (Ka Tryz.prog ⟨[],[],false,false⟩ 8 []):=EI hM hT0 ZV.nil 8;have m9:MemI [] (λ_=>False) w9 ⟨[(39,vt false)],[],[]⟩ (Fy σ8 39 (.bool false)):=⟨λ_ h=>h.elim,rfl,rfl,(λp hp=>by
        rcases List.mem_cons.1 hp with rfl|hp
        · exact Cr.put rfl (show [Value.bool false]=[Value.bool false]from rfl)
        · cases hp),λp hp=>by cases hp⟩
      refine UG (T:=⟨[],[],false,false⟩) (l2:=[]) hT0 hI0 (J:=λ_ W=>Jx W) (λ_ X Y h k=>hJx X Y h k) [40] A4 iJ rfl m9 jx f9 λσb Vb wb ab fb jb mb=>?_;refine wpIn_mono (Zi (T:=⟨[],[],false,false⟩) hM hT0 hI0 (J:=λ_ W=>Jx W) (λ_ X Y h k=>hJx X Y h k) (an:= .d) (lv:=[]) (co:=[]) gP rfl mb jb fb) ?_;rintro e ac wc ⟨he,σc,Vc,fc,jc,mc⟩;cases e with
      |ret=>exact fin fc (.inr jc)
      |normal=>simp[CS]at he
      |exit id=>simp[CS]at he
      |goto l=>cases he
      |panic c=>cases he
      |outgrown=>cases he
  · have hi2:i=p0.1.length:=A7
    have hg:Cl (i:Int) (Ac p0.1)=false:=by subst hi2;simp[Cl,Ac,GI.toZ]
    rw[hg]at m4;refine wpIn_seq (wpIn_mono (Zi hM hT hI (J:=J i) (fP i) (an:= .d) (lv:=[0,1,5,21,22,23]) (co:=[]) (cZ gl l a f h s p0.1 i x false) rfl m4 j4 f4) ?_);rintro e ac wc ⟨he,σc,Vc,fc,jc,mc⟩;cases e with
    |exit id=>
      obtain rfl:id=0:=by simpa [CS]using he
      exact fin fc (.inl ⟨Vc,by rw[hlen,<-hi2];exact jc⟩)
    |ret=>simp[CS]at he
    |normal=>simp[CS]at he
    |goto l=>cases he
    |panic c=>cases he
    |outgrown=>cases he
abbrev PY:List Sh:=[.agg [.lf (.int .i64) none, .lf (.int .i64) none, .lf (.int .i64) none, .lf (.list (.int .i32)) none], .lf .str none]
abbrev Kz:List Sh:=[.lf (.list (.list (.int .u8))) (some 22), .lf (.int .i64) none]
noncomputable def ZS:Con:=⟨[.agg [.lf (.int .i64) none, .lf (.int .i64) none, .lf (.int .i64) none, .lf (.list (.int .i32)) none]],[.lf (.int .i64) none],λx=>Jv x.1 x.2.1 x.2.2.1 x.2.2.2⟩
noncomputable def WT:Con:=⟨[.lf .str none],[.lf (.vec 16 (.int .i32)) none, .lf (.int .i64) none],Mg⟩
noncomputable def XG:Con:=⟨[.agg [.lf (.int .i64) none, .lf (.int .i64) none], .lf (.vec 16 (.int .i32)) none, .lf (.list (.int .i32)) none],[.lf (.list (.int .u8)) (some 5), .lf (.int .i64) none],λx=>Jm x.1 x.2.1 x.2.2.1 x.2.2.2⟩
noncomputable def ZP:Con:=⟨[.agg [.lf (.int .i64) none, .lf (.int .i64) none, .lf (.int .i64) none, .lf (.list (.int .i32)) none]],[.agg [.lf (.int .i64) none, .lf (.int .i64) none]],λx=>CD x.1 x.2.1 x.2.2.1 x.2.2.2⟩
noncomputable def FF(gl:List (Nat×List Value)):Tab:=⟨[(84,ZS),(101,WT),(103,XG),(104,ZP)],gl,true,false⟩
noncomputable def ZC:List (Nat×ItC):=[(173,⟨37, .list (.int .i32),OY⟩)]
noncomputable def QJ:List (Nat×An):=[(102, .d)]
noncomputable abbrev dB{R:Type}(gl:List (Nat×List Value)):GD R:=Ka Tryz.prog (FF gl) 8 QJ
noncomputable def LK:An:= .loop [2,4,5,7,9] [⟨9,[], .own 22 (.list (.int .u8))⟩] .d
noncomputable def bZ:An:= .seq .d (.seq .d (.seq .d (.seq .d (.seq .d (.seq (.seq .d (.blk LK)) .d)))))
noncomputable def kL:Code:=fB Tryz.f50
noncomputable def bW:Code:=cB (cB (cB (cB (cB kL))))
noncomputable def dD:Code:=cA (cB (cA bW))
noncomputable def fA:Code:=cB bW
def sJ:Code->Code| .rangeFunc _ _ a _=>a|c=>c
def sB:Code->Code| .rangeFunc _ _ _ b=>b|c=>c
noncomputable def VB:K (Jd (Fm Kz)):={n:=Zu Tryz.prog Kz Tryz.f50.results.toList,x:=λ_ _=>none,r:=Zu Tryz.prog Kz Tryz.f50.results.toList}
noncomputable def cD(gl:List (Nat×List Value))(s:S):Option (Jd (Fm Kz)):=ex Tryz.prog (FF gl) (dB gl) 45 fA .d VB s
noncomputable def dO(gl:List (Nat×List Value)):K (Jd (Fm Kz)):=⟨cD gl,λid s=>Be (Nat.beq id 0) (cD gl s)<|VB.x id s,VB.r⟩
noncomputable def GA(gl:List (Nat×List Value)):List LX->S->Option (Jd (Fm Kz)):=nM LK (Yu Tryz.prog (FF gl) (dB gl) 45 28 (sJ dD) (sB dD) LK (dO gl) (.list (.int .i32))) (dO gl).n
def FV(a f h:Int)(b t:LX)(o:List LB):S:=⟨[(2, .ptr 0 []),(4, .ptr 1 []),(5, .ptr 2 []),(7, .ptr 3 []),(9, .ptr 4 [])],
  [.box 37 (.agg [vi a,vi f,vi h,vw b]), .box 62 .nils, .box 26 (vi 0), .box 157 (.val (.vec 16 (.int .i32)) t), .box 62 (.own 5), .arr 22 (.list (.int .u8)) o],[]⟩
theorem kS(gl:List (Nat×List Value))(a f h:Int)(b t:LX)(o:List LB):GA gl [] (FV a f h b t o)=some (o,(0:Int)):=A4
theorem lG(gl:List (Nat×List Value))(a f h:Int)(b t:LX)(o:List LB)(x:LX)(xs:List LX):GA gl (x::xs) (FV a f h b t o)=
    Option.bind (Jm a f t x) λy=>if(Bk y.2 0)=true then some ([],y.2)else Option.bind (Dk o [y.1]) λo'=>GA gl xs (FV a f h b t o'):=A4
theorem dP(gl:List (Nat×List Value))(a f h:Int)(b t:LX):∀(xs:List LX) (o:List LB),GA gl xs (FV a f h b t o)=Kn a f t xs o
  |[],o=>kS gl a f h b t o
  |x::xs,o=>by
    rw[lG,Kn];simp only[dP gl a f h b t xs];rfl
theorem fY(gl:List (Nat×List Value))(x:Jd (Fm PY)):lA Tryz.prog (FF gl) QJ ZC Tryz.f50 bZ PY Kz x=Wt x.1 x.2.1 x.2.2.1 x.2.2.2.1 x.2.2.2.2:=by
  refine Eq.trans (b:=Option.bind (Jv x.1 x.2.1 x.2.2.1 x.2.2.2.1) λe=>if(Bk e 0)=true then some ([],e)else Option.bind (Mg x.2.2.2.2) λt=>if(Bk t.2 0)=true then some ([],t.2)
    else Option.bind (Yj x.1 x.2.2.1 x.2.2.2.1) λxs=>GA gl xs (FV x.1 x.2.1 x.2.2.1 x.2.2.2.1 t.1 [])) A4 ?_
  simp only[dP];rfl
noncomputable def Qu:Con:=⟨PY,Kz,λx=>Wt x.1 x.2.1 x.2.2.1 x.2.2.2.1 x.2.2.2.2⟩
theorem OF{gl:List (Nat×List Value)}(tA:ConOk Tryz.prog gl 84 ZS)(tB:ConOk Tryz.prog gl 101 WT)(tC:ConOk Tryz.prog gl 174 MI)(tD:ConOk Tryz.prog gl 103 XG)(tE:ConOk Tryz.prog gl 104 ZP):
    ConOk Tryz.prog gl 50 Qu:=by
  have hE:∀{f:Nat} {fn:Func},Tryz.prog.funcs[f]? =some fn→(!(fn.name== "runtime.NumGoroutine")&&fn.body.isSome)=true→Ent Tryz.prog f:=by
    intro f fn hf hb;simp only[Bool.and_eq_true,Bool.not_eq_true']at hb;obtain⟨c,hc⟩:=Option.isSome_iff_exists.1 hb.2;exact Ent.mk hf hb.1 hc
  refine XW (T:=FF gl) (its:=ZC) (ans:=QJ) (an:=bZ) A4 Tryz.func50 (hE Tryz.func50 A4) (.cons tA (.cons tB (.cons tD (.cons tE .nil)))) (ZV.cons (hE Tryz.func102 A4) ZV.nil) ?_ A4 (fY gl);intro p hp;rcases List.mem_cons.1 hp with rfl|hp
  · exact fM tC (hE Tryz.func173 A4)
  · cases hp
theorem RL{W W':World}(h:KeepN (λ_=>True) W W'):W.grownBy W' none:=⟨h.gr.os,h.gr.tape,h.gr.output,h.gr.le,λk hk _=>h.same k hk trivial⟩
theorem hU{F:Fence}{n:Nat}{P:Program}{Q:Exit->Act->World->Prop}{a:Act}{w:World}{c:Code}(m:Nat)(I:Nat->Act->World->Prop)(h0:∀a w,¬I 0 a w)
    (hs:∀q a w,I (q+1) a w->c.wpIn F n P (Exit.then (I q) Q) a w) (h:I m a w):(Code.loop c).wpIn F n P Q a w:=by
  refine wpIn_loop_rounds m ?_
  induction m generalizing a w with
  |zero=>exact absurd h (h0 a w)
  |succ m ih=>
    rw[roundsIn_succ];refine wpIn_mono (hs m a w h) λe a' w' hh=>?_;cases e<;>first|exact ih hh|exact hh
theorem pT{α:Type}{c:Prop} [Decidable c]{a b y:α}(h:(if c then a else b)=y)(hc:¬c):b=y:=by rw[if_neg hc]at h;exact h
theorem lI{A:Reg}{w:World}{v:Value}{k:Kd}{l y:List k.T}{a:Int}(h:Af A w (.list (.int k)) l [v])(hc:Ee l a (Ac l)=some y):
    ∃(p:Option Addr) (len cap m:Nat),v= .slice p len cap/\a=(m:Int)/\m<=len/\len<=cap/\Af A w (.list (.int k)) y [.slice (if cap=m then p else p.map (·.add m)) (len-m) (cap-m)]:=by
  obtain⟨v1,c0,e1,h1,h2⟩:=h;cases e1;obtain⟨p,len,cap,rfl,g1,g2,g3,g4⟩:=h1;obtain⟨k1,k2,k3,k4,rfl⟩:=Mh hc;simp only[ET.size,Nat.mul_one]at g1 g4;have hll:=h2.len (z:=1) λx c h=>by rw[show c=_ from h];rfl
  have hln:l.length=len:=A7
  have hto:(Ac l).toNat=len:=by simp[Ac,hln]
  rw[hto]at k3⊢;refine⟨p,len,cap,a.toNat,rfl,k1,k3,g2,_,c0.drop a.toNat,rfl,⟨_,_,_,rfl,?_,A7,λhp=>?_,λhcap=>?_⟩,?_⟩
  · simp only[ET.size,List.length_drop];omega
  · split at hp
    · omega
    · rename_i hne
      cases p with
      |none=>have:=g3 rfl;omega
      |some a=>cases hp
  · rw[if_neg A7]
    obtain⟨b,off,arr,T,fr,rfl,e2,e3,e4,e5⟩:=g4 A7;refine⟨b,off+a.toNat,arr,T,fr,by simp[Addr.add],e2,e3,by simp only[ET.size];omega,λi hi=>?_⟩;simp only[ET.size]at hi;rw[List.getElem?_drop,<-e5 (a.toNat+i) A7,Nat.add_assoc]
  · have:=Az.drop (z:=1) (λx c h=>by rw[show c=_ from h];rfl) a.toNat h2
    rw[Nat.mul_one]at this;rw[List.take_of_length_le A7];exact this
theorem oY{P:Program}{f:Nat}{gl:List (Nat×List Value)}{F:List UInt8->Option (Int×Int)}(hC:ConOk P gl f ⟨[.lf (.list (.int .u8)) none],[.lf (.int .i64) none, .lf (.int .i64) none],F⟩){A:Reg}{W:World}{v:Value}{s:List UInt8}{r:Int×Int}
    (hv:Af A W (.list (.int .u8)) s [v]) (hgl:GlOk gl A W) (h:F s=some r):Calls P f #[v] W λe W'=>e= .returned (.tuple #[.int .i64 r.1, .int .i64 r.2])/\KeepN (λ_=>True) W W':=by
  have hv':Af (λ_=>True/\True) W (.list (.int .u8)) s [v]:=Af.step (λ_ _=>⟨trivial,trivial⟩) (λ_ _=>rfl) hv;refine(hC.ok (λ_=>True) (λ_=>True) W [] [v] [.val (.list (.int .u8)) s] s r rfl rfl (λi a m _ h=>by simp at h) trivial ⟨v,[],rfl,hv',rfl⟩ (λp hp=>⟨(hgl p hp).1,trivial,(hgl p hp).2.2⟩) h).mono ?_;rintro e w' ⟨us,rfl,hk,A1,L1,g1,g2,g3⟩;obtain⟨ps,its,k1,k2,k3,k4,k5⟩:=g3 ⟨[],[],[]⟩ [] (λ_=>True) rfl (λ_ _=>trivial) (λ_ _ _=>trivial);refine⟨?_,hk⟩;obtain rfl:=Option.some.inj (show some [PV.val (.int .i64) r.1,PV.val (.int .i64) r.2]=some ps from k2);obtain⟨_,_,rfl,e1,_,_,rfl,e2,rfl⟩:=k3;cases(show [_]=[Value.int .i64 r.1]from e1);cases(show [_]=[Value.int .i64 r.2]from e2);rfl
structure KpF (n₀ Bx:Nat) (A B:World):Prop where
  le:A.heap.size<=B.heap.size
  box:B.heap[Bx]? =A.heap[Bx]?
  old:∀k,k<n₀->B.heap[k]? =A.heap[k]?
def WR(l:List (Int×Int)):Int:=l.foldl (λs x=>Aa s x.1) 0
def fin(y:Int×Int)(xs:List (Int×Int)):Prop:=(∃x∈xs,x.2≠0)\/y=(WR xs,0)
def iB(y:Int×Int)(pre:List (Int×Int)):Prop:=∃p x,pre=p++[x]/\ (x.2≠0->y=(0,x.2))
theorem Tryz.oV:Tryz.f232.ntmps=35:=A4
theorem Tryz.sF:Tryz.prog.underlying 22=some (.slice 5):=A4
theorem Tryz.rZ:Da Tryz.prog 5 1:=Da.mk A4
set_option maxHeartbeats 2000000 in
set_option maxRecDepth 100000 in
theorem kU(n:Nat)(l Bx n₀:Nat)(v:Value)(b:List UInt8)(y:Int×Int)(J Jx:List (Int×Int)->World->Prop)(gl:List (Nat×List Value))
    (hC:ConOk Tryz.prog gl 233 ⟨[.lf (.list (.int .u8)) none],[.lf (.int .i64) none, .lf (.int .i64) none],Kb⟩)
    (hY:∀pre x W,J pre W->pre.length<Cn->YieldAt Fence.wide (n-1) Tryz.prog l #[.int .i64 x.1, .int .i64 x.2] W λe W'=>
      (e= .returned (.bool true)/\J (pre++[x]) W'/\KpF n₀ Bx W W')\/ (e= .returned (.bool false)/\Jx (pre++[x]) W'))
    (W0:World) (hJ:AbidesFrom W0.heap.size J) (bP:W0.heap[Bx]? =some (.cells #[v] 22 (0,0))) (hn:n₀<=W0.heap.size) (hv:Af (λk=>k<n₀) W0 (.list (.int .u8)) b [v]) (hgl:GlOk gl (λk=>k<n₀) W0)
    (h0:J [] W0) (hy:It b=some y):
    CallsIn Fence.wide n Tryz.prog 232 #[.func (.yield l) #[] #[], .pointer (some ⟨Bx,0,none⟩)] W0 λe W'=>(∃v,e= .returned v)/\ ((∃ys,fin y ys/\J ys W')\/ (∃pre,iB y pre/\Jx pre W')):=by
  refine callsIn_of_wp Tryz.func232 rfl trivial ?_ rfl;simp only[Tryz.oV,List.size_toArray,List.length_cons,List.length_nil,Nat.reduceAdd,Nat.reduceSub,Array.replicate_succ,Array.replicate_zero,List.push_toArray,List.append_toArray,List.nil_append,List.cons_append]
  gi_wp2
  refine hU Cn (λq a W=>∃(pre:List (Int×Int)) (x:Int) (v2 v4 v5 v6 v7 v8 v9 v10 v11 v12 v13 v14 v15 v16 v17 v18 v19 v20 v21 v22 v23 v24 v25 v26 v27 v28 v29 v30 v31 v32 v33 v34:Value),a={tmps:= #[.func (.yield l) #[] #[], .pointer (some ⟨Bx,0,none⟩),v2, .int .i64 x,v4,v5,v6,v7,v8,v9,v10,v11,v12,v13,v14,v15,v16,v17,v18,v19,v20,v21,v22,v23,v24,v25,v26,v27,v28,v29,v30,v31,v32,v33,v34],defers:=[]}/\Km b q x=some y/\WR pre=x/\pre.length+q=Cn/\J pre W/\KpF n₀ Bx W0 W/\W0.heap.size<=W.heap.size) ?_ ?_ ?_
  · rintro a W ⟨pre,x,v2,v4,v5,v6,v7,v8,v9,v10,v11,v12,v13,v14,v15,v16,v17,v18,v19,v20,v21,v22,v23,v24,v25,v26,v27,v28,v29,v30,v31,v32,v33,v34,_,h,_⟩
    cases h
  · rintro q a W ⟨pre,x,v2,v4,v5,v6,v7,v8,v9,v10,v11,v12,v13,v14,v15,v16,v17,v18,v19,v20,v21,v22,v23,v24,v25,v26,v27,v28,v29,v30,v31,v32,v33,v34,rfl,h,hx,hl,tF,hk,hs⟩
    simp only[Km]at h;obtain⟨s,hcut,h⟩:=Go.Lv.bind_some h;obtain⟨r,hsz,h⟩:=Go.Lv.bind_some h;have tG:Af (λk=>k<n₀) W (.list (.int .u8)) b [v]:=Af.step (λ_ h=>h) (λk hk'=>hk.old k hk') hv;obtain⟨p,len,cap,m,rfl,rfl,hm,hlc,hsv⟩:=lI (k:= .u8) tG hcut;have hc:W.cell? ⟨Bx,0,none⟩=some (.slice p len cap):=by
      have:=hk.box;simp only[World.cell?,this,bP];rfl
    have hu:=Tryz.sF;have hz:=Tryz.rZ;obtain⟨k,e⟩:=r;have e1:geq e 6=(e==6):=rfl;have e2:geq e 0=(e==0):=rfl;have e3:Aa (m:Int) k=RowKit.wrap64 (m+k):=by
      simp only[Aa,GI.ofZ,GI.toZ,Go.Lv.wrap64,RowKit.wrap64];exact IntKind.wrap_i64 _
    have e4:Ez (RowKit.wrap64 (m+k)) 4000=decide (4000<RowKit.wrap64 (m+k)):=rfl;have e5:Bk e 0=(e !=0):=rfl;rw[e1,e2,e3,e4,e5]at h;have hp:=h;have hgW:GlOk gl (λk=>k<n₀) W:=λp hp=>⟨Nat.lt_of_lt_of_le (hgl p hp).1 hs,(hgl p hp).2.1,by rw[hk.old _ (hgl p hp).2.1];exact(hgl p hp).2.2⟩;have hcall:∀v',Af (λk=>k<n₀) W (.list (.int .u8)) s [v']->CallsIn Fence.wide (n-1) Tryz.prog 233 #[v'] W λe0 W'=>e0= .returned (.tuple #[.int .i64 k, .int .i64 e])/\KeepN (λ_=>True) W W':=
      λv' hv'=>callsIn_wide.2 (oY hC hv' hgW hsz)
    have hsm:∀z:Int,WR (pre++[(k,z)])=RowKit.wrap64 (m+k):=λz=>by rw[<-e3,<-hx];simp[WR]
    have hlt:Bx<W.heap.size:=Nat.lt_of_lt_of_le (Array.getElem?_eq_some_iff.1 bP).1 hs
    gi_wp2
    all_goals
      refine⟨trivial,(λh=>nomatch h),(hcall _ (by first|(rw[if_neg (by assumption)]at hsv;exact hsv)|(simpa [*]using hsv))).mono ?_⟩;rintro e0 W1 ⟨rfl,hk1⟩;have hJ2:=hJ pre W W1 none tF (RL hk1) (λr e=>by cases e);have hyl:∀e',YieldAt Fence.wide (n-1) Tryz.prog l #[Value.int IntKind.i64 k,Value.int IntKind.i64 e'] W1 _:=λe'=>hY pre (k,e') W1 hJ2 A7
      gi_wp2
      · rename_i h6
        rw[if_pos h6]at hp;refine bodyPost_ret (results_none rfl _ _ _) rfl ?_;exact⟨⟨_,rfl⟩, .inl ⟨pre, .inr (by rw[hx];cases hp;rfl),hJ2⟩⟩
      · obtain⟨fn,tmps,assign,body,hy1,hR⟩:=hyl 4
        rw[hy1]
        gi_wp2
        refine⟨(λh=>nomatch h),hR.mono ?_⟩;rintro e3 W3 (⟨rfl,hJ3,hk3⟩|⟨rfl,hJx3⟩)
        · gi_wp2
          refine bodyPost_ret (results_none rfl _ _ _) rfl ?_;exact⟨⟨_,rfl⟩, .inl ⟨pre++[(k,4)], .inl ⟨(k,4),A9,A9⟩,hJ3⟩⟩
        · gi_wp2
          refine bodyPost_ret (results_none rfl _ _ _) rfl ?_;refine⟨⟨_,rfl⟩, .inr ⟨pre++[(k,4)],⟨pre,(k,4),rfl,λhne=>?_⟩,hJx3⟩⟩;simp at hne
          all_goals simp_all
      · obtain⟨fn,tmps,assign,body,hy1,hR⟩:=hyl 0
        rw[hy1]
        gi_wp2
        refine⟨(λh=>nomatch h),hR.mono ?_⟩;rintro e3 W3 (⟨rfl,hJ3,hk3⟩|⟨rfl,hJx3⟩)
        · gi_wp2
          refine⟨pre++[(k,0)],_,_,_,_,_,_,_,_,_,_,_,_,_,_,_,_,_,_,_,_,_,_,_,_,_,_,_,_,_,_,_,_,_,rfl,?_,‹∀z:Int,WR (pre++[(k,z)])=RowKit.wrap64 ((m:Int)+k)› 0,by simp;omega,hJ3,⟨?_,?_,?_⟩,?_⟩
          · simp_all
            exact pT (by assumption) A7
          · exact Nat.le_trans hk.le (Nat.le_trans hk1.gr.le hk3.le)
          · exact hk3.box.trans ((hk1.same _ ‹Bx<W.heap.size› trivial).trans hk.box)
          · exact λj hj=>(hk3.old j hj).trans ((hk1.same j (Nat.lt_of_lt_of_le hj (Nat.le_trans hn hs)) trivial).trans (hk.old j hj))
          · exact Nat.le_trans hs (Nat.le_trans hk1.gr.le hk3.le)
        · gi_wp2
          refine bodyPost_ret (results_none rfl _ _ _) rfl ?_;exact⟨⟨_,rfl⟩, .inr ⟨pre++[(k,0)],⟨pre,(k,0),rfl,λhne=>absurd rfl hne⟩,hJx3⟩⟩
      · obtain⟨fn,tmps,assign,body,hy1,hR⟩:=hyl e
        rw[hy1]
        gi_wp2
        refine⟨(λh=>nomatch h),hR.mono ?_⟩;rintro e3 W3 (⟨rfl,hJ3,hk3⟩|⟨rfl,hJx3⟩)
        · gi_wp2
          rename_i hne;refine bodyPost_ret (results_none rfl _ _ _) rfl ?_;exact⟨⟨_,rfl⟩, .inl ⟨pre++[(k,e)], .inl ⟨(k,e),A9,by simpa using hne⟩,hJ3⟩⟩
        · gi_wp2
          refine bodyPost_ret (results_none rfl _ _ _) rfl ?_;refine⟨⟨_,rfl⟩, .inr ⟨pre++[(k,e)],⟨pre,(k,e),rfl,λhne=>?_⟩,hJx3⟩⟩;simp at hne
          all_goals simp_all
  · exact⟨[],0,_,_,_,_,_,_,_,_,_,_,_,_,_,_,_,_,_,_,_,_,_,_,_,_,_,_,_,_,_,_,_,_,rfl,hy,rfl,A9,h0,⟨Nat.le_refl _,rfl,λ_ _=>rfl⟩,Nat.le_refl _⟩
theorem nL(n Bx n₀:Nat)(v:Value)(b:List UInt8)(y:Int×Int)(gl:List (Nat×List Value))
    (hC:ConOk Tryz.prog gl 233 ⟨[.lf (.list (.int .u8)) none],[.lf (.int .i64) none, .lf (.int .i64) none],Kb⟩)
    (w:World) (bP:w.heap[Bx]? =some (.cells #[v] 22 (0,0))) (hn:n₀<=w.heap.size) (hv:Af (λk=>k<n₀) w (.list (.int .u8)) b [v]) (hgl:GlOk gl (λk=>k<n₀) w) (hy:It b=some y):
    SeqStopsK Fence.wide n Tryz.prog 232 #[.pointer (some ⟨Bx,0,none⟩)] (λx:Int×Int=> #[.int .i64 x.1, .int .i64 x.2]) (KpF n₀ Bx) (fin y) (iB y) Cn w:=by
  intro l J Jx W hW hJ hJx hY h0;have hlt:=(Array.getElem?_eq_some_iff.1 bP).1;have hb:∀k,k<n₀->W.heap[k]? =w.heap[k]? :=λk hk=>hW.block k (Nat.lt_of_lt_of_le hk hn);exact kU n l Bx n₀ v b y J Jx gl hC hY W hJ ((hW.block Bx hlt).trans bP) (Nat.le_trans hn hW.size) (Af.step (λ_ h=>h) hb hv)
    (λp hp=>⟨Nat.lt_of_lt_of_le (hgl p hp).1 hW.size,(hgl p hp).2.1,by rw[hb _ (hgl p hp).2.1];exact(hgl p hp).2.2⟩) h0 hy
theorem Vu{w W:World}{a:Addr}{v:Value}(h:KeepN (λ_=>True) w W)(ha:w.heap.size<=a.block):KeepN (λ_=>True) w (W.setCell a v):=by
  have hb:=(Below.refl w.heap.size W).setCell (p:=a) ha v;exact⟨λb hb' _=>(hb.block b hb').trans (h.same b hb' trivial),h.gr.trans ⟨hb.size,hb.os,hb.tape,hb.output⟩⟩
theorem heap_set{W:World}{a:Addr}{v:Value}{k:Nat}(h:k≠a.block):(W.setCell a v).heap[k]? =W.heap[k]? :=
  ((Below.refl (k+1) {W with heap:=W.heap}).block k A7▸(by
    show(W.heap.modify a.block _)[k]? =W.heap[k]?;rw[Array.getElem?_modify,if_neg (Ne.symm h)]))
theorem ZY{W:World}{B:Nat}{v:Value}{t:TypeId}(h:W.heap[B]? =some (.cells #[v] t (0,0))):W.cell? ⟨B,0,none⟩=some v/\W.frozen? ⟨B,0,none⟩=false:=by
  constructor<;>simp[World.cell?,World.frozen?,h]
theorem DH(W:World)(v:Value)(t:TypeId):(W.alloc (.cells #[v] t)).cell? ⟨W.heap.size,0,none⟩=some v/\ (W.alloc (.cells #[v] t)).frozen? ⟨W.heap.size,0,none⟩=false:=ZY (World.alloc_heap_new W _)
theorem Dj{W:World}{a:Addr}{v:Value}(o:Obj)(h:W.cell? a=some v):(W.alloc o).cell? a=some v:=cell_kept h (World.grownBy_alloc W o none) (λr e=>by cases e)
theorem Eu{W:World}{a:Addr}{v:Value}(o:Obj)(h:W.cell? a=some v)(hf:W.frozen? a=false):(W.alloc o).frozen? a=false:=(frozen_kept h (World.grownBy_alloc W o none) (λr e=>by cases e)).trans hf
theorem Tryz.oW:Tryz.f186.ntmps=4:=A4
theorem Tryz.oU:Tryz.f116.ntmps=18:=A4
set_option maxHeartbeats 1000000 in
set_option maxRecDepth 100000 in
theorem kO(n:Nat)(p:Option Addr)(len cap:Nat)(w:World):
    CallsIn Fence.wide n Tryz.prog 186 #[.slice p len cap] w λe w'=>e= .returned (.func (.func 232) #[] #[.pointer (some ⟨w.heap.size,0,none⟩)])/\w'=w.alloc (.cells #[.slice p len cap] 22):=by
  refine callsIn_of_wp Tryz.func186 rfl trivial ?_ rfl;simp only[Tryz.oW,List.size_toArray,List.length_cons,List.length_nil,Nat.reduceAdd,Nat.reduceSub,Array.replicate_succ,Array.replicate_zero,List.push_toArray,List.append_toArray,List.nil_append,List.cons_append]
  gi_wp2
  go_ret
  exact⟨rfl,rfl⟩
set_option maxHeartbeats 1000000 in
set_option maxRecDepth 100000 in
theorem gD(n:Nat)(h1:3<=n)(p:Option Addr)(len cap:Nat)(b:List UInt8)(y:Int×Int)(gl:List (Nat×List Value))
    (hC:ConOk Tryz.prog gl 233 ⟨[.lf (.list (.int .u8)) none],[.lf (.int .i64) none, .lf (.int .i64) none],Kb⟩)
    (w:World) (hv:Af (λk=>k<w.heap.size) w (.list (.int .u8)) b [.slice p len cap]) (hgl:GlOk gl (λk=>k<w.heap.size) w) (hy:It b=some y):
    CallsIn Fence.wide n Tryz.prog 116 #[.slice p len cap] w λe w'=>e= .returned (.tuple #[.int .i64 y.1, .int .i64 y.2])/\KeepN (λ_=>True) w w':=by
  refine callsIn_of_wp_marks Tryz.func116 rfl trivial ?_ rfl;simp only[Tryz.oU,List.size_toArray,List.length_cons,List.length_nil,Nat.reduceAdd,Nat.reduceSub,Array.replicate_succ,Array.replicate_zero,List.push_toArray,List.append_toArray,List.nil_append,List.cons_append]
  gi_wp2
  refine⟨trivial,(λh=>nomatch h),(kO (n-1) _ _ _ _).mono ?_⟩;rintro e w' ⟨rfl,rfl⟩
  gi_wp2
  refine wpIn_rangeFunc_ownG (Kp:=KpF w.heap.size (w.heap.size+1+1+1)) rfl A7 (gf:=232) (lb:= #[.pointer (some ⟨w.heap.size+1+1+1,0,none⟩)]) rfl trivial (enters_of Tryz.func232 A4 rfl)
    (nL (n-1) (w.heap.size+1+1+1) w.heap.size (.slice p len cap) b y gl hC _ ?bP ?hn ?hv ?hgl hy)
    (λh k=>⟨Nat.le_trans h.le k.le,k.box.trans h.box,λj hj=>(k.old j hj).trans (h.old j hj)⟩) ?hKb (Below.refl _ _) (λ_=>rfl)
    (λpre W=>(∀x∈pre,x.2=0)/\ (W.cell? ⟨w.heap.size+1+1,0,none⟩=some (.int .i64 (WR pre))/\W.frozen? ⟨w.heap.size+1+1,0,none⟩=false)/\
      (∃v,W.cell? ⟨w.heap.size,0,none⟩=some v/\W.frozen? ⟨w.heap.size,0,none⟩=false)/\ (∃v,W.cell? ⟨w.heap.size+1,0,none⟩=some v/\W.frozen? ⟨w.heap.size+1,0,none⟩=false)/\KeepN (λ_=>True) w W)
    (λc pre W=>c= .ret/\ (∃mF x,pre=mF++[x]/\x.2≠0/\W.cell? ⟨w.heap.size,0,none⟩=some (.int .i64 0)/\W.cell? ⟨w.heap.size+1,0,none⟩=some (.int .i64 x.2))/\KeepN (λ_=>True) w W)
    ?hI ?hIx ?h0
    (λx=>{tmps:= #[.slice p len cap,undef, .pointer (some ⟨w.heap.size,0,none⟩), .pointer (some ⟨w.heap.size+1,0,none⟩), .pointer (some ⟨w.heap.size+1+1,0,none⟩), .int .i64 x.1, .int .i64 x.2, .slice p len cap, .func (.func 232) #[] #[.pointer (some ⟨w.heap.size+1+1+1,0,none⟩)], .int .i64 x.1, .int .i64 x.2,undef,undef,undef,undef,undef,undef,undef],defers:=[]}) ?assign ?body ?done ?stop
  case assign=>
    intro l x W K hK
    gi_wp2
    exact hK
  case body=>
    rintro l pre x W ⟨hz,⟨hc,hf⟩,⟨v2,hc2,hf2⟩,⟨v3,hc3,hf3⟩,hk⟩ _
    gi_wp2
    · rename_i hx
      refine⟨(KeepsOthers.trans (KeepsOthers.setCell _ _ _) (KeepsOthers.setCell _ _ _)).from _,rfl,⟨pre,x,rfl,by simpa using hx,?_,?_⟩,Vu (Vu hk (Nat.le_refl _)) (Nat.le_succ _)⟩
      · refine(World.cell?_setCell_other _ _ _ _ A9).trans ?_
        exact World.cell?_setCell_same' _ _ _ (by rw[hc2];rfl)
      · refine World.cell?_setCell_same' _ _ _ ?_
        rw[World.cell?_setCell_other W ⟨w.heap.size,0,none⟩ ⟨w.heap.size+1,0,none⟩ _ A9,hc3];rfl
    · rename_i hx
      have hx0:x.2=0:=by simpa using hx
      refine⟨(KeepsOthers.setCell _ _ _).from _,⟨((Below.refl 0 W).setCell (p:=⟨w.heap.size+1+1,0,none⟩) (Nat.zero_le _) _).size,heap_set A9,λk hk'=>heap_set A8⟩,?_,⟨?_,by rw[World.frozen?_setCell];exact hf⟩,⟨v2,?_,by rw[World.frozen?_setCell];exact hf2⟩,⟨v3,?_,by rw[World.frozen?_setCell];exact hf3⟩,Vu hk A8⟩
      · intro z hz'
        rcases List.mem_append.1 hz' with h|h
        · exact hz z h
        · simp at h;subst h;exact hx0
      · have e:WR (pre++[x])=RowKit.wrap64 (WR pre+x.1):=by
          simp only[WR,List.foldl_append,List.foldl_cons,List.foldl_nil,Aa,GI.ofZ,GI.toZ,Go.Lv.wrap64,RowKit.wrap64];exact IntKind.wrap_i64 _
        rw[e];exact World.cell?_setCell_same' _ _ _ (by rw[hc];rfl)
      · exact(World.cell?_setCell_other _ _ _ _ (by simp;try omega)).trans hc2
      · exact(World.cell?_setCell_other _ _ _ _ A9).trans hc3
  case done=>
    rintro D xs W hD hS ⟨hz,⟨hc,hf⟩,⟨v2,hc2,hf2⟩,⟨v3,hc3,hf3⟩,hk⟩ hK
    gi_wp2
    have hy':y=(WR xs,0):=hS.elim (λ⟨x,hx,hne⟩=>absurd (hz x hx) hne) id;have hlen:w.heap.size+4<=D:=by simp only[World.size_alloc]at hD;omega
    have hK':=((KeepsOthers.setCell W ⟨w.heap.size,0,none⟩ (.int .i64 (WR xs))).trans (KeepsOthers.setCell _ ⟨w.heap.size+1,0,none⟩ (.int .i64 0))).same D _ hK rfl;have hk2:=Vu (v:= .int .i64 0) (a:=⟨w.heap.size+1,0,none⟩) (Vu (v:= .int .i64 (WR xs)) (a:=⟨w.heap.size,0,none⟩) hk (Nat.le_refl _)) (Nat.le_succ _);have d0:((W.setCell ⟨w.heap.size,0,none⟩ (.int .i64 (WR xs))).setCell ⟨w.heap.size+1,0,none⟩ (.int .i64 0)).cell? ⟨w.heap.size,0,none⟩=some (.int .i64 (WR xs)):=
      (World.cell?_setCell_other _ _ _ _ A9).trans (World.cell?_setCell_same' _ _ _ (by rw[hc2];rfl))
    have d1:((W.setCell ⟨w.heap.size,0,none⟩ (.int .i64 (WR xs))).setCell ⟨w.heap.size+1,0,none⟩ (.int .i64 0)).cell? ⟨w.heap.size+1,0,none⟩=some (.int .i64 0):=
      World.cell?_setCell_same' _ _ _ (by rw[World.cell?_setCell_other W ⟨w.heap.size,0,none⟩ ⟨w.heap.size+1,0,none⟩ _ A9,hc3];rfl)
    refine⟨A9, .inl ⟨_,_,rfl,run_takeDeferred hK',?_⟩⟩;have hg:=grownBy_putObj' ((W.setCell ⟨w.heap.size,0,none⟩ (.int .i64 (WR xs))).setCell ⟨w.heap.size+1,0,none⟩ (.int .i64 0)) D (.deferred none);have hr':∀r,some D=some r->∃o:Obj,((W.setCell ⟨w.heap.size,0,none⟩ (.int .i64 (WR xs))).setCell ⟨w.heap.size+1,0,none⟩ (.int .i64 0)).heap[r]? =some o/\o.isCells=false:=λr e=>by cases e;exact⟨_,hK',rfl⟩
    have rR:=cell_kept d0 hg hr';have hc6:=cell_kept d1 hg hr';refine⟨.tuple #[.int .i64 (WR xs), .int .i64 0],?_,by rw[hy'],?_⟩
    · simp[results,Tryz.f116,go_sem,rR,hc6]
    · refine⟨λb hb _=>(hg.block b (Nat.lt_of_lt_of_le hb hk2.gr.le) (λe=>?_)).trans (hk2.same b hb trivial),hk2.gr.trans ⟨hg.size,hg.os,hg.tape,hg.output⟩⟩
      cases e;omega
  case stop=>
    rintro D c pre W hD hS ⟨rfl,⟨mF,x,rfl,hx,hc2,hc3⟩,hk⟩ hK
    gi_wp2
    obtain⟨p1,x1,he,hy1⟩:=hS;have hy':y=(0,x.2):=by
      have:=List.append_inj' he rfl;cases this.2;exact hy1 hx
    have hlen:w.heap.size+4<=D:=by simp only[World.size_alloc]at hD;omega
    refine⟨A9, .inl ⟨_,_,rfl,run_takeDeferred hK,?_⟩⟩;have hg:=grownBy_putObj' W D (.deferred none);have hr':∀r,some D=some r->∃o:Obj,W.heap[r]? =some o/\o.isCells=false:=λr e=>by cases e;exact⟨_,hK,rfl⟩
    have rR:=cell_kept hc2 hg hr';have hc6:=cell_kept hc3 hg hr';refine⟨.tuple #[.int .i64 0, .int .i64 x.2],?_,by rw[hy'],?_⟩
    · simp[results,Tryz.f116,go_sem,rR,hc6]
    · refine⟨λb hb _=>(hg.block b (Nat.lt_of_lt_of_le hb hk.gr.le) (λe=>?_)).trans (hk.same b hb trivial),hk.gr.trans ⟨hg.size,hg.os,hg.tape,hg.output⟩⟩
      cases e;omega
  case bP=>
    have h:=World.alloc_heap_new (((w.alloc (.cells #[.int .i64 0] 3)).alloc (.cells #[.int .i64 0] 26)).alloc (.cells #[.int .i64 0] 3)) (.cells #[.slice p len cap] 22);simp only[World.size_alloc]at h;exact h
  case hn=>simp;omega
  case hI=>
    rintro s A B row ⟨hz,⟨hc,hf⟩,⟨v2,hc2,hf2⟩,⟨v3,hc3,hf3⟩,hk⟩ hg hr;have hr':∀r,row=some r->∃o:Obj,A.heap[r]? =some o/\o.isCells=false:=λr e=>(hr r e).2;refine⟨hz,⟨cell_kept hc hg hr',(frozen_kept hc hg hr').trans hf⟩,⟨v2,cell_kept hc2 hg hr',(frozen_kept hc2 hg hr').trans hf2⟩,⟨v3,cell_kept hc3 hg hr',(frozen_kept hc3 hg hr').trans hf3⟩,?_⟩;refine⟨λb hb _=>(hg.block b (Nat.lt_of_lt_of_le hb hk.gr.le) (λe=>?_)).trans (hk.same b hb trivial),hk.gr.trans ⟨hg.size,hg.os,hg.tape,hg.output⟩⟩;have:=(hr b e.symm).1;simp at this;omega
  case hIx=>
    rintro c s A B row ⟨hc,⟨mF,x,hs,hx,hc2,hc3⟩,hk⟩ hg hr;have hr':∀r,row=some r->∃o:Obj,A.heap[r]? =some o/\o.isCells=false:=λr e=>(hr r e).2;refine⟨hc,⟨mF,x,hs,hx,cell_kept hc2 hg hr',cell_kept hc3 hg hr'⟩,?_⟩;refine⟨λb hb _=>(hg.block b (Nat.lt_of_lt_of_le hb hk.gr.le) (λe=>?_)).trans (hk.same b hb trivial),hk.gr.trans ⟨hg.size,hg.os,hg.tape,hg.output⟩⟩;have:=(hr b e.symm).1;simp at this;omega
  case hKb=>
    intro W l o o' hl h _ _;have hlt:=(Array.getElem?_eq_some_iff.1 h).1;simp at hl;have hg:=grownBy_putObj' W l o';exact⟨hg.size,hg.block _ A7 (λe=>by cases e;omega),λk hk=>hg.block k A7 (λe=>by cases e;omega)⟩
  case hgl=>
    intro q hq;refine⟨by simp;have:=(hgl q hq).1;omega,(hgl q hq).2.1,?_⟩;have hb:=((((Below.refl w.heap.size w).alloc (Nat.le_refl _) (.cells #[.int .i64 0] 3)).alloc A9 (.cells #[.int .i64 0] 26)).alloc A8 (.cells #[.int .i64 0] 3)).alloc A8 (.cells #[.slice p len cap] 22);rw[hb.block _ (hgl q hq).1];exact(hgl q hq).2.2
  case hv=>
    have hb:=((((Below.refl w.heap.size w).alloc (Nat.le_refl _) (.cells #[.int .i64 0] 3)).alloc A9 (.cells #[.int .i64 0] 26)).alloc A8 (.cells #[.int .i64 0] 3)).alloc A8 (.cells #[.slice p len cap] 22);exact Af.step (λ_ h=>h) (λk hk=>hb.block k hk) hv
  case h0=>
    have c0:=DH w (.int .i64 0) 3;have c1:=DH (w.alloc (.cells #[.int .i64 0] 3)) (.int .i64 0) 26;have c2:=DH ((w.alloc (.cells #[.int .i64 0] 3)).alloc (.cells #[.int .i64 0] 26)) (.int .i64 0) 3;simp only[World.size_alloc]at c1 c2;have hb:=((((Below.refl w.heap.size w).alloc (Nat.le_refl _) (.cells #[.int .i64 0] 3)).alloc A9 (.cells #[.int .i64 0] 26)).alloc A8 (.cells #[.int .i64 0] 3)).alloc A8 (.cells #[.slice p len cap] 22);exact⟨A9,⟨Dj _ c2.1,Eu _ c2.1 c2.2⟩,⟨_,Dj _ (Dj _ (Dj _ c0.1)),Eu _ (Dj _ (Dj _ c0.1)) (Eu _ (Dj _ c0.1) (Eu _ c0.1 c0.2))⟩,
      ⟨_,Dj _ (Dj _ c1.1),Eu _ (Dj _ c1.1) (Eu _ c1.1 c1.2)⟩,⟨λb hb' _=>hb.block b hb',⟨hb.size,hb.os,hb.tape,hb.output⟩⟩⟩
def Ko:Con:=⟨[.lf (.list (.int .u8)) none],[.lf (.int .i64) none, .lf (.int .i64) none],λx=>It x⟩
theorem PR{gl:List (Nat×List Value)}(hE:Ent Tryz.prog 116)(hC:ConOk Tryz.prog gl 233 ⟨[.lf (.list (.int .u8)) none],[.lf (.int .i64) none, .lf (.int .i64) none],Kb⟩):ConOk Tryz.prog gl 116 Ko:=by
  refine⟨hE,?_⟩;intro R N w L0 vs ps x y hargs hlen hit AB hvs hgl hy;obtain rfl:=Option.some.inj (show some [PV.val (.list (.int .u8)) x]=some ps from hargs);obtain⟨v,_,rfl,h1,rfl⟩:=hvs;have h2:Af (λb=>R b/\N b) w (.list (.int .u8)) x [v]:=h1;have h3:=Af.step (B':=λk=>k<w.heap.size) (λ_ h=>h.1) (λ_ _=>rfl) (Ig h2);obtain⟨p,len,cap,rfl⟩:∃p len cap,v= .slice p len cap:=by
    obtain⟨v1,c0,e1,⟨p,len,cap,rfl,_⟩,_⟩:=h2;cases e1;exact⟨_,_,_,rfl⟩
  refine(callsIn_wide.1 (gD 3 (Nat.le_refl _) p len cap x y gl hC w h3 (λq hq=>⟨(hgl q hq).1,(hgl q hq).1,(hgl q hq).2.2⟩) hy)).mono ?_;rintro e w' ⟨rfl,hk⟩;refine⟨[.int .i64 y.1, .int .i64 y.2],rfl,⟨λb hb _=>hk.same b hb trivial,hk.gr⟩,λ_=>False,[],λ_ h=>h.elim,?_,?_⟩
  · trivial
  · intro s L B' hl _ _
    refine⟨[.val (.int .i64) y.1, .val (.int .i64) y.2],[],(show s=⟨s.sl,s.it++[],s.st⟩ by simp),rfl,?_,rfl,λi a m h=>by simp at h⟩;exact⟨_,_,rfl,rfl,_,_,rfl,rfl,rfl⟩
end Go.Proofs.YtmnpghdjdepelaaGreatDoor
