/- A part of a proof (see the text that ends in Proof). No conditions. -/
import Derived.Test.YtaicmmejgiaafaaGreatDoorVnPA
import Derived.Test.YtaicmmejgiaafaaGreatDoorProg
import Derived.KernelRfl
import Derived.RangeFuncKeeps
import Derived.RangeFuncWrites
import Derived.Shelf.Abstract
import Derived.Test.YtaicmmejgiaafaaGreatDoorVnRA
namespace Go
theorem C7{p:Prop}(h:p:=by kernel_rfl):p:=h
end Go
set_option linter.unusedVariables false
set_option linter.unusedSimpArgs false
namespace Go.Proofs.YtaicmmejgiaafaaGreatDoor
open Go.RowKit Go.Shelf Go Go.Rx Go.Lv Go.Pl
attribute [local go_sem] Oper.semAt_some
noncomputable def MJ:Con:=⟨[.lf (.int .i64) none, .lf (.int .i64) none],[.lf (.list (.int .i64)) (some 3), .lf (.int .i64) none],λx=>Kn x.1 x.2⟩
noncomputable def Gi(gl:List (Nat×List Value)):Tab:=⟨[(117,MJ)],gl,false,false⟩
noncomputable abbrev Jv{R:Type}(gl:List (Nat×List Value)):GH R:=Jq Tryz.prog (Gi gl) 8 []
noncomputable def kU:Code:=fB Tryz.f136
noncomputable def fH:Code:=cB kU
noncomputable def dP:Code:=cB fH
noncomputable def UO:Code:=cA (cA (cB dP))
noncomputable def eW:Code:=cB (cB UO)
noncomputable def VW:Code:=cA (cA eW)
noncomputable def PN:Code:=cB (cB VW)
noncomputable def dB:Code:=cA kU
noncomputable def eD:Code:=cA fH
noncomputable def dA:Code:=cA dP
noncomputable def eV:Code:=cA UO
noncomputable def dJ:Code:=cA (cB UO)
noncomputable def dF:Code:=cB eW
noncomputable def fE:Code:=cA VW
noncomputable def dW:Code:=cA (cB VW)
noncomputable def eQ:Code:=cB PN
noncomputable def WO:List Oper:=cO (cA (cA PN))
noncomputable def WK:Code:=cB (cA PN)
noncomputable def FE:List Oper:=WO.take 6
noncomputable def Tm:Oper:=uI WO 6
noncomputable def Zo:Oper:=uI WO 7
theorem gN:Tryz.f136.body=some (.seq dB (.seq eD (.seq dA (.block 0 (.loop (.seq eV (.seq dJ (.seq (.block 1 (.seq fE (.seq dW (.seq (.seq (.region 6 (FE++Tm::[Zo]).toArray false) WK) eQ)))) dF)))))))):=C7
theorem oJ:Tryz.f136.ntmps=43:=C7
theorem jL:Tm.guard=none:=C7
theorem kP:Tm.dst=some 39:=C7
theorem YH:Tm.op= .call ⟨.value (.tmp 33), #[.tmp 38], #[32]⟩:=C7
abbrev Dm(a f h:Int)(b:LX):PV:= .agg [vi a,vi f,vi h,vw b]
abbrev Mt(y:Value)(v:PV)(ls:LI)(i x:Int):Slots:=[(0, .cst y),(1, .rptr v),(5,vi x),(21,vl ls),(22,vi (Aa ls)),(23,vi i)]
abbrev Qj(lv:List Nat):K (Nat×S):=kC lv []
abbrev Cf(l:Nat):Value:= .func (.yield l) #[] #[]
theorem mF(gl:List (Nat×List Value))(l:Nat)(a f h:Int)(b:LX):ex Tryz.prog (Gi gl) (Jv gl) 43 dB .d (kC [0,1,3] [⟨3,[], .ro (.int .i64)⟩]) ⟨[(0, .cst (Cf l)),(1, .rptr (Dm a f h b))],[],[]⟩=
    Option.bind (Dt (Bp a 0)) λ_=>Option.bind (Kn h (Iu (Aa b) a)) λp=>some (0,⟨[(0, .cst (Cf l)),(1, .rptr (Dm a f h b)),(3,vl p.1)],[],[]⟩):=C7
theorem nJ(gl:List (Nat×List Value))(l:Nat)(v:PV)(ls:LI):ex Tryz.prog (Gi gl) (Jv gl) 43 eD .d (Qj [0,1,3,5]) ⟨[(0, .cst (Cf l)),(1, .rptr v),(3,vl ls)],[],[]⟩=some (0,⟨[(0, .cst (Cf l)),(1, .rptr (QS [] v)),(3,vl ls),(5,vi 0)],[],[]⟩):=C7
theorem nW(gl:List (Nat×List Value))(l:Nat)(a f h:Int)(b:LX)(ls:LI):ex Tryz.prog (Gi gl) (Jv gl) 43 dA .d (Qj [0,1,5,21,22,23]) ⟨[(0, .cst (Cf l)),(1, .rptr (Dm a f h b)),(3,vl ls),(5,vi 0)],[],[]⟩=
    some (0,⟨Mt (Cf l) (Dm a f h b) ls 0 0,[],[]⟩):=C7
theorem mC(gl:List (Nat×List Value))(l:Nat)(a f h:Int)(b:LX)(ls:LI)(i x:Int):ex Tryz.prog (Gi gl) (Jv gl) 43 eV .d (Qj [0,1,5,21,22,23,24]) ⟨Mt (Cf l) (Dm a f h b) ls i x,[],[]⟩=
    some (0,⟨Mt (Cf l) (Dm a f h b) ls i x++[(24,vt (Ci i (Aa ls)))],[],[]⟩):=C7
theorem eK(gl:List (Nat×List Value))(l:Nat)(a f h:Int)(b:LX)(ls:LI)(i x:Int)(t:Bool):ex Tryz.prog (Gi gl) (Jv gl) 43 dJ .d (Qj [0,1,5,21,22,23]) ⟨Mt (Cf l) (Dm a f h b) ls i x++[(24,vt t)],[],[]⟩=
    if t=true then some (0,⟨Mt (Cf l) (Dm a f h b) ls i x,[],[]⟩)else some (2,⟨Mt (Cf l) (Dm a f h b) ls i x,[],[]⟩):=C7
theorem nA(gl:List (Nat×List Value))(l:Nat)(a f h:Int)(b:LX)(ls:LI)(i x:Int):ex Tryz.prog (Gi gl) (Jv gl) 43 fE .d (Qj [0,1,5,7,21,22,23]) ⟨Mt (Cf l) (Dm a f h b) ls i x,[],[]⟩=
    Option.bind (Ak ls i) λn=>some (0,⟨[(0, .cst (Cf l)),(1, .rptr (Dm a f h b)),(5,vi x),(7,vi n),(21,vl ls),(22,vi (Aa ls)),(23,vi i)],[],[]⟩):=C7
theorem oA(gl:List (Nat×List Value))(l:Nat)(a f h:Int)(b:LX)(ls:LI)(i x n:Int):ex Tryz.prog (Gi gl) (Jv gl) 43 dW .d (Qj [0,1,5,8,21,22,23]) ⟨[(0, .cst (Cf l)),(1, .rptr (Dm a f h b)),(5,vi x),(7,vi n),(21,vl ls),(22,vi (Aa ls)),(23,vi i)],[],[]⟩=
    some (0,⟨[(0, .cst (Cf l)),(1, .rptr (Dm a f h b)),(5,vi x),(8,vi (Ad x (Db n a))),(21,vl ls),(22,vi (Aa ls)),(23,vi i)],[],[]⟩):=C7
abbrev fD(y:Value)(v:PV)(ls:LI)(i x z:Int)(p:LX):Slots:=[(0, .cst y),(1, .rptr v),(5,vi x),(8,vi z),(21,vl ls),(22,vi (Aa ls)),(23,vi i),(33, .cst y),(38,vw p)]
theorem oF(gl:List (Nat×List Value))(l:Nat)(a f h:Int)(b:LX)(ls:LI)(i x z:Int):ED Tryz.prog (Gi gl) (Jv gl) 43 (FE++Tm::[Zo]).toArray FE ⟨[(0, .cst (Cf l)),(1, .rptr (Dm a f h b)),(5,vi x),(8,vi z),(21,vl ls),(22,vi (Aa ls)),(23,vi i)],[],[]⟩ (lZ [0,1,5,8,21,22,23,33,38] [] 0)=
    Option.bind (Ck b x z) λp=>some (0,⟨fD (Cf l) (Dm a f h b) ls i x z p,[],[]⟩):=C7
theorem oB(gl:List (Nat×List Value))(l:Nat)(a f h:Int)(b:LX)(ls:LI)(i x z:Int)(p:LX)(t:Bool):ED Tryz.prog (Gi gl) (Jv gl) 43 (FE++Tm::[Zo]).toArray [Zo] ⟨gD (fD (Cf l) (Dm a f h b) ls i x z p) 39 (vt t),[],[]⟩ (lZ [0,1,5,8,21,22,23,40] [] 0)=
    some (0,⟨[(0, .cst (Cf l)),(1, .rptr (Dm a f h b)),(5,vi x),(8,vi z),(21,vl ls),(22,vi (Aa ls)),(23,vi i),(40,vt (!t))],[],[]⟩):=C7
theorem mQ(gl:List (Nat×List Value))(l:Nat)(a f h:Int)(b:LX)(ls:LI)(i x z:Int)(t:Bool):ex Tryz.prog (Gi gl) (Jv gl) 43 WK .d (Qj [0,1,5,8,21,22,23]) ⟨[(0, .cst (Cf l)),(1, .rptr (Dm a f h b)),(5,vi x),(8,vi z),(21,vl ls),(22,vi (Aa ls)),(23,vi i),(40,vt t)],[],[]⟩=
    if t=true then some (1,⟨[(0, .cst (Cf l)),(1, .rptr (Dm a f h b)),(5,vi x),(8,vi z),(21,vl ls),(22,vi (Aa ls)),(23,vi i)],[],[]⟩)else some (0,⟨[(0, .cst (Cf l)),(1, .rptr (Dm a f h b)),(5,vi x),(8,vi z),(21,vl ls),(22,vi (Aa ls)),(23,vi i)],[],[]⟩):=C7
theorem mK(gl:List (Nat×List Value))(l:Nat)(a f h:Int)(b:LX)(ls:LI)(i x z:Int):ex Tryz.prog (Gi gl) (Jv gl) 43 eQ .d (Qj [0,1,5,21,22,23]) ⟨[(0, .cst (Cf l)),(1, .rptr (Dm a f h b)),(5,vi x),(8,vi z),(21,vl ls),(22,vi (Aa ls)),(23,vi i)],[],[]⟩=
    some (0,⟨Mt (Cf l) (Dm a f h b) ls i z,[],[]⟩):=C7
theorem oP(gl:List (Nat×List Value))(l:Nat)(a f h:Int)(b:LX)(ls:LI)(i x:Int):ex Tryz.prog (Gi gl) (Jv gl) 43 dF .d (Qj [0,1,5,21,22,23]) ⟨Mt (Cf l) (Dm a f h b) ls i x,[],[]⟩=
    some (0,⟨Mt (Cf l) (Dm a f h b) ls (Ad i 1) x,[],[]⟩):=C7
theorem kI:ED Tryz.prog ⟨[],[],false,false⟩ (Jq Tryz.prog ⟨[],[],false,false⟩ 8 []) 43 (FE++Tm::[Zo]).toArray [Zo] ⟨[(39,vt false)],[],[]⟩ (lZ [40] [] 0)=some (0,⟨[(40,vt true)],[],[]⟩):=C7
theorem jH:ex Tryz.prog ⟨[],[],false,false⟩ (Jq Tryz.prog ⟨[],[],false,false⟩ 8 []) 43 WK .d (Qj []) ⟨[(40,vt true)],[],[]⟩=some (1,⟨[],[],[]⟩):=C7
theorem jD{i:Nat}(h:i<17179869184):Ad (i:Int) 1=((i+1:Nat):Int):=by
  rw[show Ad (i:Int) 1=Go.Lv.wrap64 ((i:Int)+1)from rfl,Go.Lv.Jt C8 C8];omega
def PG:PV->Option (List LX)
  | .agg [.val (.int .i64) a, .val (.int .i64) _, .val (.int .i64) h, .val (.list (.int .i32)) b]=>Yc a h b
  |_=>none
theorem bQ{v:PV}{xs:List LX}(h:PG v=some xs):∃a f r b,v=Dm a f r b/\Yc a r b=some xs:=by
  unfold PG at h;split at h
  · exact⟨_,_,_,_,rfl,h⟩
  · cases h
theorem Ul{a:Int}{b:LX}{n:Int}{l:LI}{x:Int}{ps:List LX}(h:Gv a b (n::l) x=some ps):∃p r,Ck b x (Ad x (Db n a))=some p/\Gv a b l (Ad x (Db n a))=some r/\ps=p::r:=by
  simp only[Gv]at h;obtain⟨p,h1,h⟩:=Go.Lv.bind_some h;obtain⟨r,h2,h⟩:=Go.Lv.bind_some h;cases h;exact⟨p,r,h1,h2,rfl⟩
theorem Yb{a:Int}{b:LX}:∀{l:LI} {x:Int} {ps:List LX},Gv a b l x=some ps->ps.length=l.length
  |[],x,ps,h=>by simp only[Gv,Option.some.injEq]at h;subst h;rfl
  |n::l,x,ps,h=>by
    obtain⟨p,r,_,h2,rfl⟩:=Ul h;simp[Yb h2]
theorem iB{gl:List (Nat×List Value)}(hC:ConOk Tryz.prog gl 117 MJ)(hE:Ent Tryz.prog 136):ItOk Tryz.prog gl 136 ⟨34, .list (.int .i32),PG⟩:=by
  refine⟨hE,λm B w b v cells xs hB hb hcell henc hgl hF=>?_⟩;have hF:PG v=some xs:=hF;obtain⟨a,f,h,s,rfl,hF⟩:=bQ hF;have hM:Tryz.prog.follows .mixedOrders=true:=C7
  have hT:Jk Tryz.prog (Gi gl):= .cons hC .nil;have hI:∀{R:Type},Iq (R:=R) Tryz.prog (Gi gl).gl (Jv gl):=EL hM hT aW.nil 8;unfold Yc at hF;obtain⟨u0,hok,hF⟩:=Go.Lv.bind_some hF;obtain⟨p0,hall,hF⟩:=Go.Lv.bind_some hF;obtain⟨u1,hlim,hF⟩:=Go.Lv.bind_some hF;have hlim:p0.1.length<=17179869184:=by
    unfold Dt at hlim;split at hlim
    · rename_i h;have h':=of_decide_eq_true h;unfold Aa at h';omega
    · cases hlim
  have hlen:=Yb hF;intro l J Jx W hk hJ hJx hY h0;refine callsIn_of_wp_marks Tryz.func136 gN trivial ?_ rfl;have iF:∀i V X Y,J i V X->KeepN (λ_=>True) X Y->J i (grown V X Y) Y:=λi V X Y h k=>hJ i V X Y h k;have hbW:W.heap[b]? =some (.cells cells.toArray 34 (0,0)):=(hk.same b (hB b hb) trivial).trans hcell;have hm0:MemI gl B W ⟨[(0, .cst (Cf l)),(1, .rptr (Dm a f h s))],[],[]⟩ (AL [Cf l, .pointer (some ⟨b,0,none⟩)]):=by
    refine⟨λk hk'=>Nat.lt_of_lt_of_le (hB k hk') hk.gr.le,rfl,rfl,λp hp=>?_,hgl.keep (λ_ h=>h) (λk hk'=>hk.same k (hB k hk') trivial) hk.gr⟩;rcases List.mem_cons.1 hp with rfl|hp
    · exact(show _/\ _ from⟨rfl,rfl⟩)
    rcases List.mem_cons.1 hp with rfl|hp
    · exact⟨_,cells,rfl,⟨b,0,cells.toArray,_,_,rfl,hb,hbW,λi _=>by simp⟩,Al.step (λ_ h=>h) (λk hk'=>hk.same k (hB k hk') trivial) (.refl []) henc⟩
    · cases hp
  have ha0:=OA (fn:=Tryz.f136) (vs:=[Cf l, .pointer (some ⟨b,0,none⟩)]) C7;have e0:(#[Value.func (.yield l) #[] #[]]++ #[Value.pointer (some ⟨b,0,none⟩)]:Array Value)=[Cf l, .pointer (some ⟨b,0,none⟩)].toArray:=by simp
  rw[e0]
  revert ha0
  generalize({tmps:=_,defers:=[]}:Act)=xL;rw[oJ];intro ha0;refine CX hM hT hI (J:=J 0) (iF 0) .d [0,1,3] [⟨3,[], .ro (.int .i64)⟩] ((mF gl l a f h s).trans (by rw[hok,hall];rfl)) rfl hm0 h0 ha0 λσ1 V1 w1 a1 f1 j1 m1=>?_;refine CX hM hT hI (J:=J 0) (iF 0) .d [0,1,3,5] [] (nJ gl l _ p0.1) rfl m1 j1 f1 λσ2 V2 w2 a2 f2 j2 m2=>?_;refine CX hM hT hI (J:=J 0) (iF 0) .d [0,1,5,21,22,23] [] (nW gl l a f h s p0.1) rfl m2 j2 f2 λσ3 V3 w3 a3 f3 j3 m3=>?_;have fin:∀{σ:Env} {a':Act} {w':World},Fits [] 43 a' σ-> ((∃V,J xs.length V w')\/Jx w')->LeavesInM (wr none) m Tryz.prog Tryz.f136 a'.tmps (λe W'=>(∃v,e= .returned v)/\ ((∃V,J xs.length V W')\/Jx W')) a'.defers .returning w':=by
    intro σ a' w' hf hh;rw[hf.defers];exact⟨_,Pc (rs:=[]) (vs:=[]) C7 hf trivial,⟨_,rfl⟩,hh⟩
  refine wpIn_block (gP (p0.1.length+1) (λq a' w'=>∃(i:Nat) (x:Int) (V:Reg) (σ:Env),q+i=p0.1.length+1/\i<=p0.1.length/\Fits [] 43 a' σ/\J i V w'/\MemI gl V w' ⟨Mt (Cf l) (Dm a f h s) p0.1 (i:Int) x,[],[]⟩ σ/\Gv a s (p0.1.drop i) x=some (xs.drop i)) ?_ ?_
    ⟨0,0,V3,σ3,rfl,Nat.zero_le _,f3,j3,m3,hF⟩)
  · rintro a' w' ⟨i,x,V,σ,hq,hi,_⟩
    omega
  rintro q a' w' ⟨i,x,V,σ,hq,hi,hf,hj,hm,hp⟩;refine CX hM hT hI (J:=J i) (iF i) .d [0,1,5,21,22,23,24] [] (mC gl l a f h s p0.1 i x) rfl hm hj hf λσ4 V4 w4 a4 f4 j4 m4=>?_;by_cases hlt:i<p0.1.length
  · have hg:Ci (i:Int) (Aa p0.1)=true:=by simp[Ci,Aa,GI.toZ];exact hlt
    rw[hg]at m4;refine CX hM hT hI (J:=J i) (iF i) .d [0,1,5,21,22,23] [] (eK gl l a f h s p0.1 i x true) rfl m4 j4 f4 λσ5 V5 w5 a5 f5 j5 m5=>?_;obtain⟨n,hn⟩:∃n,p0.1[i]? =some n:=⟨_,List.getElem?_eq_getElem hlt⟩;have hgn:Go.Lv.Ak p0.1 (i:Int)=some n:=by simp[Go.Lv.Ak,hn]
    have hd:p0.1.drop i=n::p0.1.drop (i+1):=by rw[List.drop_eq_getElem_cons hlt];congr 1;rw[List.getElem?_eq_getElem hlt]at hn;exact Option.some.inj hn
    rw[hd]at hp;obtain⟨p,r,hcut,hp',hxs⟩:=Ul hp;have hi':i<xs.length:=C8
    have hx:xs[i]? =some p:=by
      have:=congrArg List.head? hxs;rw[List.head?_drop]at this;exact this
    have hr:xs.drop (i+1)=r:=by
      have:=congrArg List.tail hxs;rw[List.tail_drop]at this;exact this
    refine wpIn_seq (wpIn_block ?_);refine CX hM hT hI (J:=J i) (iF i) .d [0,1,5,7,21,22,23] [] ((nA gl l a f h s p0.1 i x).trans (by rw[hgn];rfl)) rfl m5 j5 f5 λσ6 V6 w6 a6 f6 j6 m6=>?_;refine CX hM hT hI (J:=J i) (iF i) .d [0,1,5,8,21,22,23] [] (oA gl l a f h s p0.1 i x n) rfl m6 j6 f6 λσ7 V7 w7 a7 f7 j7 m7=>?_;refine wpIn_seq (wpIn_seq (wpIn_region_lit ?_));refine UY (T:=Gi gl) hT hI (J:=J i) (iF i) [0,1,5,8,21,22,23,33,38] C7 ((oF gl l a f h s p0.1 i x (Ad x (Db n a))).trans (by rw[hcut];rfl)) rfl m7 j7 f7 λσ8 V8 w8 a8 f8 j8 m8=>?_;have v33:σ8 33=Cf l:=by
      have:=m8.val (t:=33) (p:= .cst (Cf l)) D1 rfl;exact(show [σ8 33]=[Cf l]/\ _ from this).1|>List.head_eq_of_cons_eq
    have v38:Cz V8 w8 [] (vw p) (σ8 38):=(Ta rfl).1 (m8.val (t:=38) (p:=vw p) D1 rfl);refine jX jL kP D0 (λc hc=>by rw[YH]at hc;cases hc) (ZC YH v33 rfl) (hY i V8 w8 (σ8 38) hi' j8 (λx' hx'=>by rw[hx]at hx';cases hx';exact v38)) ?_ f8;rintro e w9 (⟨rfl,j9,hgr,hsame⟩|⟨rfl,jx⟩)
    · refine⟨_,rfl,λa9 f9=>?_⟩
      have m9:=(m8.round hgr hsame).set (d:=39) (p:=vt true) (v:= .bool true) rfl (show [Value.bool true]=[Value.bool true]from rfl);refine UY (T:=Gi gl) (l2:=[]) hT hI (J:=J (i+1)) (iF (i+1)) [0,1,5,8,21,22,23,40] C7 (oB gl l a f h s p0.1 i x (Ad x (Db n a)) p true) rfl m9 j9 f9 λσb Vb wb ab fb jb mb=>?_;refine wpIn_mono (Zn hM hT hI (J:=J (i+1)) (iF (i+1)) (an:= .d) (lv:=[0,1,5,8,21,22,23]) (co:=[]) (mQ gl l a f h s p0.1 i x (Ad x (Db n a)) false) rfl mb jb fb) ?_;rintro e ac wc ⟨he,σc,Vc,fc,jc,mc⟩;cases e with
      |normal=>
        refine wpIn_mono (Zn hM hT hI (J:=J (i+1)) (iF (i+1)) (an:= .d) (lv:=[0,1,5,21,22,23]) (co:=[]) (mK gl l a f h s p0.1 i x (Ad x (Db n a))) rfl mc jc fc) ?_;rintro e ad wd ⟨he,σd,Vd,fd,jd,md⟩;cases e with
        |normal=>
          refine wpIn_mono (Zn hM hT hI (J:=J (i+1)) (iF (i+1)) (an:= .d) (lv:=[0,1,5,21,22,23]) (co:=[]) (oP gl l a f h s p0.1 i (Ad x (Db n a))) rfl md jd fd) ?_;rintro e ae we ⟨he,σe,Ve,fe,je,me⟩;cases e with
          |normal=>
            have hadd:Ad (i:Int) 1=((i+1:Nat):Int):=jD C8;rw[hadd]at me;exact⟨i+1,_,Ve,σe,C8,C8,fe,je,me,by rw[hr];exact hp'⟩
          |ret=>simp[CZ]at he
          |exit id=>simp[CZ]at he
          |goto l=>cases he
          |panic c=>cases he
          |outgrown=>cases he
        |ret=>simp[CZ]at he
        |exit id=>simp[CZ]at he
        |goto l=>cases he
        |panic c=>cases he
        |outgrown=>cases he
      |ret=>simp[CZ]at he
      |exit id=>simp[CZ]at he
      |goto l=>cases he
      |panic c=>cases he
      |outgrown=>cases he
    · refine⟨_,rfl,λa9 f9=>?_⟩
      have hT0:Jk Tryz.prog ⟨[],[],false,false⟩:= .nil;have hI0:∀{R:Type},Iq (R:=R) Tryz.prog [] (Jq Tryz.prog ⟨[],[],false,false⟩ 8 []):=EL hM hT0 aW.nil 8;have m9:MemI [] (λ_=>False) w9 ⟨[(39,vt false)],[],[]⟩ (Gf σ8 39 (.bool false)):=⟨λ_ h=>h.elim,rfl,rfl,(λp hp=>by
        rcases List.mem_cons.1 hp with rfl|hp
        · exact Cu.put rfl (show [Value.bool false]=[Value.bool false]from rfl)
        · cases hp),λp hp=>by cases hp⟩
      refine UY (T:=⟨[],[],false,false⟩) (l2:=[]) hT0 hI0 (J:=λ_ W=>Jx W) (λ_ X Y h k=>hJx X Y h k) [40] C7 kI rfl m9 jx f9 λσb Vb wb ab fb jb mb=>?_;refine wpIn_mono (Zn (T:=⟨[],[],false,false⟩) hM hT0 hI0 (J:=λ_ W=>Jx W) (λ_ X Y h k=>hJx X Y h k) (an:= .d) (lv:=[]) (co:=[]) jH rfl mb jb fb) ?_;rintro e ac wc ⟨he,σc,Vc,fc,jc,mc⟩;cases e with
      |ret=>exact fin fc (.inr jc)
      |normal=>simp[CZ]at he
      |exit id=>simp[CZ]at he
      |goto l=>cases he
      |panic c=>cases he
      |outgrown=>cases he
  · have hi2:i=p0.1.length:=C8
    have hg:Ci (i:Int) (Aa p0.1)=false:=by subst hi2;simp[Ci,Aa,GI.toZ]
    rw[hg]at m4;refine wpIn_seq (wpIn_mono (Zn hM hT hI (J:=J i) (iF i) (an:= .d) (lv:=[0,1,5,21,22,23]) (co:=[]) (eK gl l a f h s p0.1 i x false) rfl m4 j4 f4) ?_);rintro e ac wc ⟨he,σc,Vc,fc,jc,mc⟩;cases e with
    |exit id=>
      obtain rfl:id=0:=by simpa [CZ]using he
      exact fin fc (.inl ⟨Vc,by rw[hlen,<-hi2];exact jc⟩)
    |ret=>simp[CZ]at he
    |normal=>simp[CZ]at he
    |goto l=>cases he
    |panic c=>cases he
    |outgrown=>cases he
abbrev QG:List Sh:=[.agg [.lf (.int .i64) none, .lf (.int .i64) none, .lf (.int .i64) none, .lf (.list (.int .i32)) none], .lf .str none]
abbrev Kv:List Sh:=[.lf (.list (.list (.int .u8))) (some 22), .lf (.int .i64) none]
noncomputable def aT:Con:=⟨[.agg [.lf (.int .i64) none, .lf (.int .i64) none, .lf (.int .i64) none, .lf (.list (.int .i32)) none]],[.lf (.int .i64) none],λx=>If x.1 x.2.1 x.2.2.1 x.2.2.2⟩
noncomputable def XT:Con:=⟨[.lf .str none],[.lf (.vec 16 (.int .i32)) none, .lf (.int .i64) none],Rv⟩
noncomputable def YE:Con:=⟨[.agg [.lf (.int .i64) none, .lf (.int .i64) none], .lf (.vec 16 (.int .i32)) none, .lf (.list (.int .i32)) none],[.lf (.list (.int .u8)) (some 5), .lf (.int .i64) none],λx=>Jf x.1 x.2.1 x.2.2.1 x.2.2.2⟩
noncomputable def aQ:Con:=⟨[.agg [.lf (.int .i64) none, .lf (.int .i64) none, .lf (.int .i64) none, .lf (.list (.int .i32)) none]],[.agg [.lf (.int .i64) none, .lf (.int .i64) none]],λx=>CJ x.1 x.2.1 x.2.2.1 x.2.2.2⟩
noncomputable def FJ(gl:List (Nat×List Value)):Tab:=⟨[(52,aT),(30,XT),(80,YE),(81,aQ)],gl,true,false⟩
noncomputable def aD:List (Nat×ItC):=[(136,⟨34, .list (.int .i32),PG⟩)]
noncomputable def QR:List (Nat×An):=[(79, .d)]
noncomputable abbrev eM{R:Type}(gl:List (Nat×List Value)):GH R:=Jq Tryz.prog (FJ gl) 8 QR
noncomputable def LK:An:= .loop [2,4,5,7,9] [⟨9,[], .own 22 (.list (.int .u8))⟩] .d
noncomputable def dK:An:= .seq .d (.seq .d (.seq .d (.seq .d (.seq .d (.seq (.seq .d (.blk LK)) .d)))))
noncomputable def mP:Code:=fB Tryz.f37
noncomputable def dG:Code:=cB (cB (cB (cB (cB mP))))
noncomputable def eO:Code:=cA (cB (cA dG))
noncomputable def gR:Code:=cB dG
def wT:Code->Code| .rangeFunc _ _ a _=>a|c=>c
def wF:Code->Code| .rangeFunc _ _ _ b=>b|c=>c
noncomputable def VT:K (Iz (Fv Kv)):={n:=AB Tryz.prog Kv Tryz.f37.results.toList,x:=λ_ _=>none,r:=AB Tryz.prog Kv Tryz.f37.results.toList}
noncomputable def dN(gl:List (Nat×List Value))(s:S):Option (Iz (Fv Kv)):=ex Tryz.prog (FJ gl) (eM gl) 45 gR .d VT s
noncomputable def fA(gl:List (Nat×List Value)):K (Iz (Fv Kv)):=⟨dN gl,λid s=>Bd (Nat.beq id 0) (dN gl s)<|VT.x id s,VT.r⟩
noncomputable def GD(gl:List (Nat×List Value)):List LX->S->Option (Iz (Fv Kv)):=qG LK (Yt Tryz.prog (FJ gl) (eM gl) 45 28 (wT eO) (wF eO) LK (fA gl) (.list (.int .i32))) (fA gl).n
def FY(a f h:Int)(b t:LX)(o:List LB):S:=⟨[(2, .ptr 0 []),(4, .ptr 1 []),(5, .ptr 2 []),(7, .ptr 3 []),(9, .ptr 4 [])],
  [.box 34 (.agg [vi a,vi f,vi h,vw b]), .box 76 .nils, .box 26 (vi 0), .box 64 (.val (.vec 16 (.int .i32)) t), .box 76 (.own 5), .arr 22 (.list (.int .u8)) o],[]⟩
theorem mV(gl:List (Nat×List Value))(a f h:Int)(b t:LX)(o:List LB):GD gl [] (FY a f h b t o)=some (o,(0:Int)):=C7
theorem nP(gl:List (Nat×List Value))(a f h:Int)(b t:LX)(o:List LB)(x:LX)(xs:List LX):GD gl (x::xs) (FY a f h b t o)=
    Option.bind (Jf a f t x) λy=>if(Bp y.2 0)=true then some ([],y.2)else Option.bind (Cd o [y.1]) λo'=>GD gl xs (FY a f h b t o'):=C7
theorem fC(gl:List (Nat×List Value))(a f h:Int)(b t:LX):∀(xs:List LX) (o:List LB),GD gl xs (FY a f h b t o)=Kk a f t xs o
  |[],o=>mV gl a f h b t o
  |x::xs,o=>by
    rw[nP,Kk];simp only[fC gl a f h b t xs];rfl
theorem iN(gl:List (Nat×List Value))(x:Iz (Fv QG)):nG Tryz.prog (FJ gl) QR aD Tryz.f37 dK QG Kv x=Wn x.1 x.2.1 x.2.2.1 x.2.2.2.1 x.2.2.2.2:=by
  refine Eq.trans (b:=Option.bind (If x.1 x.2.1 x.2.2.1 x.2.2.2.1) λe=>if(Bp e 0)=true then some ([],e)else Option.bind (Rv x.2.2.2.2) λt=>if(Bp t.2 0)=true then some ([],t.2)
    else Option.bind (Yc x.1 x.2.2.1 x.2.2.2.1) λxs=>GD gl xs (FY x.1 x.2.1 x.2.2.1 x.2.2.2.1 t.1 [])) C7 ?_
  simp only[fC];rfl
noncomputable def Qd:Con:=⟨QG,Kv,λx=>Wn x.1 x.2.1 x.2.2.1 x.2.2.2.1 x.2.2.2.2⟩
theorem OM{gl:List (Nat×List Value)}(tL:ConOk Tryz.prog gl 52 aT)(xM:ConOk Tryz.prog gl 30 XT)(xN:ConOk Tryz.prog gl 117 MJ)(xO:ConOk Tryz.prog gl 80 YE)(xP:ConOk Tryz.prog gl 81 aQ):
    ConOk Tryz.prog gl 37 Qd:=by
  have hE:∀{f:Nat} {fn:Func},Tryz.prog.funcs[f]? =some fn→(!(fn.name== "runtime.NumGoroutine")&&fn.body.isSome)=true→Ent Tryz.prog f:=by
    intro f fn hf hb;simp only[Bool.and_eq_true,Bool.not_eq_true']at hb;obtain⟨c,hc⟩:=Option.isSome_iff_exists.1 hb.2;exact Ent.mk hf hb.1 hc
  refine YT (T:=FJ gl) (its:=aD) (ans:=QR) (an:=dK) C7 Tryz.func37 (hE Tryz.func37 C7) (.cons tL (.cons xM (.cons xO (.cons xP .nil)))) (aW.cons (hE Tryz.func79 C7) aW.nil) ?_ C7 (iN gl);intro p hp;rcases List.mem_cons.1 hp with rfl|hp
  · exact iB xN (hE Tryz.func136 C7)
  · cases hp
theorem RW{W W':World}(h:KeepN (λ_=>True) W W'):W.grownBy W' none:=⟨h.gr.os,h.gr.tape,h.gr.output,h.gr.le,λk hk _=>h.same k hk trivial⟩
theorem ZK{F:Fence}{n:Nat}{P:Program}{Q:Exit->Act->World->Prop}{a:Act}{w:World}{c:Code}(m:Nat)(I:Nat->Act->World->Prop)(h0:∀a w,¬I 0 a w)
    (hs:∀q a w,I (q+1) a w->c.wpIn F n P (Exit.then (I q) Q) a w) (h:I m a w):(Code.loop c).wpIn F n P Q a w:=by
  refine wpIn_loop_rounds m ?_
  induction m generalizing a w with
  |zero=>exact absurd h (h0 a w)
  |succ m ih=>
    rw[roundsIn_succ];refine wpIn_mono (hs m a w h) λe a' w' hh=>?_;cases e<;>first|exact ih hh|exact hh
theorem sS{α:Type}{c:Prop} [Decidable c]{a b y:α}(h:(if c then a else b)=y)(hc:¬c):b=y:=by rw[if_neg hc]at h;exact h
theorem nR{A:Reg}{w:World}{v:Value}{k:Kd}{l y:List k.T}{a:Int}(h:Ae A w (.list (.int k)) l [v])(hc:Ck l a (Aa l)=some y):
    ∃(p:Option Addr) (len cap m:Nat),v= .slice p len cap/\a=(m:Int)/\m<=len/\len<=cap/\Ae A w (.list (.int k)) y [.slice (if cap=m then p else p.map (·.add m)) (len-m) (cap-m)]:=by
  obtain⟨v1,c0,e1,h1,h2⟩:=h;cases e1;obtain⟨p,len,cap,rfl,g1,g2,g3,g4⟩:=h1;obtain⟨k1,k2,k3,k4,rfl⟩:=Md hc;simp only[ET.size,Nat.mul_one]at g1 g4;have hll:=h2.len (z:=1) λx c h=>by rw[show c=_ from h];rfl
  have hln:l.length=len:=C8
  have hto:(Aa l).toNat=len:=by simp[Aa,hln]
  rw[hto]at k3⊢;refine⟨p,len,cap,a.toNat,rfl,k1,k3,g2,_,c0.drop a.toNat,rfl,⟨_,_,_,rfl,?_,C8,λhp=>?_,λhcap=>?_⟩,?_⟩
  · simp only[ET.size,List.length_drop];omega
  · split at hp
    · omega
    · rename_i hne
      cases p with
      |none=>have:=g3 rfl;omega
      |some a=>cases hp
  · rw[if_neg C8]
    obtain⟨b,off,arr,T,fr,rfl,e2,e3,e4,e5⟩:=g4 C8;refine⟨b,off+a.toNat,arr,T,fr,by simp[Addr.add],e2,e3,by simp only[ET.size];omega,λi hi=>?_⟩;simp only[ET.size]at hi;rw[List.getElem?_drop,<-e5 (a.toNat+i) C8,Nat.add_assoc]
  · have:=As.drop (z:=1) (λx c h=>by rw[show c=_ from h];rfl) a.toNat h2
    rw[Nat.mul_one]at this;rw[List.take_of_length_le C8];exact this
theorem rU{P:Program}{f:Nat}{gl:List (Nat×List Value)}{F:List UInt8->Option (Int×Int)}(hC:ConOk P gl f ⟨[.lf (.list (.int .u8)) none],[.lf (.int .i64) none, .lf (.int .i64) none],F⟩){A:Reg}{W:World}{v:Value}{s:List UInt8}{r:Int×Int}
    (hv:Ae A W (.list (.int .u8)) s [v]) (hgl:GlOk gl A W) (h:F s=some r):Calls P f #[v] W λe W'=>e= .returned (.tuple #[.int .i64 r.1, .int .i64 r.2])/\KeepN (λ_=>True) W W':=by
  have hv':Ae (λ_=>True/\True) W (.list (.int .u8)) s [v]:=Ae.step (λ_ _=>⟨trivial,trivial⟩) (λ_ _=>rfl) hv;refine(hC.ok (λ_=>True) (λ_=>True) W [] [v] [.val (.list (.int .u8)) s] s r rfl rfl (λi a m _ h=>by simp at h) trivial ⟨v,[],rfl,hv',rfl⟩ (λp hp=>⟨(hgl p hp).1,trivial,(hgl p hp).2.2⟩) h).mono ?_;rintro e w' ⟨us,rfl,hk,A1,L1,g1,g2,g3⟩;obtain⟨ps,its,k1,k2,k3,k4,k5⟩:=g3 ⟨[],[],[]⟩ [] (λ_=>True) rfl (λ_ _=>trivial) (λ_ _ _=>trivial);refine⟨?_,hk⟩;obtain rfl:=Option.some.inj (show some [PV.val (.int .i64) r.1,PV.val (.int .i64) r.2]=some ps from k2);obtain⟨_,_,rfl,e1,_,_,rfl,e2,rfl⟩:=k3;cases(show [_]=[Value.int .i64 r.1]from e1);cases(show [_]=[Value.int .i64 r.2]from e2);rfl
structure KpF (n₀ Bx:Nat) (A B:World):Prop where
  le:A.heap.size<=B.heap.size
  box:B.heap[Bx]? =A.heap[Bx]?
  old:∀k,k<n₀->B.heap[k]? =A.heap[k]?
def XQ(l:List (Int×Int)):Int:=l.foldl (λs x=>Ad s x.1) 0
def fin(y:Int×Int)(xs:List (Int×Int)):Prop:=(∃x∈xs,x.2≠0)\/y=(XQ xs,0)
def jY(y:Int×Int)(pre:List (Int×Int)):Prop:=∃p x,pre=p++[x]/\ (x.2≠0->y=(0,x.2))
theorem Tryz.rS:Tryz.f167.ntmps=35:=C7
theorem Tryz.wP:Tryz.prog.underlying 22=some (.slice 5):=C7
theorem Tryz.wD:Dh Tryz.prog 5 1:=Dh.mk C7
set_option maxHeartbeats 2000000 in
set_option maxRecDepth 100000 in
theorem mZ(n:Nat)(l Bx n₀:Nat)(v:Value)(b:List UInt8)(y:Int×Int)(J Jx:List (Int×Int)->World->Prop)(gl:List (Nat×List Value))
    (hC:ConOk Tryz.prog gl 168 ⟨[.lf (.list (.int .u8)) none],[.lf (.int .i64) none, .lf (.int .i64) none],Jr⟩)
    (hY:∀pre x W,J pre W->pre.length<Cq->YieldAt Fence.wide (n-1) Tryz.prog l #[.int .i64 x.1, .int .i64 x.2] W λe W'=>
      (e= .returned (.bool true)/\J (pre++[x]) W'/\KpF n₀ Bx W W')\/ (e= .returned (.bool false)/\Jx (pre++[x]) W'))
    (W0:World) (hJ:AbidesFrom W0.heap.size J) (cY:W0.heap[Bx]? =some (.cells #[v] 22 (0,0))) (hn:n₀<=W0.heap.size) (hv:Ae (λk=>k<n₀) W0 (.list (.int .u8)) b [v]) (hgl:GlOk gl (λk=>k<n₀) W0)
    (h0:J [] W0) (hy:Ku b=some y):
    CallsIn Fence.wide n Tryz.prog 167 #[.func (.yield l) #[] #[], .pointer (some ⟨Bx,0,none⟩)] W0 λe W'=>(∃v,e= .returned v)/\ ((∃ys,fin y ys/\J ys W')\/ (∃pre,jY y pre/\Jx pre W')):=by
  refine callsIn_of_wp Tryz.func167 rfl trivial ?_ rfl;simp only[Tryz.rS,List.size_toArray,List.length_cons,List.length_nil,Nat.reduceAdd,Nat.reduceSub,Array.replicate_succ,Array.replicate_zero,List.push_toArray,List.append_toArray,List.nil_append,List.cons_append]
  gi_wp2
  refine ZK Cq (λq a W=>∃(pre:List (Int×Int)) (x:Int) (v2 v4 v5 v6 v7 v8 v9 v10 v11 v12 v13 v14 v15 v16 v17 v18 v19 v20 v21 v22 v23 v24 v25 v26 v27 v28 v29 v30 v31 v32 v33 v34:Value),a={tmps:= #[.func (.yield l) #[] #[], .pointer (some ⟨Bx,0,none⟩),v2, .int .i64 x,v4,v5,v6,v7,v8,v9,v10,v11,v12,v13,v14,v15,v16,v17,v18,v19,v20,v21,v22,v23,v24,v25,v26,v27,v28,v29,v30,v31,v32,v33,v34],defers:=[]}/\Kh b q x=some y/\XQ pre=x/\pre.length+q=Cq/\J pre W/\KpF n₀ Bx W0 W/\W0.heap.size<=W.heap.size) ?_ ?_ ?_
  · rintro a W ⟨pre,x,v2,v4,v5,v6,v7,v8,v9,v10,v11,v12,v13,v14,v15,v16,v17,v18,v19,v20,v21,v22,v23,v24,v25,v26,v27,v28,v29,v30,v31,v32,v33,v34,_,h,_⟩
    cases h
  · rintro q a W ⟨pre,x,v2,v4,v5,v6,v7,v8,v9,v10,v11,v12,v13,v14,v15,v16,v17,v18,v19,v20,v21,v22,v23,v24,v25,v26,v27,v28,v29,v30,v31,v32,v33,v34,rfl,h,hx,hl,xQ,hk,hs⟩
    simp only[Kh]at h;obtain⟨s,hcut,h⟩:=Go.Lv.bind_some h;obtain⟨r,hsz,h⟩:=Go.Lv.bind_some h;have xR:Ae (λk=>k<n₀) W (.list (.int .u8)) b [v]:=Ae.step (λ_ h=>h) (λk hk'=>hk.old k hk') hv;obtain⟨p,len,cap,m,rfl,rfl,hm,hlc,hsv⟩:=nR (k:= .u8) xR hcut;have hc:W.cell? ⟨Bx,0,none⟩=some (.slice p len cap):=by
      have:=hk.box;simp only[World.cell?,this,cY];rfl
    have hu:=Tryz.wP;have hz:=Tryz.wD;obtain⟨k,e⟩:=r;have e1:geq e 6=(e==6):=rfl;have e2:geq e 0=(e==0):=rfl;have e3:Ad (m:Int) k=RowKit.wrap64 (m+k):=by
      simp only[Ad,GI.ofZ,GI.toZ,Go.Lv.wrap64,RowKit.wrap64];exact IntKind.wrap_i64 _
    have e4:Eo (RowKit.wrap64 (m+k)) 4000=decide (4000<RowKit.wrap64 (m+k)):=rfl;have e5:Bp e 0=(e !=0):=rfl;rw[e1,e2,e3,e4,e5]at h;have hp:=h;have hgW:GlOk gl (λk=>k<n₀) W:=λp hp=>⟨Nat.lt_of_lt_of_le (hgl p hp).1 hs,(hgl p hp).2.1,by rw[hk.old _ (hgl p hp).2.1];exact(hgl p hp).2.2⟩;have hcall:∀v',Ae (λk=>k<n₀) W (.list (.int .u8)) s [v']->CallsIn Fence.wide (n-1) Tryz.prog 168 #[v'] W λe0 W'=>e0= .returned (.tuple #[.int .i64 k, .int .i64 e])/\KeepN (λ_=>True) W W':=
      λv' hv'=>callsIn_wide.2 (rU hC hv' hgW hsz)
    have hsm:∀z:Int,XQ (pre++[(k,z)])=RowKit.wrap64 (m+k):=λz=>by rw[<-e3,<-hx];simp[XQ]
    have hlt:Bx<W.heap.size:=Nat.lt_of_lt_of_le (Array.getElem?_eq_some_iff.1 cY).1 hs
    gi_wp2
    all_goals
      refine⟨trivial,(λh=>nomatch h),(hcall _ (by first|(rw[if_neg (by assumption)]at hsv;exact hsv)|(simpa [*]using hsv))).mono ?_⟩;rintro e0 W1 ⟨rfl,hk1⟩;have hJ2:=hJ pre W W1 none xQ (RW hk1) (λr e=>by cases e);have hyl:∀e',YieldAt Fence.wide (n-1) Tryz.prog l #[Value.int IntKind.i64 k,Value.int IntKind.i64 e'] W1 _:=λe'=>hY pre (k,e') W1 hJ2 C8
      gi_wp2
      · rename_i h6
        rw[if_pos h6]at hp;refine bodyPost_ret (results_none rfl _ _ _) rfl ?_;exact⟨⟨_,rfl⟩, .inl ⟨pre, .inr (by rw[hx];cases hp;rfl),hJ2⟩⟩
      · obtain⟨fn,tmps,assign,body,hy1,hR⟩:=hyl 4
        rw[hy1]
        gi_wp2
        refine⟨(λh=>nomatch h),hR.mono ?_⟩;rintro e3 W3 (⟨rfl,hJ3,hk3⟩|⟨rfl,hJx3⟩)
        · gi_wp2
          refine bodyPost_ret (results_none rfl _ _ _) rfl ?_;exact⟨⟨_,rfl⟩, .inl ⟨pre++[(k,4)], .inl ⟨(k,4),D1,D1⟩,hJ3⟩⟩
        · gi_wp2
          refine bodyPost_ret (results_none rfl _ _ _) rfl ?_;refine⟨⟨_,rfl⟩, .inr ⟨pre++[(k,4)],⟨pre,(k,4),rfl,λhne=>?_⟩,hJx3⟩⟩;simp at hne
          all_goals simp_all
      · obtain⟨fn,tmps,assign,body,hy1,hR⟩:=hyl 0
        rw[hy1]
        gi_wp2
        refine⟨(λh=>nomatch h),hR.mono ?_⟩;rintro e3 W3 (⟨rfl,hJ3,hk3⟩|⟨rfl,hJx3⟩)
        · gi_wp2
          refine⟨pre++[(k,0)],_,_,_,_,_,_,_,_,_,_,_,_,_,_,_,_,_,_,_,_,_,_,_,_,_,_,_,_,_,_,_,_,_,rfl,?_,‹∀z:Int,XQ (pre++[(k,z)])=RowKit.wrap64 ((m:Int)+k)› 0,by simp;omega,hJ3,⟨?_,?_,?_⟩,?_⟩
          · simp_all
            exact sS (by assumption) C8
          · exact Nat.le_trans hk.le (Nat.le_trans hk1.gr.le hk3.le)
          · exact hk3.box.trans ((hk1.same _ ‹Bx<W.heap.size› trivial).trans hk.box)
          · exact λj hj=>(hk3.old j hj).trans ((hk1.same j (Nat.lt_of_lt_of_le hj (Nat.le_trans hn hs)) trivial).trans (hk.old j hj))
          · exact Nat.le_trans hs (Nat.le_trans hk1.gr.le hk3.le)
        · gi_wp2
          refine bodyPost_ret (results_none rfl _ _ _) rfl ?_;exact⟨⟨_,rfl⟩, .inr ⟨pre++[(k,0)],⟨pre,(k,0),rfl,λhne=>absurd rfl hne⟩,hJx3⟩⟩
      · obtain⟨fn,tmps,assign,body,hy1,hR⟩:=hyl e
        rw[hy1]
        gi_wp2
        refine⟨(λh=>nomatch h),hR.mono ?_⟩;rintro e3 W3 (⟨rfl,hJ3,hk3⟩|⟨rfl,hJx3⟩)
        · gi_wp2
          rename_i hne;refine bodyPost_ret (results_none rfl _ _ _) rfl ?_;exact⟨⟨_,rfl⟩, .inl ⟨pre++[(k,e)], .inl ⟨(k,e),D1,by simpa using hne⟩,hJ3⟩⟩
        · gi_wp2
          refine bodyPost_ret (results_none rfl _ _ _) rfl ?_;refine⟨⟨_,rfl⟩, .inr ⟨pre++[(k,e)],⟨pre,(k,e),rfl,λhne=>?_⟩,hJx3⟩⟩;simp at hne
          all_goals simp_all
  · exact⟨[],0,_,_,_,_,_,_,_,_,_,_,_,_,_,_,_,_,_,_,_,_,_,_,_,_,_,_,_,_,_,_,_,_,rfl,hy,rfl,D1,h0,⟨Nat.le_refl _,rfl,λ_ _=>rfl⟩,Nat.le_refl _⟩
theorem qF(n Bx n₀:Nat)(v:Value)(b:List UInt8)(y:Int×Int)(gl:List (Nat×List Value))
    (hC:ConOk Tryz.prog gl 168 ⟨[.lf (.list (.int .u8)) none],[.lf (.int .i64) none, .lf (.int .i64) none],Jr⟩)
    (w:World) (cY:w.heap[Bx]? =some (.cells #[v] 22 (0,0))) (hn:n₀<=w.heap.size) (hv:Ae (λk=>k<n₀) w (.list (.int .u8)) b [v]) (hgl:GlOk gl (λk=>k<n₀) w) (hy:Ku b=some y):
    SeqStopsK Fence.wide n Tryz.prog 167 #[.pointer (some ⟨Bx,0,none⟩)] (λx:Int×Int=> #[.int .i64 x.1, .int .i64 x.2]) (KpF n₀ Bx) (fin y) (jY y) Cq w:=by
  intro l J Jx W hW hJ hJx hY h0;have hlt:=(Array.getElem?_eq_some_iff.1 cY).1;have hb:∀k,k<n₀->W.heap[k]? =w.heap[k]? :=λk hk=>hW.block k (Nat.lt_of_lt_of_le hk hn);exact mZ n l Bx n₀ v b y J Jx gl hC hY W hJ ((hW.block Bx hlt).trans cY) (Nat.le_trans hn hW.size) (Ae.step (λ_ h=>h) hb hv)
    (λp hp=>⟨Nat.lt_of_lt_of_le (hgl p hp).1 hW.size,(hgl p hp).2.1,by rw[hb _ (hgl p hp).2.1];exact(hgl p hp).2.2⟩) h0 hy
theorem Vm{w W:World}{a:Addr}{v:Value}(h:KeepN (λ_=>True) w W)(ha:w.heap.size<=a.block):KeepN (λ_=>True) w (W.setCell a v):=by
  have hb:=(Below.refl w.heap.size W).setCell (p:=a) ha v;exact⟨λb hb' _=>(hb.block b hb').trans (h.same b hb' trivial),h.gr.trans ⟨hb.size,hb.os,hb.tape,hb.output⟩⟩
theorem heap_set{W:World}{a:Addr}{v:Value}{k:Nat}(h:k≠a.block):(W.setCell a v).heap[k]? =W.heap[k]? :=
  ((Below.refl (k+1) {W with heap:=W.heap}).block k C8▸(by
    show(W.heap.modify a.block _)[k]? =W.heap[k]?;rw[Array.getElem?_modify,if_neg (Ne.symm h)]))
theorem bA{W:World}{B:Nat}{v:Value}{t:TypeId}(h:W.heap[B]? =some (.cells #[v] t (0,0))):W.cell? ⟨B,0,none⟩=some v/\W.frozen? ⟨B,0,none⟩=false:=by
  constructor<;>simp[World.cell?,World.frozen?,h]
theorem DO(W:World)(v:Value)(t:TypeId):(W.alloc (.cells #[v] t)).cell? ⟨W.heap.size,0,none⟩=some v/\ (W.alloc (.cells #[v] t)).frozen? ⟨W.heap.size,0,none⟩=false:=bA (World.alloc_heap_new W _)
theorem Dp{W:World}{a:Addr}{v:Value}(o:Obj)(h:W.cell? a=some v):(W.alloc o).cell? a=some v:=cell_kept h (World.grownBy_alloc W o none) (λr e=>by cases e)
theorem Ez{W:World}{a:Addr}{v:Value}(o:Obj)(h:W.cell? a=some v)(hf:W.frozen? a=false):(W.alloc o).frozen? a=false:=(frozen_kept h (World.grownBy_alloc W o none) (λr e=>by cases e)).trans hf
theorem Tryz.sG:Tryz.f112.ntmps=4:=C7
theorem Tryz.uD:Tryz.f60.ntmps=18:=C7
set_option maxHeartbeats 1000000 in
set_option maxRecDepth 100000 in
theorem mS(n:Nat)(p:Option Addr)(len cap:Nat)(w:World):
    CallsIn Fence.wide n Tryz.prog 112 #[.slice p len cap] w λe w'=>e= .returned (.func (.func 167) #[] #[.pointer (some ⟨w.heap.size,0,none⟩)])/\w'=w.alloc (.cells #[.slice p len cap] 22):=by
  refine callsIn_of_wp Tryz.func112 rfl trivial ?_ rfl;simp only[Tryz.sG,List.size_toArray,List.length_cons,List.length_nil,Nat.reduceAdd,Nat.reduceSub,Array.replicate_succ,Array.replicate_zero,List.push_toArray,List.append_toArray,List.nil_append,List.cons_append]
  gi_wp2
  go_ret
  exact⟨rfl,rfl⟩
set_option maxHeartbeats 1000000 in
set_option maxRecDepth 100000 in
theorem iT(n:Nat)(h1:3<=n)(p:Option Addr)(len cap:Nat)(b:List UInt8)(y:Int×Int)(gl:List (Nat×List Value))
    (hC:ConOk Tryz.prog gl 168 ⟨[.lf (.list (.int .u8)) none],[.lf (.int .i64) none, .lf (.int .i64) none],Jr⟩)
    (w:World) (hv:Ae (λk=>k<w.heap.size) w (.list (.int .u8)) b [.slice p len cap]) (hgl:GlOk gl (λk=>k<w.heap.size) w) (hy:Ku b=some y):
    CallsIn Fence.wide n Tryz.prog 60 #[.slice p len cap] w λe w'=>e= .returned (.tuple #[.int .i64 y.1, .int .i64 y.2])/\KeepN (λ_=>True) w w':=by
  refine callsIn_of_wp_marks Tryz.func60 rfl trivial ?_ rfl;simp only[Tryz.uD,List.size_toArray,List.length_cons,List.length_nil,Nat.reduceAdd,Nat.reduceSub,Array.replicate_succ,Array.replicate_zero,List.push_toArray,List.append_toArray,List.nil_append,List.cons_append]
  gi_wp2
  refine⟨trivial,(λh=>nomatch h),(mS (n-1) _ _ _ _).mono ?_⟩;rintro e w' ⟨rfl,rfl⟩
  gi_wp2
  refine wpIn_rangeFunc_ownG (Kp:=KpF w.heap.size (w.heap.size+1+1+1)) rfl C8 (gf:=167) (lb:= #[.pointer (some ⟨w.heap.size+1+1+1,0,none⟩)]) rfl trivial (enters_of Tryz.func167 C7 rfl)
    (qF (n-1) (w.heap.size+1+1+1) w.heap.size (.slice p len cap) b y gl hC _ ?cY ?hn ?hv ?hgl hy)
    (λh k=>⟨Nat.le_trans h.le k.le,k.box.trans h.box,λj hj=>(k.old j hj).trans (h.old j hj)⟩) ?hKb (Below.refl _ _) (λ_=>rfl)
    (λpre W=>(∀x∈pre,x.2=0)/\ (W.cell? ⟨w.heap.size+1+1,0,none⟩=some (.int .i64 (XQ pre))/\W.frozen? ⟨w.heap.size+1+1,0,none⟩=false)/\
      (∃v,W.cell? ⟨w.heap.size,0,none⟩=some v/\W.frozen? ⟨w.heap.size,0,none⟩=false)/\ (∃v,W.cell? ⟨w.heap.size+1,0,none⟩=some v/\W.frozen? ⟨w.heap.size+1,0,none⟩=false)/\KeepN (λ_=>True) w W)
    (λc pre W=>c= .ret/\ (∃oR x,pre=oR++[x]/\x.2≠0/\W.cell? ⟨w.heap.size,0,none⟩=some (.int .i64 0)/\W.cell? ⟨w.heap.size+1,0,none⟩=some (.int .i64 x.2))/\KeepN (λ_=>True) w W)
    ?hI ?hIx ?h0
    (λx=>{tmps:= #[.slice p len cap,undef, .pointer (some ⟨w.heap.size,0,none⟩), .pointer (some ⟨w.heap.size+1,0,none⟩), .pointer (some ⟨w.heap.size+1+1,0,none⟩), .int .i64 x.1, .int .i64 x.2, .slice p len cap, .func (.func 167) #[] #[.pointer (some ⟨w.heap.size+1+1+1,0,none⟩)], .int .i64 x.1, .int .i64 x.2,undef,undef,undef,undef,undef,undef,undef],defers:=[]}) ?assign ?body ?done ?stop
  case assign=>
    intro l x W K hK
    gi_wp2
    exact hK
  case body=>
    rintro l pre x W ⟨hz,⟨hc,hf⟩,⟨v2,hc2,hf2⟩,⟨v3,hc3,hf3⟩,hk⟩ _
    gi_wp2
    · rename_i hx
      refine⟨(KeepsOthers.trans (KeepsOthers.setCell _ _ _) (KeepsOthers.setCell _ _ _)).from _,rfl,⟨pre,x,rfl,by simpa using hx,?_,?_⟩,Vm (Vm hk (Nat.le_refl _)) (Nat.le_succ _)⟩
      · refine(World.cell?_setCell_other _ _ _ _ D1).trans ?_
        exact World.cell?_setCell_same' _ _ _ (by rw[hc2];rfl)
      · refine World.cell?_setCell_same' _ _ _ ?_
        rw[World.cell?_setCell_other W ⟨w.heap.size,0,none⟩ ⟨w.heap.size+1,0,none⟩ _ D1,hc3];rfl
    · rename_i hx
      have hx0:x.2=0:=by simpa using hx
      refine⟨(KeepsOthers.setCell _ _ _).from _,⟨((Below.refl 0 W).setCell (p:=⟨w.heap.size+1+1,0,none⟩) (Nat.zero_le _) _).size,heap_set D1,λk hk'=>heap_set C9⟩,?_,⟨?_,by rw[World.frozen?_setCell];exact hf⟩,⟨v2,?_,by rw[World.frozen?_setCell];exact hf2⟩,⟨v3,?_,by rw[World.frozen?_setCell];exact hf3⟩,Vm hk C9⟩
      · intro z hz'
        rcases List.mem_append.1 hz' with h|h
        · exact hz z h
        · simp at h;subst h;exact hx0
      · have e:XQ (pre++[x])=RowKit.wrap64 (XQ pre+x.1):=by
          simp only[XQ,List.foldl_append,List.foldl_cons,List.foldl_nil,Ad,GI.ofZ,GI.toZ,Go.Lv.wrap64,RowKit.wrap64];exact IntKind.wrap_i64 _
        rw[e];exact World.cell?_setCell_same' _ _ _ (by rw[hc];rfl)
      · exact(World.cell?_setCell_other _ _ _ _ (by simp;try omega)).trans hc2
      · exact(World.cell?_setCell_other _ _ _ _ D1).trans hc3
  case done=>
    rintro D xs W hD hS ⟨hz,⟨hc,hf⟩,⟨v2,hc2,hf2⟩,⟨v3,hc3,hf3⟩,hk⟩ hK
    gi_wp2
    have hy':y=(XQ xs,0):=hS.elim (λ⟨x,hx,hne⟩=>absurd (hz x hx) hne) id;have hlen:w.heap.size+4<=D:=by simp only[World.size_alloc]at hD;omega
    have hK':=((KeepsOthers.setCell W ⟨w.heap.size,0,none⟩ (.int .i64 (XQ xs))).trans (KeepsOthers.setCell _ ⟨w.heap.size+1,0,none⟩ (.int .i64 0))).same D _ hK rfl;have hk2:=Vm (v:= .int .i64 0) (a:=⟨w.heap.size+1,0,none⟩) (Vm (v:= .int .i64 (XQ xs)) (a:=⟨w.heap.size,0,none⟩) hk (Nat.le_refl _)) (Nat.le_succ _);have d0:((W.setCell ⟨w.heap.size,0,none⟩ (.int .i64 (XQ xs))).setCell ⟨w.heap.size+1,0,none⟩ (.int .i64 0)).cell? ⟨w.heap.size,0,none⟩=some (.int .i64 (XQ xs)):=
      (World.cell?_setCell_other _ _ _ _ D1).trans (World.cell?_setCell_same' _ _ _ (by rw[hc2];rfl))
    have d1:((W.setCell ⟨w.heap.size,0,none⟩ (.int .i64 (XQ xs))).setCell ⟨w.heap.size+1,0,none⟩ (.int .i64 0)).cell? ⟨w.heap.size+1,0,none⟩=some (.int .i64 0):=
      World.cell?_setCell_same' _ _ _ (by rw[World.cell?_setCell_other W ⟨w.heap.size,0,none⟩ ⟨w.heap.size+1,0,none⟩ _ D1,hc3];rfl)
    refine⟨D1, .inl ⟨_,_,rfl,run_takeDeferred hK',?_⟩⟩;have hg:=grownBy_putObj' ((W.setCell ⟨w.heap.size,0,none⟩ (.int .i64 (XQ xs))).setCell ⟨w.heap.size+1,0,none⟩ (.int .i64 0)) D (.deferred none);have hr':∀r,some D=some r->∃o:Obj,((W.setCell ⟨w.heap.size,0,none⟩ (.int .i64 (XQ xs))).setCell ⟨w.heap.size+1,0,none⟩ (.int .i64 0)).heap[r]? =some o/\o.isCells=false:=λr e=>by cases e;exact⟨_,hK',rfl⟩
    have vH:=cell_kept d0 hg hr';have hc6:=cell_kept d1 hg hr';refine⟨.tuple #[.int .i64 (XQ xs), .int .i64 0],?_,by rw[hy'],?_⟩
    · simp[results,Tryz.f60,go_sem,vH,hc6]
    · refine⟨λb hb _=>(hg.block b (Nat.lt_of_lt_of_le hb hk2.gr.le) (λe=>?_)).trans (hk2.same b hb trivial),hk2.gr.trans ⟨hg.size,hg.os,hg.tape,hg.output⟩⟩
      cases e;omega
  case stop=>
    rintro D c pre W hD hS ⟨rfl,⟨oR,x,rfl,hx,hc2,hc3⟩,hk⟩ hK
    gi_wp2
    obtain⟨p1,x1,he,hy1⟩:=hS;have hy':y=(0,x.2):=by
      have:=List.append_inj' he rfl;cases this.2;exact hy1 hx
    have hlen:w.heap.size+4<=D:=by simp only[World.size_alloc]at hD;omega
    refine⟨D1, .inl ⟨_,_,rfl,run_takeDeferred hK,?_⟩⟩;have hg:=grownBy_putObj' W D (.deferred none);have hr':∀r,some D=some r->∃o:Obj,W.heap[r]? =some o/\o.isCells=false:=λr e=>by cases e;exact⟨_,hK,rfl⟩
    have vH:=cell_kept hc2 hg hr';have hc6:=cell_kept hc3 hg hr';refine⟨.tuple #[.int .i64 0, .int .i64 x.2],?_,by rw[hy'],?_⟩
    · simp[results,Tryz.f60,go_sem,vH,hc6]
    · refine⟨λb hb _=>(hg.block b (Nat.lt_of_lt_of_le hb hk.gr.le) (λe=>?_)).trans (hk.same b hb trivial),hk.gr.trans ⟨hg.size,hg.os,hg.tape,hg.output⟩⟩
      cases e;omega
  case cY=>
    have h:=World.alloc_heap_new (((w.alloc (.cells #[.int .i64 0] 3)).alloc (.cells #[.int .i64 0] 26)).alloc (.cells #[.int .i64 0] 3)) (.cells #[.slice p len cap] 22);simp only[World.size_alloc]at h;exact h
  case hn=>simp;omega
  case hI=>
    rintro s A B row ⟨hz,⟨hc,hf⟩,⟨v2,hc2,hf2⟩,⟨v3,hc3,hf3⟩,hk⟩ hg hr;have hr':∀r,row=some r->∃o:Obj,A.heap[r]? =some o/\o.isCells=false:=λr e=>(hr r e).2;refine⟨hz,⟨cell_kept hc hg hr',(frozen_kept hc hg hr').trans hf⟩,⟨v2,cell_kept hc2 hg hr',(frozen_kept hc2 hg hr').trans hf2⟩,⟨v3,cell_kept hc3 hg hr',(frozen_kept hc3 hg hr').trans hf3⟩,?_⟩;refine⟨λb hb _=>(hg.block b (Nat.lt_of_lt_of_le hb hk.gr.le) (λe=>?_)).trans (hk.same b hb trivial),hk.gr.trans ⟨hg.size,hg.os,hg.tape,hg.output⟩⟩;have:=(hr b e.symm).1;simp at this;omega
  case hIx=>
    rintro c s A B row ⟨hc,⟨oR,x,hs,hx,hc2,hc3⟩,hk⟩ hg hr;have hr':∀r,row=some r->∃o:Obj,A.heap[r]? =some o/\o.isCells=false:=λr e=>(hr r e).2;refine⟨hc,⟨oR,x,hs,hx,cell_kept hc2 hg hr',cell_kept hc3 hg hr'⟩,?_⟩;refine⟨λb hb _=>(hg.block b (Nat.lt_of_lt_of_le hb hk.gr.le) (λe=>?_)).trans (hk.same b hb trivial),hk.gr.trans ⟨hg.size,hg.os,hg.tape,hg.output⟩⟩;have:=(hr b e.symm).1;simp at this;omega
  case hKb=>
    intro W l o o' hl h _ _;have hlt:=(Array.getElem?_eq_some_iff.1 h).1;simp at hl;have hg:=grownBy_putObj' W l o';exact⟨hg.size,hg.block _ C8 (λe=>by cases e;omega),λk hk=>hg.block k C8 (λe=>by cases e;omega)⟩
  case hgl=>
    intro q hq;refine⟨by simp;have:=(hgl q hq).1;omega,(hgl q hq).2.1,?_⟩;have hb:=((((Below.refl w.heap.size w).alloc (Nat.le_refl _) (.cells #[.int .i64 0] 3)).alloc D1 (.cells #[.int .i64 0] 26)).alloc C9 (.cells #[.int .i64 0] 3)).alloc C9 (.cells #[.slice p len cap] 22);rw[hb.block _ (hgl q hq).1];exact(hgl q hq).2.2
  case hv=>
    have hb:=((((Below.refl w.heap.size w).alloc (Nat.le_refl _) (.cells #[.int .i64 0] 3)).alloc D1 (.cells #[.int .i64 0] 26)).alloc C9 (.cells #[.int .i64 0] 3)).alloc C9 (.cells #[.slice p len cap] 22);exact Ae.step (λ_ h=>h) (λk hk=>hb.block k hk) hv
  case h0=>
    have c0:=DO w (.int .i64 0) 3;have c1:=DO (w.alloc (.cells #[.int .i64 0] 3)) (.int .i64 0) 26;have c2:=DO ((w.alloc (.cells #[.int .i64 0] 3)).alloc (.cells #[.int .i64 0] 26)) (.int .i64 0) 3;simp only[World.size_alloc]at c1 c2;have hb:=((((Below.refl w.heap.size w).alloc (Nat.le_refl _) (.cells #[.int .i64 0] 3)).alloc D1 (.cells #[.int .i64 0] 26)).alloc C9 (.cells #[.int .i64 0] 3)).alloc C9 (.cells #[.slice p len cap] 22);exact⟨D1,⟨Dp _ c2.1,Ez _ c2.1 c2.2⟩,⟨_,Dp _ (Dp _ (Dp _ c0.1)),Ez _ (Dp _ (Dp _ c0.1)) (Ez _ (Dp _ c0.1) (Ez _ c0.1 c0.2))⟩,
      ⟨_,Dp _ (Dp _ c1.1),Ez _ (Dp _ c1.1) (Ez _ c1.1 c1.2)⟩,⟨λb hb' _=>hb.block b hb',⟨hb.size,hb.os,hb.tape,hb.output⟩⟩⟩
def Qv:Con:=⟨[.lf (.list (.int .u8)) none],[.lf (.int .i64) none, .lf (.int .i64) none],λx=>Ku x⟩
theorem PZ{gl:List (Nat×List Value)}(hE:Ent Tryz.prog 60)(hC:ConOk Tryz.prog gl 168 ⟨[.lf (.list (.int .u8)) none],[.lf (.int .i64) none, .lf (.int .i64) none],Jr⟩):ConOk Tryz.prog gl 60 Qv:=by
  refine⟨hE,?_⟩;intro R N w L0 vs ps x y hargs hlen hit Vh hvs hgl hy;obtain rfl:=Option.some.inj (show some [PV.val (.list (.int .u8)) x]=some ps from hargs);obtain⟨v,_,rfl,h1,rfl⟩:=hvs;have h2:Ae (λb=>R b/\N b) w (.list (.int .u8)) x [v]:=h1;have h3:=Ae.step (B':=λk=>k<w.heap.size) (λ_ h=>h.1) (λ_ _=>rfl) (Gj h2);obtain⟨p,len,cap,rfl⟩:∃p len cap,v= .slice p len cap:=by
    obtain⟨v1,c0,e1,⟨p,len,cap,rfl,_⟩,_⟩:=h2;cases e1;exact⟨_,_,_,rfl⟩
  refine(callsIn_wide.1 (iT 3 (Nat.le_refl _) p len cap x y gl hC w h3 (λq hq=>⟨(hgl q hq).1,(hgl q hq).1,(hgl q hq).2.2⟩) hy)).mono ?_;rintro e w' ⟨rfl,hk⟩;refine⟨[.int .i64 y.1, .int .i64 y.2],rfl,⟨λb hb _=>hk.same b hb trivial,hk.gr⟩,λ_=>False,[],λ_ h=>h.elim,?_,?_⟩
  · trivial
  · intro s L B' hl _ _
    refine⟨[.val (.int .i64) y.1, .val (.int .i64) y.2],[],(show s=⟨s.sl,s.it++[],s.st⟩ by simp),rfl,?_,rfl,λi a m h=>by simp at h⟩;exact⟨_,_,rfl,rfl,_,_,rfl,rfl,rfl⟩
abbrev iK:List Sh:=[.lf .str none, .lf (.list (.cons .str (.cons (.list (.int .u8)) .nil))) none]
abbrev jB:List Sh:=[.lf (.list (.int .u8)) (some 5), .lf (.int .i64) none]
def Tryz.fR:Go.Shelf.Ren:=⟨λ|178=>105|251=>163|252=>164|181=>207|184=>208|290=>209|324=>232|n=>n,λ|130=>254|9=>9|3=>3|75=>166|0=>0|93=>164|91=>162|131=>228|4=>4|37=>22|20=>20|80=>336|5=>5|n=>n,λ|14=>5|n=>n⟩
theorem Tryz.sN:Go.Proofs.LaysM.n178 Tryz.prog Tryz.fR:={
  mixed:=C7
  f178:=Tryz.func105.trans (congrArg some C7)
  f181:=Tryz.func207.trans (congrArg some C7)
  f184:=Tryz.func208.trans (congrArg some C7)
  f251:=Tryz.func163.trans (congrArg some C7)
  f252:=Tryz.func164.trans (congrArg some C7)
  f290:=Tryz.func209.trans (congrArg some C7)
  f324:=Tryz.func232.trans (congrArg some C7)
  t0:=Tryz.underlying0
  a0:=Tryz.isAgg0
  z0:=Tryz.sizeOf0
  v0:=Tryz.zeroValue0
  t3:=Tryz.underlying3
  a3:=Tryz.isAgg3
  z3:=Tryz.sizeOf3
  v3:=Tryz.zeroValue3
  t4:=Tryz.underlying4
  a4:=Tryz.isAgg4
  z4:=Tryz.sizeOf4
  v4:=Tryz.zeroValue4
  t9:=Tryz.underlying9
  a9:=Tryz.isAgg9
  z9:=Tryz.sizeOf9
  v9:=Tryz.zeroValue9
  t20:=Tryz.underlying20
  a20:=Tryz.isAgg20
  z20:=Tryz.sizeOf20
  v20:=Tryz.zeroValue20
  t37:=Tryz.underlying22
  a37:=Tryz.isAgg22
  z37:=Tryz.sizeOf22
  v37:=Tryz.zeroValue22
  t75:=Tryz.underlying166
  a75:=Tryz.isAgg166
  z75:=Tryz.sizeOf166
  v75:=Tryz.zeroValue166
  t91:=Tryz.underlying162
  a91:=Tryz.isAgg162
  z91:=Tryz.sizeOf162
  v91:=Tryz.zeroValue162
  t93:=Tryz.underlying164
  a93:=Tryz.isAgg164
  z93:=Tryz.sizeOf164
  v93:=Tryz.zeroValue164
  t130:=Tryz.underlying254
  a130:=Tryz.isAgg254
  z130:=Tryz.sizeOf254
  v130:=Tryz.zeroValue254
  t131:=Tryz.underlying228
  a131:=Tryz.isAgg228
  z131:=Tryz.sizeOf228
  v131:=Tryz.zeroValue228
  g14:=C7
  t5:=Tryz.underlying5
  a5:=Tryz.isAgg5
  z5:=Tryz.sizeOf5
  v5:=Tryz.zeroValue5
  t80:=Tryz.underlying336
  a80:=Tryz.isAgg336
  z80:=Tryz.sizeOf336
  v80:=Tryz.zeroValue336
  i0:=C7
  i3:=C7
  i4:=C7
  i5:=C7
  i9:=C7
  i20:=C7
  i37:=C7
  i75:=C7
  i80:=C7
  i91:=C7
  i93:=C7
  i130:=C7
  i131:=C7
  m14:=by kernel_rfl}
def Tryz.iC:Go.Shelf.Ren:=⟨λ|180=>106|251=>163|252=>164|181=>207|184=>208|290=>209|324=>232|n=>n,λ|130=>254|37=>22|3=>3|75=>166|0=>0|93=>164|91=>162|131=>228|4=>4|20=>20|5=>5|80=>336|9=>9|n=>n,λ|14=>5|n=>n⟩
theorem Tryz.oX:Go.Proofs.LaysM.n180 Tryz.prog Tryz.iC:={
  mixed:=C7
  f180:=Tryz.func106.trans (congrArg some C7)
  f181:=Tryz.func207.trans (congrArg some C7)
  f184:=Tryz.func208.trans (congrArg some C7)
  f251:=Tryz.func163.trans (congrArg some C7)
  f252:=Tryz.func164.trans (congrArg some C7)
  f290:=Tryz.func209.trans (congrArg some C7)
  f324:=Tryz.func232.trans (congrArg some C7)
  t0:=Tryz.underlying0
  a0:=Tryz.isAgg0
  z0:=Tryz.sizeOf0
  v0:=Tryz.zeroValue0
  t3:=Tryz.underlying3
  a3:=Tryz.isAgg3
  z3:=Tryz.sizeOf3
  v3:=Tryz.zeroValue3
  t4:=Tryz.underlying4
  a4:=Tryz.isAgg4
  z4:=Tryz.sizeOf4
  v4:=Tryz.zeroValue4
  t20:=Tryz.underlying20
  a20:=Tryz.isAgg20
  z20:=Tryz.sizeOf20
  v20:=Tryz.zeroValue20
  t37:=Tryz.underlying22
  a37:=Tryz.isAgg22
  z37:=Tryz.sizeOf22
  v37:=Tryz.zeroValue22
  t75:=Tryz.underlying166
  a75:=Tryz.isAgg166
  z75:=Tryz.sizeOf166
  v75:=Tryz.zeroValue166
  t91:=Tryz.underlying162
  a91:=Tryz.isAgg162
  z91:=Tryz.sizeOf162
  v91:=Tryz.zeroValue162
  t93:=Tryz.underlying164
  a93:=Tryz.isAgg164
  z93:=Tryz.sizeOf164
  v93:=Tryz.zeroValue164
  t130:=Tryz.underlying254
  a130:=Tryz.isAgg254
  z130:=Tryz.sizeOf254
  v130:=Tryz.zeroValue254
  t131:=Tryz.underlying228
  a131:=Tryz.isAgg228
  z131:=Tryz.sizeOf228
  v131:=Tryz.zeroValue228
  g14:=C7
  t5:=Tryz.underlying5
  a5:=Tryz.isAgg5
  z5:=Tryz.sizeOf5
  v5:=Tryz.zeroValue5
  t9:=Tryz.underlying9
  a9:=Tryz.isAgg9
  z9:=Tryz.sizeOf9
  v9:=Tryz.zeroValue9
  t80:=Tryz.underlying336
  a80:=Tryz.isAgg336
  z80:=Tryz.sizeOf336
  v80:=Tryz.zeroValue336
  i0:=C7
  i3:=C7
  i4:=C7
  i5:=C7
  i9:=C7
  i20:=C7
  i37:=C7
  i75:=C7
  i80:=C7
  i91:=C7
  i93:=C7
  i130:=C7
  i131:=C7
  m14:=by kernel_rfl}
def Tryz.fK:Go.Shelf.Ren:=⟨λ|183=>108|n=>n,λ|130=>254|37=>22|0=>0|93=>164|3=>3|5=>5|91=>162|n=>n,λ|n=>n⟩
theorem Tryz.sW:Go.Proofs.LaysM.n183 Tryz.prog Tryz.fK:={
  mixed:=C7
  f183:=Tryz.func108.trans (congrArg some C7)
  t0:=Tryz.underlying0
  a0:=Tryz.isAgg0
  z0:=Tryz.sizeOf0
  v0:=Tryz.zeroValue0
  t3:=Tryz.underlying3
  a3:=Tryz.isAgg3
  z3:=Tryz.sizeOf3
  v3:=Tryz.zeroValue3
  t37:=Tryz.underlying22
  a37:=Tryz.isAgg22
  z37:=Tryz.sizeOf22
  v37:=Tryz.zeroValue22
  t93:=Tryz.underlying164
  a93:=Tryz.isAgg164
  z93:=Tryz.sizeOf164
  v93:=Tryz.zeroValue164
  t130:=Tryz.underlying254
  a130:=Tryz.isAgg254
  z130:=Tryz.sizeOf254
  v130:=Tryz.zeroValue254
  t5:=Tryz.underlying5
  a5:=Tryz.isAgg5
  z5:=Tryz.sizeOf5
  v5:=Tryz.zeroValue5
  t91:=Tryz.underlying162
  a91:=Tryz.isAgg162
  z91:=Tryz.sizeOf162
  v91:=Tryz.zeroValue162
  i0:=C7
  i3:=C7
  i5:=C7
  i37:=C7
  i91:=C7
  i93:=C7
  i130:=by kernel_rfl}
theorem Tryz.sF:Tryz.f104.ntmps=17:=C7
theorem Tryz.uF:Tryz.f55.ntmps=48:=C7
theorem Oh{l m r:LB}(h:Cd l m=some r):r=l++m/\l.length+m.length<=17179869184:=by
  unfold Cd TD at h;split at h
  · cases h;exact⟨rfl,by assumption⟩
  · cases h
theorem dQ(B b:Nat)(bs l:List UInt8)(w:World)(h:Lib.IsBuffer 164 5 B b (Lib.byteCells bs) w)(hf:bs=[]->w.cell? ⟨b,0,none⟩=some (.slice none 0 0)/\1<=l.length/\l.length<=64)
    (hBw:B<=w.heap.size) (hlim:bs.length+l.length<=140737488355328):
    Calls Tryz.prog 105 #[.pointer (some ⟨b,0,none⟩),sv l] w λe w'=>e= .returned (.tuple #[.int .i64 l.length, .nilIface])/\Lib.IsBuffer 164 5 B b (Lib.byteCells (bs++l)) w'/\Below B w w'/\Rf.Zw b w w':=
  Rf.fZ Tryz.sN B b bs l w h hf hBw hlim
theorem WM{A:Nat->Prop}(B b:Nat)(bs l:List UInt8)(v:Value)(w:World)(h:Lib.IsBuffer 164 5 B b (Lib.byteCells bs) w)(hBw:B<=w.heap.size)(hs:Rf.Src A w l v)(hA:¬A b)(hlim:bs.length+l.length<=140737488355328):
    Calls Tryz.prog 106 #[.pointer (some ⟨b,0,none⟩),v] w λe w'=>e= .returned (.tuple #[.int .i64 l.length, .nilIface])/\Lib.IsBuffer 164 5 B b (Lib.byteCells (bs++l)) w'/\Below B w w'/\Lib.OthersKept 5 (some b) w w':=
  Rf.fM Tryz.oX B b bs l v w h hBw hs hA hlim
theorem lM(B b:Nat)(bs:List Value)(w:World)(h:Lib.IsBuffer 164 5 B b bs w):
    Calls Tryz.prog 108 #[.pointer (some ⟨b,0,none⟩)] w λe w'=>∃v,e= .returned v/\w'.ownsRow B 5 1 v bs.length bs/\∃n,w'=w.drewN n:=
  Any.Buffer_Bytes Tryz.sW B b bs w h
theorem FK{l id l':LB}{k:Int}(h:Zq l id k=some l'):∃c,l'=l++id++c:=by
  obtain⟨⟨c,e⟩,_,h⟩:=Go.Lv.bind_some h;obtain⟨p,hp,h⟩:=Go.Lv.bind_some h;obtain⟨rfl,_⟩:=Oh hp;obtain⟨rfl,_⟩:=Oh h;exact⟨c,rfl⟩
set_option maxHeartbeats 2000000 in
set_option maxRecDepth 100000 in
theorem GA(n:Nat)(gl:List (Nat×List Value))(hC:ConOk Tryz.prog gl 83 ⟨[.lf (.int .u64) none, .lf (.int .i64) none],[.lf (.list (.int .u8)) (some 5), .lf (.int .i64) none],λx=>Ex x.1 x.2⟩)
    (B b:Nat) (l id l':LB) (k:Int) (W:World) (h:Lib.IsBuffer 164 5 B b (Lib.byteCells l) W) (hf:l=[]->W.cell? ⟨b,0,none⟩=some (.slice none 0 0)/\1<=id.length/\id.length<=64)
    (hBw:B<=W.heap.size) (hgl:GlOk gl (λ_=>True) W) (hy:Zq l id k=some l'):
    CallsIn Fence.wide n Tryz.prog 104 #[sv id, .int .i64 k, .pointer (some ⟨b,0,none⟩)] W λe W'=>e= .returned (.tuple #[])/\Lib.IsBuffer 164 5 B b (Lib.byteCells l') W'/\Below B W W'/\Lib.OthersKept 5 (some b) W W':=by
  obtain⟨⟨c,e⟩,hle,hy⟩:=Go.Lv.bind_some hy;obtain⟨p,hp,hy⟩:=Go.Lv.bind_some hy;obtain⟨rfl,q1⟩:=Oh hp;obtain⟨rfl,q2⟩:=Oh hy;rw[List.length_append]at q2;refine callsIn_of_wp Tryz.func104 rfl trivial ?_ rfl;simp only[Tryz.sF,List.size_toArray,List.length_cons,List.length_nil,Nat.reduceAdd,Nat.reduceSub,Array.replicate_succ,Array.replicate_zero,List.push_toArray,List.append_toArray,List.nil_append,List.cons_append];have hz:iv (Aj k:UInt64)= .int .u64 (IntKind.u64.wrap k):=congrArg (Value.int .u64) (GI.toZ_ofZ _);have hcall:=Rf.oL hC (W:=W) (x:=Aj k) (n:=4) hgl hle;rw[hz]at hcall
  gi_wp2
  refine⟨trivial,(λh=>nomatch h),(callsIn_wide.2 hcall).mono ?_⟩;rintro e1 W1 ⟨v,rfl,hk,hs⟩;have hb1:=Rf.Hq hk;have h1:=Rf.KV h hb1.block;have hlt:=h.lt;have hc1:W1.cell? ⟨b,0,none⟩=W.cell? ⟨b,0,none⟩:=World.cell?_of_block (hb1.block b hlt)
  gi_wp2
  refine⟨trivial,(λh=>nomatch h),(callsIn_wide.2 (dQ B b l id W1 h1 (λe=>⟨hc1.trans (hf e).1,(hf e).2⟩) (Nat.le_trans hBw hb1.size) C8)).mono ?_⟩;rintro e2 W2 ⟨rfl,h2,hb2,hr2⟩;have hs2:Rf.Src (λk=>W.heap.size<=k/\k<W1.heap.size) W2 c v:=hs.keep λj hj=>hr2 j hj.2 (λe=>absurd hlt C8) λad n c hc e=>by
    rw[hc1]at hc;have:=Rf.qW h hc;omega
  gi_wp2
  refine⟨trivial,(λh=>nomatch h),(callsIn_wide.2 (WM B b (l++id) c v W2 h2 (Nat.le_trans hBw (Nat.le_trans hb1.size hb2.size)) hs2 (λh=>by omega) (by rw[List.length_append];omega))).mono ?_⟩;rintro e3 W3 ⟨rfl,h3,hb3,ho3⟩
  gi_wp2
  go_end0
  exact⟨rfl,h3,((hb1.mono hBw).trans hb2).trans hb3,(((Lib.OthersKept.refl _ _ W).below hb1).trans (Rf.SF h1 hr2)).trans ho3⟩
theorem XN{gl:List (Nat×List Value)}{w W:World}{B:Nat}(h:GlOk gl (λ_=>True) w)(hB:w.heap.size<=B)(hb:Below B w W):GlOk gl (λ_=>True) W:=
  λp hp=>⟨Nat.lt_of_lt_of_le (h p hp).1 hb.size,trivial,by rw[hb.block _ (Nat.lt_of_lt_of_le (h p hp).1 hB)];exact(h p hp).2.2⟩
set_option maxHeartbeats 4000000 in
set_option maxRecDepth 100000 in
theorem RV(n:Nat)(gl:List (Nat×List Value))(tL:ConOk Tryz.prog gl 103 ⟨[.lf .str none, .lf (.list (.cons .str (.cons (.list (.int .u8)) .nil))) none],[.lf (.int .i64) none],λx=>Jp x.1 x.2⟩)(hSz:ConOk Tryz.prog gl 107 ⟨[.lf (.list (.cons .str (.cons (.list (.int .u8)) .nil))) none],[.lf (.int .i64) none],Rb⟩)(tX:ConOk Tryz.prog gl 83 ⟨[.lf (.int .u64) none, .lf (.int .i64) none],[.lf (.list (.int .u8)) (some 5), .lf (.int .i64) none],λx=>Ex x.1 x.2⟩)
    (w:World) (a:LB) (bl:List (LB×LB×Unit)) (vl:Value) (hv:Ae (λk=>k<w.heap.size) w (.list Rf.CH) bl [vl]) (hgl:GlOk gl (λ_=>True) w) (y:LB×Int) (hy:Ts a bl=some y):
    CallsIn Fence.wide n Tryz.prog 55 #[sv a,vl] w λe w'=>∃v,e= .returned (.tuple #[v, .int .i64 y.2])/\KeepN (λ_=>True) w w'/\∃o,(Mob.own 1 5 v (Lib.byteCells y.1)).holds o w'/\∀k,o=some k->w.heap.size<=k/\k<w'.heap.size:=by
  unfold Ts at hy;obtain⟨e,hck,hy⟩:=Go.Lv.bind_some hy;have hcall:=Rf.nY (s:=a) tL hv hgl hck;refine callsIn_of_wp Tryz.func55 rfl trivial ?_ rfl;simp only[Tryz.uF,List.size_toArray,List.length_cons,List.length_nil,Nat.reduceAdd,Nat.reduceSub,Array.replicate_succ,Array.replicate_zero,List.push_toArray,List.append_toArray,List.nil_append,List.cons_append]
  gi_wp2
  refine⟨trivial,(λh=>nomatch h),(callsIn_wide.2 hcall).mono ?_⟩;rintro e1 w1 ⟨rfl,hk1⟩;have hlim:e=0->bl.length<=20:=λhe=>by
    by_cases hg:Eo (Aa bl) 20=true
    · have h4:Jp a bl=some 4:=by unfold Jp Py;rw[if_pos hg]
      rw[h4,he]at hck;cases hck
    · have:¬((20:Int)<(bl.length:Int)):=λh=>hg (by simpa [Eo,Aa,GI.toZ]using h)
      omega
  have e5:Bp e 0=(e !=0):=rfl;rw[e5]at hy;by_cases he:e=0
  case neg=>
    rw[if_pos (by simpa using he)]at hy;cases hy
    gi_wp2
    go_ret2
    exact⟨_,rfl,hk1,none,Rf.eS,λk h=>nomatch h⟩
  have hlim:=hlim he;subst he;rw[if_neg D1]at hy
  gi_wp2
  obtain⟨n1,hsz,hy⟩:=Go.Lv.bind_some hy;obtain⟨f,hf,hy⟩:=Go.Lv.bind_some hy;obtain⟨g,hg,hy⟩:=Go.Lv.bind_some hy;obtain⟨h,hh,hy⟩:=Go.Lv.bind_some hy;cases hy;have hb1:=Rf.Hq hk1;have hI0:=Lib.fresh_isBuffer 164 5 w1;have hc0:(w1.alloc (.cells #[.slice none 0 0, .int .i64 0, .int .i8 0] 164)).cell? ⟨w1.heap.size,0,none⟩=some (.slice none 0 0):=by rw[Lib.cell_of_heap (World.alloc_heap_new w1 _)];rfl
  have hb0:=(Below.refl w1.heap.size w1).alloc (Nat.le_refl _) (.cells #[.slice none 0 0, .int .i64 0, .int .i8 0] 164);generalize(w1.alloc (.cells #[.slice none 0 0, .int .i64 0, .int .i8 0] 164))=W0 at hI0 hc0 hb0⊢;have hbw0:=(hb1.trans (hb0.mono hb1.size));have hv0:Ae (λk=>k<w.heap.size) W0 (.list Rf.CH) bl [vl]:=Ae.step (λ_ h=>h) (λk hk=>hbw0.block k hk) hv;refine⟨trivial,(λh=>nomatch h),(callsIn_wide.2 (Rf.nL hSz hv0 (XN hgl (Nat.le_refl _) hbw0) hsz)).mono ?_⟩;rintro e2 W2 ⟨rfl,hk2⟩;have hb2:=Rf.Hq hk2;have hI2:=Rf.KV hI0 hb2.block;have hc2:W2.cell? ⟨w1.heap.size,0,none⟩=some (.slice none 0 0):=(World.cell?_of_block (hb2.block _ hI0.lt)).trans hc0;have hbw2:Below w1.heap.size w1 W2:=hb0.trans (hb2.mono hb0.size);clear hI0 hc0 hb0 hbw0 hv0 hb2 hk2
  gi_wp2
  refine⟨trivial,(λh=>nomatch h),(GA (n-1) gl tX w1.heap.size w1.heap.size [] [82,73,70,70] f n1 W2 hI2 (λ_=>⟨hc2,D0,D0⟩) hbw2.size (XN hgl (Nat.le_refl _) (hb1.trans (hbw2.mono hb1.size))) hf).mono ?_⟩;rintro e3 W3 ⟨rfl,vU,hb3,ho3⟩;obtain⟨c3,hf3⟩:=FK hf;have hfn:f≠ []:=by rw[hf3];simp
  have rJ:=hbw2.trans hb3;obtain⟨rfl,q1⟩:=Oh hg
  gi_wp2
  refine⟨trivial,(λh=>nomatch h),(callsIn_wide.2 (dQ _ _ f a W3 vU (λe=>absurd e hfn) rJ.size C8)).mono ?_⟩;rintro e4 W4 ⟨rfl,xS,hb4,hr4⟩;have vI:=rJ.trans hb4;have hgn:f++a≠ []:=by simp[hfn]
  clear hI2 hc2 vU hb3 ho3 hr4 hbw2 rJ hb4 hf3;obtain⟨v1,c0,e1,⟨p,len,cap,rfl,hl1,hl2,hl3,hl4⟩,hall⟩:=(show∃v c0,[vl]=[v]/\Rd _ w 2 v c0/\As (Ae _ w Rf.CH) bl c0 from hv);cases e1;have hlen:bl.length=len:=by
    have:=As.len (z:=2) (λx c h=>Rf.qE h) hall;omega
  gi_wp2
  refine ZK (bl.length+1) (λq a W=>∃(i:Nat) (l:LB) (z:Int) (x0 x1 x2 x3 x4 x5 x6 x9 x10 x11 x12 x13 x14 x15 x16 x17 x18 x19 x20 x21 x22 x23 x27 x28 x29 x30 x31 x32 x33 x34 x35 x36 x37 x38 x39 x40 x41 x42 x43 x44 x45 x46 x47:Value),a={tmps:= #[x0,x1,x2,x3,x4,x5,x6, .pointer (some ⟨w1.heap.size,0,none⟩), .func (.func 104) #[] #[.pointer (some ⟨w1.heap.size,0,none⟩)],x9,x10,x11,x12,x13,x14,x15,x16,x17,x18,x19,x20,x21,x22,x23, .slice p len cap, .int .i64 len, .int .i64 z,x27,x28,x29,x30,x31,x32,x33,x34,x35,x36,x37,x38,x39,x40,x41,x42,x43,x44,x45,x46,x47],defers:=[]}/\z=(i:Int)/\q+i=bl.length+1/\i<=bl.length/\
    Lib.IsBuffer 164 5 w1.heap.size w1.heap.size (Lib.byteCells l) W/\l≠ []/\Below w1.heap.size w1 W/\EB (bl.drop i) l=some h) ?_ ?_ ?_
  · rintro a W ⟨i,l,z,x0,x1,x2,x3,x4,x5,x6,x9,x10,x11,x12,x13,x14,x15,x16,x17,x18,x19,x20,x21,x22,x23,x27,x28,x29,x30,x31,x32,x33,x34,x35,x36,x37,x38,x39,x40,x41,x42,x43,x44,x45,x46,x47,_,_,hq,hi,_⟩
    omega
  · rintro q a W ⟨i,l,_,x0,x1,x2,x3,x4,x5,x6,x9,x10,x11,x12,x13,x14,x15,x16,x17,x18,x19,x20,x21,x22,x23,x27,x28,x29,x30,x31,x32,x33,x34,x35,x36,x37,x38,x39,x40,x41,x42,x43,x44,x45,x46,x47,rfl,rfl,hq,hi,hI,hl,hb,hr⟩
    by_cases hlt:i<bl.length
    · obtain⟨c,hc⟩:∃c,bl[i]? =some c:=⟨_,List.getElem?_eq_getElem hlt⟩
      have hd:bl.drop i=c::bl.drop (i+1):=by
        rw[List.drop_eq_getElem_cons hlt];rw[List.getElem?_eq_getElem hlt]at hc;rw[Option.some.inj hc]
      rw[hd]at hr;simp only[EB]at hr;obtain⟨l1,r1,hr⟩:=Go.Lv.bind_some hr;obtain⟨l2,r2,hr⟩:=Go.Lv.bind_some hr;obtain⟨z,r3,hr⟩:=Go.Lv.bind_some hr;obtain⟨l3,r4,hr⟩:=Go.Lv.bind_some hr;obtain⟨vd,g1,g2,g3⟩:=Rf.YY hall hc;obtain⟨bk,off,arr,T,fr,rfl,hbk,hheap,hsz2,hcells⟩:=hl4 C8;have hsrc:=Rf.pW g3;obtain⟨pd,_,cZ,rfl,rfl,d2,d3⟩:=id hsrc;have vJ:Below w.heap.size w W:=hb1.trans (hb.mono hb1.size);have hW:W.heap[bk]? =some (.cells arr T fr):=(vJ.block _ hbk).trans hheap;have ha0:W.cell? ⟨bk,off+i*2,none⟩=some (sv c.1):=by rw[Lib.cell_of_heap hW,Nat.mul_comm i 2];exact(hcells (2*i) C8).trans g1
      have ha1:W.cell? ⟨bk,off+i*2+1,none⟩=some (.slice pd c.2.1.length cZ):=by rw[Lib.cell_of_heap hW,Nat.mul_comm i 2,Nat.add_assoc];exact(hcells (2*i+1) C8).trans g2
      gi_wp2
      have vV:=Rf.KV hI (λk hk=>Below.heap_alloc W (.cells #[sv c.1, .slice pd c.2.1.length cZ] 97) k hk);have hka:(W.alloc (.cells #[sv c.1, .slice pd c.2.1.length cZ] 97)).heap[W.heap.size]? =some (.cells #[sv c.1, .slice pd c.2.1.length cZ] 97 (0,0)):=World.alloc_heap_new W _;have hba:=hb.alloc hb.size (.cells #[sv c.1, .slice pd c.2.1.length cZ] 97);have hkb:W.heap.size≠w1.heap.size:=λe=>absurd hI.lt C8;refine⟨trivial,(λh=>nomatch h),(GA (n-1) gl tX _ _ l c.1 l1 _ _ vV (λe=>absurd e hl) hba.size (XN hgl (Nat.le_refl _) (hb1.trans (hba.mono hb1.size))) r1).mono ?_⟩;rintro e5 W5 ⟨rfl,vW,hb5,tY⟩;have hk5:=tY _ _ hka (λe=>hkb (Option.some.inj e)) (λc fz e=>by cases e);have c5:W5.cell? ⟨W.heap.size,1,none⟩=some (.slice pd c.2.1.length cZ):=by rw[Lib.cell_of_heap hk5];rfl
      have hb5':=hba.trans hb5;obtain⟨rfl,q2⟩:=Oh r2;obtain⟨rfl,q3⟩:=Oh r4;obtain⟨c1,hl1⟩:=FK r1
      gi_wp2
      refine⟨trivial,(λh=>nomatch h),(callsIn_wide.2 (WM (A:=λk=>k<w.heap.size) _ _ l1 c.2.1 _ W5 vW hb5'.size (hsrc.keep λk hk=>(hb1.trans (hb5'.mono hb1.size)).block k hk) (λh=>absurd hb1.size C8) C8)).mono ?_⟩;rintro e6 W6 ⟨rfl,vX,hb6,vY⟩;have vZ:=vY _ _ hk5 (λe=>hkb (Option.some.inj e)) (λc fz e=>by cases e);have c6:W6.cell? ⟨W.heap.size,1,none⟩=some (.slice pd c.2.1.length cZ):=by rw[Lib.cell_of_heap vZ];rfl
      have hb6':=hb5'.trans hb6;clear vV hka hba vW hb5 tY hk5 c5 hb5' hb6 vY vZ ha0 ha1 hW;have hbit:bits BinOp.and IntKind.i64 (c.2.1.length:Int) 1=((c.2.1.length %2:Nat):Int):=Rf.jQ c.2.1.length C8;obtain⟨m,hm2⟩:∃m:Nat,m=c.2.1.length %2:=⟨_,rfl⟩;rw[<-hm2]at hbit;have pN:Dg (Aa c.2.1) 1=(m:Int):=hbit;rw[pN]at r3;have hm1:m<=1:=C8
      obtain rfl:z=List.replicate m 0:=by
        unfold XR at r3;split at r3
        · cases r3;rfl
        · cases r3
      obtain⟨i0,hi0,hz0,hz1,hz2⟩:=info_parts Tryz.oX.i5;obtain⟨M,hmk,hms⟩:=Rf.bT (P:=Tryz.prog) (TB:=22) (U8:=5) Tryz.underlying22 hi0 hz0 hz1 hz2 m hm1;clear hm2 pN r3 hi0 hz0 hz1 hz2
      gi_wp2
      refine⟨trivial,(λh=>nomatch h),(callsIn_wide.2 (WM (A:=λk=>k=W6.heap.size) _ _ (l1++c.2.1) (List.replicate m 0) _ _ (Rf.KV vX (λk hk=>Below.heap_alloc W6 (.cells M 5) k hk)) (hb6'.alloc hb6'.size (.cells M 5)).size (hms W6) (λe=>absurd vX.lt C8) (by rw[List.length_append];rw[List.length_append]at q3;omega))).mono ?_⟩;rintro e8 W8 ⟨rfl,xT,xU,yE⟩;have hb8':=(hb6'.alloc hb6'.size (.cells M 5)).trans xU
      gi_wp2
      exact⟨i+1,l1++c.2.1++List.replicate m 0,_,_,_,_,_,_,_,_,_,_,_,_,_,_,_,_,_,_,_,_,_,_,_,_,_,_,_,_,_,_,_,_,_,_,_,_,_,_,_,_,_,_,_,_,rfl,C8,C8,C8,xT,by simp[hl1,hl],hb8',hr⟩
    · obtain rfl:i=bl.length:=C8
      rw[List.drop_length]at hr;obtain rfl:l=h:=Option.some.inj hr
      gi_wp2
      refine⟨trivial,(λh=>nomatch h),(callsIn_wide.2 (lM _ _ _ W hI)).mono ?_⟩;rintro e9 W9 ⟨v,rfl,hown,n9,rfl⟩
      gi_wp2
      go_ret2
      have hbf:=(hb1.trans (hb.mono hb1.size)).trans (Rf.ZE _ W n9);obtain⟨o,ho1,ho2⟩:=Rf.cC hown;exact⟨_,rfl,Rf.dI hbf,o,ho1,λk hk=>⟨Nat.le_trans hb1.size (ho2 k hk).1,(ho2 k hk).2⟩⟩
  · exact⟨0,f++a,_,_,_,_,_,_,_,_,_,_,_,_,_,_,_,_,_,_,_,_,_,_,_,_,_,_,_,_,_,_,_,_,_,_,_,_,_,_,_,_,_,_,_,_,rfl,rfl,C8,Nat.zero_le _,xS,hgn,vI,by simpa using hh⟩
noncomputable def Tk:Con:=⟨iK,jB,λx=>Ts x.1 x.2⟩
theorem SW{gl:List (Nat×List Value)}(hE:Ent Tryz.prog 55)(tL:ConOk Tryz.prog gl 103 ⟨[.lf .str none, .lf (.list (.cons .str (.cons (.list (.int .u8)) .nil))) none],[.lf (.int .i64) none],λx=>Jp x.1 x.2⟩)(hSz:ConOk Tryz.prog gl 107 ⟨[.lf (.list (.cons .str (.cons (.list (.int .u8)) .nil))) none],[.lf (.int .i64) none],Rb⟩)(tX:ConOk Tryz.prog gl 83 ⟨[.lf (.int .u64) none, .lf (.int .i64) none],[.lf (.list (.int .u8)) (some 5), .lf (.int .i64) none],λx=>Ex x.1 x.2⟩):ConOk Tryz.prog gl 55 Tk:=by
  refine⟨hE,?_⟩;rintro R N w L0 vs ps ⟨a,bl⟩ y hargs hlen hit Vh hvs hgl hy;obtain rfl:=Option.some.inj (show some [PV.val .str a,PV.val (.list Rf.CH) bl]=some ps from hargs);obtain⟨v0,_,rfl,h0,v,_,rfl,h1,rfl⟩:=hvs;obtain rfl:v0=sv a:=by cases(show [v0]=[sv a]from h0);rfl
  have h2:Ae (λb=>R b/\N b) w (.list Rf.CH) bl [v]:=h1;have h3:=Ae.step (B':=λk=>k<w.heap.size) (λ_ h=>h.1) (λ_ _=>rfl) (Gj h2);refine(callsIn_wide.1 (RV 3 gl tL hSz tX w a bl v h3 (λq hq=>⟨(hgl q hq).1,trivial,(hgl q hq).2.2⟩) y hy)).mono ?_;rintro e w' ⟨u,rfl,hk,o,ho1,ho2⟩;refine⟨[u, .int .i64 y.2],rfl,⟨λb hb _=>hk.same b hb trivial,hk.gr⟩,λ_=>False,[.own 1 5 u (Lib.byteCells y.1)],λ_ h=>h.elim,?_,?_⟩
  · exact⟨o,ho1,λb hb=>⟨λh=>h.elim id λh=>absurd (ho2 b hb).1 (by have:=h.1;omega),(ho2 b hb).2⟩,trivial⟩
  · intro s L B' hl _ _
    refine⟨[.own s.it.length, .val (.int .i64) y.2],[.arr 5 (.int .u8) y.1],rfl,rfl,?_,rfl,λi a m h1 h2=>?_⟩
    · refine⟨_,_,rfl,⟨1,5,u,Lib.byteCells y.1,?_,rfl⟩,_,_,rfl,rfl,rfl⟩
      rw[<-hl];simp
    · cases i with
      |zero=>
        cases h1;cases h2;exact⟨rfl,rfl,Rf.Tu y.1⟩
      |succ i=>simp at h1
theorem Tryz.uE:Tryz.f10.ntmps=51:=C7
set_option maxHeartbeats 4000000 in
set_option maxRecDepth 100000 in
theorem WS(n:Nat)(gl:List (Nat×List Value))(hF:ConOk Tryz.prog gl 7 ⟨[.lf .str none],[.lf (.list (.int .u8)) (some 5)],Cl⟩)(hI:ConOk Tryz.prog gl 9 ⟨[.lf (.list (.int .u8)) none, .lf .str none, .lf (.int .i64) none],[.lf .bool none],λx=>Ac x.1 x.2.1 x.2.2⟩)(w:World)(hgl:GlOk gl (λ_=>True) w)(y:Bool)(hy:Cs=some y):
    CallsIn Fence.wide n Tryz.prog 10 #[] w λe w'=>e= .returned (.bool y)/\KeepN (λ_=>True) w w':=by
  unfold Cs at hy;obtain⟨b,hb,hy⟩:=Go.Lv.bind_some hy;refine callsIn_of_wp Tryz.func10 rfl trivial ?_ rfl;simp only[Tryz.uE,List.size_toArray,List.length_cons,List.length_nil,Nat.reduceAdd,Nat.reduceSub,Array.replicate_succ,Array.replicate_zero,List.push_toArray,List.append_toArray,List.nil_append,List.cons_append]
  gi_wp2
  refine⟨trivial,(λh=>nomatch h),(callsIn_wide.2 (Rf.mY hF (W:=w) hgl hb)).mono ?_⟩;rintro e1 w1 ⟨v,o,rfl,hk1,ho1,hn1⟩;have hb1:=Rf.Hq hk1;by_cases h40:b.length<40
  · rw[if_pos (show Ci (Aa b) 40=true from decide_eq_true (by show(b.length:Int)<40;omega))]at hy
    cases hy;obtain⟨p,len,cap,rfl,g1, -⟩:=id ho1;have hlen:len=b.length:=by simpa [Lib.byteCells]using g1.symm
    subst hlen;have h40':(b.length:Int)<40:=C8
    gi_wp2
    go_ret
    exact⟨rfl,hk1⟩
  rw[if_neg (show ¬Ci (Aa b) 40=true from λe=>by have e:=of_decide_eq_true e;have e:(b.length:Int)<40:=e;omega)]at hy;have h40':¬(b.length:Int)<40:=C8
  obtain⟨c,hc,hy⟩:=Go.Lv.bind_some hy;obtain⟨x,hx,hy⟩:=Go.Lv.bind_some hy;obtain⟨d,hd,hy⟩:=Go.Lv.bind_some hy;obtain⟨k,cap,arr,fr,rfl,rfl,hcap,hk,hsz,hfr,harr⟩:=Rf.aC ho1 C8;obtain⟨i0,hi0,hz0,hz1,hz2⟩:=info_parts (show(Tryz.prog.info? 5).map (λi=>(i.zero,i.size,i.bytes))=some (some (Value.int IntKind.u8 0),1,1) by kernel_rfl);have hW0:=(Below.refl w1.heap.size w1).alloc (Nat.le_refl _) (.cells #[] 5);have wA:k<w1.heap.size:=(hn1 k rfl).2;have hsr:∀j v,(Lib.byteCells b)[j]? =some v-> (w1.alloc (.cells #[] 5)).cell? ((⟨k,0,none⟩:Addr).add j)=some v:=λj v hj=>by
    have hj':j<b.length:=by have:=(List.getElem?_eq_some_iff.1 hj).1;simpa [Lib.byteCells]using this
    rw[Lib.addr_add,Nat.zero_add,Lib.cell_of_heap ((Below.heap_alloc w1 _ k wA).trans hk),harr j hj'];exact hj
  have tM:([]:List UInt8).length+b.length<=17179869184:=Rf.eJ hc;obtain rfl:b=c:=(Rf.jE hc).symm;have hg0:0<([]:List UInt8).length+b.length:=by rw[List.length_nil];omega
  gi_wp2_with (gi_at_builtin;refine Hid.out ?_)
  refine Lib.hid ?_;refine Rf.jI _ rfl _ _ 22 5 rfl Tryz.underlying22 hi0 hz0 hz1 hz2 ⟨w1.heap.size,0,none⟩ ⟨k,0,none⟩ [] b 0 b.length 0 cap rfl rfl rfl rfl (λj v h=>by simp[Lib.byteCells]at h) hsr hg0 tM ?_;intro v2 w2 ho2 hb2 hl2;simp only[List.nil_append]at ho2 hx hd;obtain⟨k2,cap2,vK,xV,e2,rfl,hcap2,hk2,hsz2,hfr2,pO⟩:=Rf.aC ho2 C8;obtain rfl:k2=w1.heap.size+1:=by
    have:=Option.some.inj e2;rw[World.size_alloc]at this;exact this.symm
  have hw2:=hW0.trans (hb2.mono hW0.size);have hk2b:w2.heap[k]? =some (.cells arr 5 fr):=(hb2.block k (by rw[World.size_alloc];omega)).trans ((Below.heap_alloc w1 _ k wA).trans hk);clear hsr e2;have hix:Ah (Aa b) 6=((b.length-6:Nat):Int):=by
    rw[show Ah (Aa b) 6=Go.Lv.wrap64 ((b.length:Int)-6)from rfl,Go.Lv.Jt C8 C8];omega
  rw[hix]at hx hd;have hxb:b[b.length-6]? =some x:=by simpa [Go.Lv.Ak]using hx
  have hcell:w2.cell? ⟨w1.heap.size+1,b.length-6,none⟩=some (.int .u8 x.toNat):=by
    rw[Lib.cell_of_heap hk2,pO _ C8];simp[Lib.byteCells,hxb]
  have vL:w2.frozen? ⟨w1.heap.size+1,b.length-6,none⟩=false:=by
    simp only[World.frozen?,hk2,Bool.and_eq_false_iff,decide_eq_false_iff_not];rcases hfr2 with h|h<;>omega
  have hbx:bits BinOp.xor IntKind.u8 (x.toNat:Int) 1=((Qo x 1:UInt8).toNat:Int):=(GI.toZ_ofZ (T:=UInt8) _).symm;obtain⟨g,hg⟩:∃g:UInt8,g=Qo x 1:=⟨_,rfl⟩;rw[<-hg]at hbx hd;clear hg;obtain rfl:d=b.set (b.length-6) g:=by
    unfold Ew at hd;rw[if_pos ⟨C8,C8⟩,Int.toNat_natCast]at hd;exact(Option.some.inj hd).symm
  clear hd hx hix;obtain⟨hk3,vM,tN⟩:=Rf.nH hk2 hsz2 pO (b.length-6) C8 g;have hk3b:(w2.setCell ⟨w1.heap.size+1,b.length-6,none⟩ (.int .u8 g.toNat)).heap[k]? =some (.cells arr 5 fr):=(Below.heap_setCell _ _ _ _ (by show k≠w1.heap.size+1;omega)).trans hk2b;have hw3:Below w1.heap.size w1 (w2.setCell ⟨w1.heap.size+1,b.length-6,none⟩ (.int .u8 g.toNat)):=hw2.setCell (p:=⟨w1.heap.size+1,b.length-6,none⟩) (Nat.le_succ _) _;have hk2l:w1.heap.size+1<(w2.setCell ⟨w1.heap.size+1,b.length-6,none⟩ (.int .u8 g.toNat)).heap.size:=Lib.lt_of_heap hk3;obtain⟨t1,ht1,hy⟩:=Go.Lv.bind_some hy
  gi_wp2
  generalize(w2.setCell ⟨w1.heap.size+1,b.length-6,none⟩ (.int .u8 g.toNat))=w3 at hk3 hk3b hw3 hk2l⊢;have kb:∀W,Below w3.heap.size w3 W->W.heap[k]? =some (.cells arr 5 fr):=λW hW=>(hW.block k C8).trans hk3b;have kd:∀W,Below w3.heap.size w3 W->W.heap[w1.heap.size+1]? =some (.cells (vK.setIfInBounds (b.length-6) (.int .u8 g.toNat)) 5 xV):=λW hW=>(hW.block _ hk2l).trans hk3;have gW:∀W,Below w3.heap.size w3 W->GlOk gl (λ_=>True) W:=λW hW p hp=>⟨Nat.lt_of_lt_of_le (hgl p hp).1 (Nat.le_trans hb1.size (Nat.le_trans hw3.size hW.size)),trivial,by
    rw[hW.block _ (Nat.lt_of_lt_of_le (hgl p hp).1 (Nat.le_trans hb1.size hw3.size)),hw3.block _ (Nat.lt_of_lt_of_le (hgl p hp).1 hb1.size),hb1.block _ (hgl p hp).1];exact(hgl p hp).2.2⟩
  have fin:∀W,Below w3.heap.size w3 W->KeepN (λ_=>True) w W:=λW hW=>Rf.dI (hb1.trans ((hw3.mono hb1.size).trans (hW.mono (Nat.le_trans hb1.size hw3.size))));have eb:∀W,Below w3.heap.size w3 W->Ae (λj=>some k=some j) W (.list (.int .u8)) b [.slice (some ⟨k,0,none⟩) b.length cap]:=λW hW=>by
    have:=Rf.KZ (kb W hW) hsz harr (Nat.le_refl _) hcap;rwa [List.take_length]at this
  clear hcell vL hbx hk2 hk2b hw2;refine⟨trivial,(λh=>nomatch h),(callsIn_wide.2 (Rf.Rn hI (eb w3 (Below.refl _ _)) (gW w3 (Below.refl _ _)) ht1)).mono ?_⟩;rintro e3 W1 ⟨rfl,hK1⟩;have hB1:=Rf.Hq hK1;rcases t1 with _|_
  · rw[if_pos D0]at hy
    cases hy
    gi_wp2
    refine⟨trivial,?_⟩
    gi_wp2
    refine⟨trivial,?_⟩
    gi_wp2
    refine⟨trivial,?_⟩
    gi_wp2
    refine⟨trivial,?_⟩
    gi_wp2
    refine⟨trivial,?_⟩
    gi_wp2
    go_ret
    exact⟨rfl,fin W1 hB1⟩
  rw[if_neg D0]at hy;obtain⟨t2,ht2,hy⟩:=Go.Lv.bind_some hy
  gi_wp2
  refine⟨trivial,(λh=>nomatch h),(callsIn_wide.2 (Rf.Rn hI (eb W1 hB1) (gW W1 hB1) ht2)).mono ?_⟩;rintro e4 W2 ⟨rfl,hK2⟩;have hB2:=hB1.trans ((Rf.Hq hK2).mono hB1.size);rcases t2 with _|_
  · rw[if_pos D0]at hy
    cases hy
    gi_wp2
    refine⟨trivial,?_⟩
    gi_wp2
    refine⟨trivial,?_⟩
    gi_wp2
    refine⟨trivial,?_⟩
    gi_wp2
    refine⟨trivial,?_⟩
    gi_wp2
    go_ret
    exact⟨rfl,fin W2 hB2⟩
  rw[if_neg D0]at hy;obtain⟨t3,ht3,hy⟩:=Go.Lv.bind_some hy
  gi_wp2
  refine⟨trivial,(λh=>nomatch h),(callsIn_wide.2 (Rf.Rn hI (eb W2 hB2) (gW W2 hB2) ht3)).mono ?_⟩;rintro e5 W3 ⟨rfl,hK3⟩;have hB3:=hB2.trans ((Rf.Hq hK3).mono hB2.size);rcases t3 with _|_
  · rw[if_pos D0]at hy
    cases hy
    gi_wp2
    refine⟨trivial,?_⟩
    gi_wp2
    refine⟨trivial,?_⟩
    gi_wp2
    refine⟨trivial,?_⟩
    gi_wp2
    go_ret
    exact⟨rfl,fin W3 hB3⟩
  rw[if_neg D0]at hy;obtain⟨o4,wB,hy⟩:=Go.Lv.bind_some hy;obtain⟨t4,ht4,hy⟩:=Go.Lv.bind_some hy;have tO:=Rf.eJ wB;obtain rfl:=Rf.jE wB
  gi_wp2_with (gi_at_builtin;refine Hid.out ?_)
  refine Lib.hid ?_;refine Rf.jI _ rfl _ _ 22 5 rfl Tryz.underlying22 hi0 hz0 hz1 hz2 ⟨k,0,none⟩ ⟨W3.heap.size,0,none⟩ b [0] b.length 1 b.length 1 rfl rfl rfl rfl (Rf.mX ((Below.heap_alloc W3 _ k (Lib.lt_of_heap (kb W3 hB3))).trans (kb W3 hB3)) harr)
    (λj v h=>by rw[Lib.addr_add,Nat.zero_add,Lib.cell_of_heap (World.alloc_heap_new W3 _)];simpa [Lib.byteCells]using h) D1 tO ?_
  intro v4 W4 tY hb4 hl4;have wC:=hB3.alloc hB3.size (.cells #[.int .u8 0] 5);have hB4:=wC.trans (hb4.mono wC.size)
  gi_wp2
  refine⟨trivial,(λh=>nomatch h),(callsIn_wide.2 (Rf.Rn hI (Rf.nC tY) (gW W4 hB4) ht4)).mono ?_⟩;rintro e6 W5 ⟨rfl,xW⟩;have tP:=hB4.trans ((Rf.Hq xW).mono hB4.size);rcases t4 with _|_
  · rw[if_pos D0]at hy
    cases hy
    gi_wp2
    refine⟨trivial,?_⟩
    gi_wp2
    refine⟨trivial,?_⟩
    gi_wp2
    go_ret
    exact⟨rfl,fin W5 tP⟩
  rw[if_neg D0]at hy;obtain⟨u,hu,hy⟩:=Go.Lv.bind_some hy;obtain⟨t5,xX,hy⟩:=Go.Lv.bind_some hy;have tQ:Ah (Aa b) 1=((b.length-1:Nat):Int):=by
    rw[show Ah (Aa b) 1=Go.Lv.wrap64 ((b.length:Int)-1)from rfl,Go.Lv.Jt C8 C8];omega
  rw[tQ]at hu;obtain rfl:u=b.take (b.length-1):=by
    unfold Ck at hu;rw[if_pos ⟨C8,C8,C8⟩]at hu;simpa using(Option.some.inj hu).symm
  clear tQ hu
  gi_wp2
  refine⟨trivial,(λh=>nomatch h),(callsIn_wide.2 (Rf.Rn hI (Rf.KZ (kb W5 tP) hsz harr (n:=b.length-1) C8 hcap) (gW W5 tP) xX)).mono ?_⟩;rintro e7 W6 ⟨rfl,xY⟩;have tR:=tP.trans ((Rf.Hq xY).mono tP.size);rcases t5 with _|_
  · rw[if_pos D0]at hy
    cases hy
    gi_wp2
    refine⟨trivial,?_⟩
    gi_wp2
    go_ret
    exact⟨rfl,fin W6 tR⟩
  rw[if_neg D0]at hy;have ed:Ae (λj=>some (w1.heap.size+1)=some j) W6 (.list (.int .u8)) (b.set (b.length-6) g) [.slice (some ⟨w1.heap.size+1,0,none⟩) b.length cap2]:=by
    have:=Rf.KZ (kd W6 tR) vM tN (Nat.le_refl _) (by rw[List.length_set];exact hcap2);rwa [List.take_length,List.length_set]at this
  gi_wp2
  refine⟨trivial,(λh=>nomatch h),(callsIn_wide.2 (Rf.Rn hI ed (gW W6 tR) hy)).mono ?_⟩;rintro e8 W7 ⟨rfl,xZ⟩;have yA:=tR.trans ((Rf.Hq xZ).mono tR.size)
  gi_wp2
  go_ret
  exact⟨rfl,fin W7 yA⟩
noncomputable def Em:Con:=⟨[],[.lf .bool none],λ_=>Cs⟩
theorem Vg{gl:List (Nat×List Value)}(hE:Ent Tryz.prog 10)(hF:ConOk Tryz.prog gl 7 ⟨[.lf .str none],[.lf (.list (.int .u8)) (some 5)],Cl⟩)(hI:ConOk Tryz.prog gl 9 ⟨[.lf (.list (.int .u8)) none, .lf .str none, .lf (.int .i64) none],[.lf .bool none],λx=>Ac x.1 x.2.1 x.2.2⟩):ConOk Tryz.prog gl 10 Em:=by
  refine⟨hE,?_⟩;intro R N w L0 vs ps x y hargs hlen hit Vh hvs hgl hy;obtain rfl:=Option.some.inj (show some ([]:List PV)=some ps from hargs);obtain rfl:vs=[]:=hvs;have hy:Cs=some y:=by
    dsimp only[Em]at hy;exact hy
  refine(callsIn_wide.1 (WS 3 gl hF hI w (λq hq=>⟨(hgl q hq).1,trivial,(hgl q hq).2.2⟩) y hy)).mono ?_;rintro e w' ⟨rfl,hk⟩;refine⟨[.bool y],rfl,⟨λb hb _=>hk.same b hb trivial,hk.gr⟩,λ_=>False,[],λ_ h=>h.elim,trivial,λs L B' hl _ _=>?_⟩;exact⟨[.val .bool y],[],(show s=⟨s.sl,s.it++[],s.st⟩ by simp),rfl,⟨_,_,rfl,rfl,rfl⟩,rfl,λi a m h=>by simp at h⟩
end Go.Proofs.YtaicmmejgiaafaaGreatDoor
