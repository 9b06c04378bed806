/- A part of a proof (see the text that ends in Proof). No conditions. -/
import Derived.Test.YtaokmgopghpikaaGreatDoorPnBB
import Derived.Test.YtaokmgopghpikaaGreatDoorPnPA
import Derived.Test.YtaokmgopghpikaaGreatDoorProg
import Derived.KernelRfl
import Derived.RangeFuncKeeps
import Derived.RangeFuncWrites
import Derived.Shelf.Abstract
import Derived.OwnWalkIn
import Derived.TacticsInMore
namespace Go
theorem A4{p:Prop}(h:p:=by kernel_rfl):p:=h
end Go
set_option linter.unusedVariables false
set_option linter.unusedSimpArgs false
namespace Go.Proofs.YtaokmgopghpikaaGreatDoor
open Go.RowKit Go.Shelf Go Go.Rx Go.Lv Go.Pl
attribute [local go_sem] Oper.semAt_some
noncomputable def NT:Con:=⟨[.lf (.int .i64) none, .lf (.int .i64) none],[.lf (.list (.int .i64)) (some 3), .lf (.int .i64) none],λx=>Mx x.1 x.2⟩
noncomputable def Hv(gl:List (Nat×List Value)):Tab:=⟨[(141,NT)],gl,false,false⟩
noncomputable abbrev Mg{R:Type}(gl:List (Nat×List Value)):HW R:=Mc Tryz.prog (Hv gl) 8 []
noncomputable def jO:Code:=fB Tryz.f140
noncomputable def eO:Code:=cB jO
noncomputable def dA:Code:=cB eO
noncomputable def UQ:Code:=cA (cA (cB dA))
noncomputable def eE:Code:=cB (cB UQ)
noncomputable def VW:Code:=cA (cA eE)
noncomputable def QI:Code:=cB (cB VW)
noncomputable def cN:Code:=cA jO
noncomputable def dN:Code:=cA eO
noncomputable def cM:Code:=cA dA
noncomputable def eD:Code:=cA UQ
noncomputable def cV:Code:=cA (cB UQ)
noncomputable def cS:Code:=cB eE
noncomputable def eL:Code:=cA VW
noncomputable def dG:Code:=cA (cB VW)
noncomputable def dZ:Code:=cB QI
noncomputable def WM:List Oper:=cO (cA (cA QI))
noncomputable def WJ:Code:=cB (cA QI)
noncomputable def GV:List Oper:=WM.take 6
noncomputable def Vw:Oper:=rN WM 6
noncomputable def BC:Oper:=rN WM 7
theorem fS:Tryz.f140.body=some (.seq cN (.seq dN (.seq cM (.block 0 (.loop (.seq eD (.seq cV (.seq (.block 1 (.seq eL (.seq dG (.seq (.seq (.region 6 (GV++Vw::[BC]).toArray false) WJ) dZ)))) cS)))))))):=A4
theorem mT:Tryz.f140.ntmps=43:=A4
theorem iJ:Vw.guard=none:=A4
theorem jJ:Vw.dst=some 39:=A4
theorem YD:Vw.op= .call ⟨.value (.tmp 33), #[.tmp 38], #[35]⟩:=A4
abbrev Ds(a f h:Int)(b:LX):PV:= .agg [vi a,vi f,vi h,vw b]
abbrev Ps(y:Value)(v:PV)(ls:LI)(i x:Int):Slots:=[(0, .cst y),(1, .rptr v),(5,vi x),(21,vl ls),(22,vi (Aa ls)),(23,vi i)]
abbrev Th(lv:List Nat):K (Nat×S):=kC lv []
abbrev Ci(l:Nat):Value:= .func (.yield l) #[] #[]
theorem kX(gl:List (Nat×List Value))(l:Nat)(a f h:Int)(b:LX):ex Tryz.prog (Hv gl) (Mg gl) 43 cN .d (kC [0,1,3] [⟨3,[], .ro (.int .i64)⟩]) ⟨[(0, .cst (Ci l)),(1, .rptr (Ds a f h b))],[],[]⟩=
    Option.bind (Ef (Bm a 0)) λ_=>Option.bind (Mx h (Oc (Aa b) a)) λp=>some (0,⟨[(0, .cst (Ci l)),(1, .rptr (Ds a f h b)),(3,vl p.1)],[],[]⟩):=A4
theorem lW(gl:List (Nat×List Value))(l:Nat)(v:PV)(ls:LI):ex Tryz.prog (Hv gl) (Mg gl) 43 dN .d (Th [0,1,3,5]) ⟨[(0, .cst (Ci l)),(1, .rptr v),(3,vl ls)],[],[]⟩=some (0,⟨[(0, .cst (Ci l)),(1, .rptr (RF [] v)),(3,vl ls),(5,vi 0)],[],[]⟩):=A4
theorem mH(gl:List (Nat×List Value))(l:Nat)(a f h:Int)(b:LX)(ls:LI):ex Tryz.prog (Hv gl) (Mg gl) 43 cM .d (Th [0,1,5,21,22,23]) ⟨[(0, .cst (Ci l)),(1, .rptr (Ds a f h b)),(3,vl ls),(5,vi 0)],[],[]⟩=
    some (0,⟨Ps (Ci l) (Ds a f h b) ls 0 0,[],[]⟩):=A4
theorem kU(gl:List (Nat×List Value))(l:Nat)(a f h:Int)(b:LX)(ls:LI)(i x:Int):ex Tryz.prog (Hv gl) (Mg gl) 43 eD .d (Th [0,1,5,21,22,23,24]) ⟨Ps (Ci l) (Ds a f h b) ls i x,[],[]⟩=
    some (0,⟨Ps (Ci l) (Ds a f h b) ls i x++[(24,vt (Cn i (Aa ls)))],[],[]⟩):=A4
theorem dT(gl:List (Nat×List Value))(l:Nat)(a f h:Int)(b:LX)(ls:LI)(i x:Int)(t:Bool):ex Tryz.prog (Hv gl) (Mg gl) 43 cV .d (Th [0,1,5,21,22,23]) ⟨Ps (Ci l) (Ds a f h b) ls i x++[(24,vt t)],[],[]⟩=
    if t=true then some (0,⟨Ps (Ci l) (Ds a f h b) ls i x,[],[]⟩)else some (2,⟨Ps (Ci l) (Ds a f h b) ls i x,[],[]⟩):=A4
theorem lP(gl:List (Nat×List Value))(l:Nat)(a f h:Int)(b:LX)(ls:LI)(i x:Int):ex Tryz.prog (Hv gl) (Mg gl) 43 eL .d (Th [0,1,5,7,21,22,23]) ⟨Ps (Ci l) (Ds a f h b) ls i x,[],[]⟩=
    Option.bind (Ag ls i) λn=>some (0,⟨[(0, .cst (Ci l)),(1, .rptr (Ds a f h b)),(5,vi x),(7,vi n),(21,vl ls),(22,vi (Aa ls)),(23,vi i)],[],[]⟩):=A4
theorem mK(gl:List (Nat×List Value))(l:Nat)(a f h:Int)(b:LX)(ls:LI)(i x n:Int):ex Tryz.prog (Hv gl) (Mg gl) 43 dG .d (Th [0,1,5,8,21,22,23]) ⟨[(0, .cst (Ci l)),(1, .rptr (Ds a f h b)),(5,vi x),(7,vi n),(21,vl ls),(22,vi (Aa ls)),(23,vi i)],[],[]⟩=
    some (0,⟨[(0, .cst (Ci l)),(1, .rptr (Ds a f h b)),(5,vi x),(8,vi (Ac x (Ew n a))),(21,vl ls),(22,vi (Aa ls)),(23,vi i)],[],[]⟩):=A4
abbrev eK(y:Value)(v:PV)(ls:LI)(i x z:Int)(p:LX):Slots:=[(0, .cst y),(1, .rptr v),(5,vi x),(8,vi z),(21,vl ls),(22,vi (Aa ls)),(23,vi i),(33, .cst y),(38,vw p)]
theorem mP(gl:List (Nat×List Value))(l:Nat)(a f h:Int)(b:LX)(ls:LI)(i x z:Int):FT Tryz.prog (Hv gl) (Mg gl) 43 (GV++Vw::[BC]).toArray GV ⟨[(0, .cst (Ci l)),(1, .rptr (Ds a f h b)),(5,vi x),(8,vi z),(21,vl ls),(22,vi (Aa ls)),(23,vi i)],[],[]⟩ (kR [0,1,5,8,21,22,23,33,38] [] 0)=
    Option.bind (Bu b x z) λp=>some (0,⟨eK (Ci l) (Ds a f h b) ls i x z p,[],[]⟩):=A4
theorem mL(gl:List (Nat×List Value))(l:Nat)(a f h:Int)(b:LX)(ls:LI)(i x z:Int)(p:LX)(t:Bool):FT Tryz.prog (Hv gl) (Mg gl) 43 (GV++Vw::[BC]).toArray [BC] ⟨fH (eK (Ci l) (Ds a f h b) ls i x z p) 39 (vt t),[],[]⟩ (kR [0,1,5,8,21,22,23,40] [] 0)=
    some (0,⟨[(0, .cst (Ci l)),(1, .rptr (Ds a f h b)),(5,vi x),(8,vi z),(21,vl ls),(22,vi (Aa ls)),(23,vi i),(40,vt (!t))],[],[]⟩):=A4
theorem lG(gl:List (Nat×List Value))(l:Nat)(a f h:Int)(b:LX)(ls:LI)(i x z:Int)(t:Bool):ex Tryz.prog (Hv gl) (Mg gl) 43 WJ .d (Th [0,1,5,8,21,22,23]) ⟨[(0, .cst (Ci l)),(1, .rptr (Ds a f h b)),(5,vi x),(8,vi z),(21,vl ls),(22,vi (Aa ls)),(23,vi i),(40,vt t)],[],[]⟩=
    if t=true then some (1,⟨[(0, .cst (Ci l)),(1, .rptr (Ds a f h b)),(5,vi x),(8,vi z),(21,vl ls),(22,vi (Aa ls)),(23,vi i)],[],[]⟩)else some (0,⟨[(0, .cst (Ci l)),(1, .rptr (Ds a f h b)),(5,vi x),(8,vi z),(21,vl ls),(22,vi (Aa ls)),(23,vi i)],[],[]⟩):=A4
theorem lB(gl:List (Nat×List Value))(l:Nat)(a f h:Int)(b:LX)(ls:LI)(i x z:Int):ex Tryz.prog (Hv gl) (Mg gl) 43 dZ .d (Th [0,1,5,21,22,23]) ⟨[(0, .cst (Ci l)),(1, .rptr (Ds a f h b)),(5,vi x),(8,vi z),(21,vl ls),(22,vi (Aa ls)),(23,vi i)],[],[]⟩=
    some (0,⟨Ps (Ci l) (Ds a f h b) ls i z,[],[]⟩):=A4
theorem mX(gl:List (Nat×List Value))(l:Nat)(a f h:Int)(b:LX)(ls:LI)(i x:Int):ex Tryz.prog (Hv gl) (Mg gl) 43 cS .d (Th [0,1,5,21,22,23]) ⟨Ps (Ci l) (Ds a f h b) ls i x,[],[]⟩=
    some (0,⟨Ps (Ci l) (Ds a f h b) ls (Ac i 1) x,[],[]⟩):=A4
theorem jD:FT Tryz.prog ⟨[],[],false,false⟩ (Mc Tryz.prog ⟨[],[],false,false⟩ 8 []) 43 (GV++Vw::[BC]).toArray [BC] ⟨[(39,vt false)],[],[]⟩ (kR [40] [] 0)=some (0,⟨[(40,vt true)],[],[]⟩):=A4
theorem iH:ex Tryz.prog ⟨[],[],false,false⟩ (Mc Tryz.prog ⟨[],[],false,false⟩ 8 []) 43 WJ .d (Th []) ⟨[(40,vt true)],[],[]⟩=some (1,⟨[],[],[]⟩):=A4
theorem iD{i:Nat}(h:i<17179869184):Ac (i:Int) 1=((i+1:Nat):Int):=by
  rw[show Ac (i:Int) 1=Go.Lv.wrap64 ((i:Int)+1)from rfl,Go.Lv.IS A7 A7];omega
def QD:PV->Option (List LX)
  | .agg [.val (.int .i64) a, .val (.int .i64) _, .val (.int .i64) h, .val (.list (.int .i32)) b]=>AB a h b
  |_=>none
theorem bH{v:PV}{xs:List LX}(h:QD v=some xs):∃a f r b,v=Ds a f r b/\AB a r b=some xs:=by
  unfold QD at h;split at h
  · exact⟨_,_,_,_,rfl,h⟩
  · cases h
theorem Xb{a:Int}{b:LX}{n:Int}{l:LI}{x:Int}{ps:List LX}(h:If a b (n::l) x=some ps):∃p r,Bu b x (Ac x (Ew n a))=some p/\If a b l (Ac x (Ew n a))=some r/\ps=p::r:=by
  simp only[If]at h;obtain⟨p,h1,h⟩:=Go.Lv.bind_some h;obtain⟨r,h2,h⟩:=Go.Lv.bind_some h;cases h;exact⟨p,r,h1,h2,rfl⟩
theorem Zz{a:Int}{b:LX}:∀{l:LI} {x:Int} {ps:List LX},If a b l x=some ps->ps.length=l.length
  |[],x,ps,h=>by simp only[If,Option.some.injEq]at h;subst h;rfl
  |n::l,x,ps,h=>by
    obtain⟨p,r,_,h2,rfl⟩:=Xb h;simp[Zz h2]
theorem gH{gl:List (Nat×List Value)}(hC:ConOk Tryz.prog gl 141 NT)(hE:Ent Tryz.prog 140):ItOk Tryz.prog gl 140 ⟨37, .list (.int .i32),QD⟩:=by
  refine⟨hE,λm B w b v cells xs hB hb hcell henc hgl hF=>?_⟩;have hF:QD v=some xs:=hF;obtain⟨a,f,h,s,rfl,hF⟩:=bH hF;have hM:Tryz.prog.follows .mixedOrders=true:=A4
  have hT:Lt Tryz.prog (Hv gl):= .cons hC .nil;have hI:∀{R:Type},Kl (R:=R) Tryz.prog (Hv gl).gl (Mg gl):=GD hM hT aO.nil 8;unfold AB at hF;obtain⟨u0,hok,hF⟩:=Go.Lv.bind_some hF;obtain⟨p0,hall,hF⟩:=Go.Lv.bind_some hF;obtain⟨u1,hlim,hF⟩:=Go.Lv.bind_some hF;have hlim:p0.1.length<=17179869184:=by
    unfold Ef at hlim;split at hlim
    · rename_i h;have h':=of_decide_eq_true h;unfold Aa at h';omega
    · cases hlim
  have hlen:=Zz hF;intro l J Jx W hk hJ hJx hY h0;refine callsIn_of_wp_marks Tryz.func140 fS trivial ?_ rfl;have gK:∀i V X Y,J i V X->KeepN (λ_=>True) X Y->J i (grown V X Y) Y:=λi V X Y h k=>hJ i V X Y h k;have hbW:W.heap[b]? =some (.cells cells.toArray 37 (0,0)):=(hk.same b (hB b hb) trivial).trans hcell;have hm0:MemI gl B W ⟨[(0, .cst (Ci l)),(1, .rptr (Ds a f h s))],[],[]⟩ (BZ [Ci l, .pointer (some ⟨b,0,none⟩)]):=by
    refine⟨λk hk'=>Nat.lt_of_lt_of_le (hB k hk') hk.gr.le,rfl,rfl,λp hp=>?_,hgl.keep (λ_ h=>h) (λk hk'=>hk.same k (hB k hk') trivial) hk.gr⟩;rcases List.mem_cons.1 hp with rfl|hp
    · exact(show _/\ _ from⟨rfl,rfl⟩)
    rcases List.mem_cons.1 hp with rfl|hp
    · exact⟨_,cells,rfl,⟨b,0,cells.toArray,_,_,rfl,hb,hbW,λi _=>by simp⟩,Am.step (λ_ h=>h) (λk hk'=>hk.same k (hB k hk') trivial) (.refl []) henc⟩
    · cases hp
  have ha0:=PA (fn:=Tryz.f140) (vs:=[Ci l, .pointer (some ⟨b,0,none⟩)]) A4;have e0:(#[Value.func (.yield l) #[] #[]]++ #[Value.pointer (some ⟨b,0,none⟩)]:Array Value)=[Ci l, .pointer (some ⟨b,0,none⟩)].toArray:=by simp
  rw[e0]
  revert ha0
  generalize({tmps:=_,defers:=[]}:Act)=tY;rw[mT];intro ha0;refine EF hM hT hI (J:=J 0) (gK 0) .d [0,1,3] [⟨3,[], .ro (.int .i64)⟩] ((kX gl l a f h s).trans (by rw[hok,hall];rfl)) rfl hm0 h0 ha0 λσ1 V1 w1 a1 f1 j1 m1=>?_;refine EF hM hT hI (J:=J 0) (gK 0) .d [0,1,3,5] [] (lW gl l _ p0.1) rfl m1 j1 f1 λσ2 V2 w2 a2 f2 j2 m2=>?_;refine EF hM hT hI (J:=J 0) (gK 0) .d [0,1,5,21,22,23] [] (mH gl l a f h s p0.1) rfl m2 j2 f2 λσ3 V3 w3 a3 f3 j3 m3=>?_;have fin:∀{σ:Env} {a':Act} {w':World},Fits [] 43 a' σ-> ((∃V,J xs.length V w')\/Jx w')->LeavesInM (wr none) m Tryz.prog Tryz.f140 a'.tmps (λe W'=>(∃v,e= .returned v)/\ ((∃V,J xs.length V W')\/Jx W')) a'.defers .returning w':=by
    intro σ a' w' hf hh;rw[hf.defers];exact⟨_,Ro (rs:=[]) (vs:=[]) A4 hf trivial,⟨_,rfl⟩,hh⟩
  refine wpIn_block (fU (p0.1.length+1) (λq a' w'=>∃(i:Nat) (x:Int) (V:Reg) (σ:Env),q+i=p0.1.length+1/\i<=p0.1.length/\Fits [] 43 a' σ/\J i V w'/\MemI gl V w' ⟨Ps (Ci l) (Ds a f h s) p0.1 (i:Int) x,[],[]⟩ σ/\If a s (p0.1.drop i) x=some (xs.drop i)) ?_ ?_
    ⟨0,0,V3,σ3,rfl,Nat.zero_le _,f3,j3,m3,hF⟩)
  · rintro a' w' ⟨i,x,V,σ,hq,hi,_⟩
    omega
  rintro q a' w' ⟨i,x,V,σ,hq,hi,hf,hj,hm,hp⟩;refine EF hM hT hI (J:=J i) (gK i) .d [0,1,5,21,22,23,24] [] (kU gl l a f h s p0.1 i x) rfl hm hj hf λσ4 V4 w4 a4 f4 j4 m4=>?_;by_cases hlt:i<p0.1.length
  · have hg:Cn (i:Int) (Aa p0.1)=true:=by simp[Cn,Aa,GI.toZ];exact hlt
    rw[hg]at m4;refine EF hM hT hI (J:=J i) (gK i) .d [0,1,5,21,22,23] [] (dT gl l a f h s p0.1 i x true) rfl m4 j4 f4 λσ5 V5 w5 a5 f5 j5 m5=>?_;obtain⟨n,hn⟩:∃n,p0.1[i]? =some n:=⟨_,List.getElem?_eq_getElem hlt⟩;have hgn:Go.Lv.Ag p0.1 (i:Int)=some n:=by simp[Go.Lv.Ag,hn]
    have hd:p0.1.drop i=n::p0.1.drop (i+1):=by rw[List.drop_eq_getElem_cons hlt];congr 1;rw[List.getElem?_eq_getElem hlt]at hn;exact Option.some.inj hn
    rw[hd]at hp;obtain⟨p,r,hcut,hp',hxs⟩:=Xb hp;have hi':i<xs.length:=A7
    have hx:xs[i]? =some p:=by
      have:=congrArg List.head? hxs;rw[List.head?_drop]at this;exact this
    have hr:xs.drop (i+1)=r:=by
      have:=congrArg List.tail hxs;rw[List.tail_drop]at this;exact this
    refine wpIn_seq (wpIn_block ?_);refine EF hM hT hI (J:=J i) (gK i) .d [0,1,5,7,21,22,23] [] ((lP gl l a f h s p0.1 i x).trans (by rw[hgn];rfl)) rfl m5 j5 f5 λσ6 V6 w6 a6 f6 j6 m6=>?_;refine EF hM hT hI (J:=J i) (gK i) .d [0,1,5,8,21,22,23] [] (mK gl l a f h s p0.1 i x n) rfl m6 j6 f6 λσ7 V7 w7 a7 f7 j7 m7=>?_;refine wpIn_seq (wpIn_seq (wpIn_region_lit ?_));refine UZ (T:=Hv gl) hT hI (J:=J i) (gK i) [0,1,5,8,21,22,23,33,38] A4 ((mP gl l a f h s p0.1 i x (Ac x (Ew n a))).trans (by rw[hcut];rfl)) rfl m7 j7 f7 λσ8 V8 w8 a8 f8 j8 m8=>?_;have v33:σ8 33=Ci l:=by
      have:=m8.val (t:=33) (p:= .cst (Ci l)) A9 rfl;exact(show [σ8 33]=[Ci l]/\ _ from this).1|>List.head_eq_of_cons_eq
    have v38:Dg V8 w8 [] (vw p) (σ8 38):=(Vn rfl).1 (m8.val (t:=38) (p:=vw p) A9 rfl);refine iU iJ jJ B0 (λc hc=>by rw[YD]at hc;cases hc) (YX YD v33 rfl) (hY i V8 w8 (σ8 38) hi' j8 (λx' hx'=>by rw[hx]at hx';cases hx';exact v38)) ?_ f8;rintro e w9 (⟨rfl,j9,hgr,hsame⟩|⟨rfl,jx⟩)
    · refine⟨_,rfl,λa9 f9=>?_⟩
      have m9:=(m8.round hgr hsame).set (d:=39) (p:=vt true) (v:= .bool true) rfl (show [Value.bool true]=[Value.bool true]from rfl);refine UZ (T:=Hv gl) (l2:=[]) hT hI (J:=J (i+1)) (gK (i+1)) [0,1,5,8,21,22,23,40] A4 (mL gl l a f h s p0.1 i x (Ac x (Ew n a)) p true) rfl m9 j9 f9 λσb Vb wb ab fb jb mb=>?_;refine wpIn_mono (BB hM hT hI (J:=J (i+1)) (gK (i+1)) (an:= .d) (lv:=[0,1,5,8,21,22,23]) (co:=[]) (lG gl l a f h s p0.1 i x (Ac x (Ew n a)) false) rfl mb jb fb) ?_;rintro e ac wc ⟨he,σc,Vc,fc,jc,mc⟩;cases e with
      |normal=>
        refine wpIn_mono (BB hM hT hI (J:=J (i+1)) (gK (i+1)) (an:= .d) (lv:=[0,1,5,21,22,23]) (co:=[]) (lB gl l a f h s p0.1 i x (Ac x (Ew n a))) rfl mc jc fc) ?_;rintro e ad wd ⟨he,σd,Vd,fd,jd,md⟩;cases e with
        |normal=>
          refine wpIn_mono (BB hM hT hI (J:=J (i+1)) (gK (i+1)) (an:= .d) (lv:=[0,1,5,21,22,23]) (co:=[]) (mX gl l a f h s p0.1 i (Ac x (Ew n a))) rfl md jd fd) ?_;rintro e ae we ⟨he,σe,Ve,fe,je,me⟩;cases e with
          |normal=>
            have hadd:Ac (i:Int) 1=((i+1:Nat):Int):=iD A7;rw[hadd]at me;exact⟨i+1,_,Ve,σe,A7,A7,fe,je,me,by rw[hr];exact hp'⟩
          |ret=>simp[EG]at he
          |exit id=>simp[EG]at he
          |goto l=>cases he
          |panic c=>cases he
          |outgrown=>cases he
        |ret=>simp[EG]at he
        |exit id=>simp[EG]at he
        |goto l=>cases he
        |panic c=>cases he
        |outgrown=>cases he
      |ret=>simp[EG]at he
      |exit id=>simp[EG]at he
      |goto l=>cases he
      |panic c=>cases he
      |outgrown=>cases he
    · refine⟨_,rfl,λa9 f9=>?_⟩
      have hT0:Lt Tryz.prog ⟨[],[],false,false⟩:= .nil;have hI0:∀{R:Type},Kl (R:=R) Tryz.prog [] (Mc Tryz.prog ⟨[],[],false,false⟩ 8 []):=GD hM hT0 aO.nil 8;have m9:MemI [] (λ_=>False) w9 ⟨[(39,vt false)],[],[]⟩ (Hi σ8 39 (.bool false)):=⟨λ_ h=>h.elim,rfl,rfl,(λp hp=>by
        rcases List.mem_cons.1 hp with rfl|hp
        · exact Cw.put rfl (show [Value.bool false]=[Value.bool false]from rfl)
        · cases hp),λp hp=>by cases hp⟩
      refine UZ (T:=⟨[],[],false,false⟩) (l2:=[]) hT0 hI0 (J:=λ_ W=>Jx W) (λ_ X Y h k=>hJx X Y h k) [40] A4 jD rfl m9 jx f9 λσb Vb wb ab fb jb mb=>?_;refine wpIn_mono (BB (T:=⟨[],[],false,false⟩) hM hT0 hI0 (J:=λ_ W=>Jx W) (λ_ X Y h k=>hJx X Y h k) (an:= .d) (lv:=[]) (co:=[]) iH rfl mb jb fb) ?_;rintro e ac wc ⟨he,σc,Vc,fc,jc,mc⟩;cases e with
      |ret=>exact fin fc (.inr jc)
      |normal=>simp[EG]at he
      |exit id=>simp[EG]at he
      |goto l=>cases he
      |panic c=>cases he
      |outgrown=>cases he
  · have hi2:i=p0.1.length:=A7
    have hg:Cn (i:Int) (Aa p0.1)=false:=by subst hi2;simp[Cn,Aa,GI.toZ]
    rw[hg]at m4;refine wpIn_seq (wpIn_mono (BB hM hT hI (J:=J i) (gK i) (an:= .d) (lv:=[0,1,5,21,22,23]) (co:=[]) (dT gl l a f h s p0.1 i x false) rfl m4 j4 f4) ?_);rintro e ac wc ⟨he,σc,Vc,fc,jc,mc⟩;cases e with
    |exit id=>
      obtain rfl:id=0:=by simpa [EG]using he
      exact fin fc (.inl ⟨Vc,by rw[hlen,<-hi2];exact jc⟩)
    |ret=>simp[EG]at he
    |normal=>simp[EG]at he
    |goto l=>cases he
    |panic c=>cases he
    |outgrown=>cases he
abbrev QV:List Sh:=[.agg [.lf (.int .i64) none, .lf (.int .i64) none, .lf (.int .i64) none, .lf (.list (.int .i32)) none], .lf .str none]
abbrev Nf:List Sh:=[.lf (.list (.list (.int .u8))) (some 22), .lf (.int .i64) none]
noncomputable def aL:Con:=⟨[.agg [.lf (.int .i64) none, .lf (.int .i64) none, .lf (.int .i64) none, .lf (.list (.int .i32)) none]],[.lf (.int .i64) none],λx=>Ly x.1 x.2.1 x.2.2.1 x.2.2.2⟩
noncomputable def XN:Con:=⟨[.lf .str none],[.lf (.vec 16 (.int .i32)) none, .lf (.int .i64) none],Kr⟩
noncomputable def YA:Con:=⟨[.agg [.lf (.int .i64) none, .lf (.int .i64) none], .lf (.vec 16 (.int .i32)) none, .lf (.list (.int .i32)) none],[.lf (.list (.int .u8)) (some 5), .lf (.int .i64) none],λx=>Lm x.1 x.2.1 x.2.2.1 x.2.2.2⟩
noncomputable def aI:Con:=⟨[.agg [.lf (.int .i64) none, .lf (.int .i64) none, .lf (.int .i64) none, .lf (.list (.int .i32)) none]],[.agg [.lf (.int .i64) none, .lf (.int .i64) none]],λx=>DR x.1 x.2.1 x.2.2.1 x.2.2.2⟩
noncomputable def HA(gl:List (Nat×List Value)):Tab:=⟨[(83,aL),(80,XN),(85,YA),(86,aI)],gl,true,false⟩
noncomputable def ZV:List (Nat×ItC):=[(140,⟨37, .list (.int .i32),QD⟩)]
noncomputable def RE:List (Nat×An):=[(84, .d)]
noncomputable abbrev dV{R:Type}(gl:List (Nat×List Value)):HW R:=Mc Tryz.prog (HA gl) 8 RE
noncomputable def ND:An:= .loop [2,4,5,7,9] [⟨9,[], .own 22 (.list (.int .u8))⟩] .d
noncomputable def cW:An:= .seq .d (.seq .d (.seq .d (.seq .d (.seq .d (.seq (.seq .d (.blk ND)) .d)))))
noncomputable def lF:Code:=fB Tryz.f36
noncomputable def cT:Code:=cB (cB (cB (cB (cB lF))))
noncomputable def dX:Code:=cA (cB (cA cT))
noncomputable def fW:Code:=cB cT
def tH:Code->Code| .rangeFunc _ _ a _=>a|c=>c
def sW:Code->Code| .rangeFunc _ _ _ b=>b|c=>c
noncomputable def VT:K (Lg (Hj Nf)):={n:=BO Tryz.prog Nf Tryz.f36.results.toList,x:=λ_ _=>none,r:=BO Tryz.prog Nf Tryz.f36.results.toList}
noncomputable def cY(gl:List (Nat×List Value))(s:S):Option (Lg (Hj Nf)):=ex Tryz.prog (HA gl) (dV gl) 45 fW .d VT s
noncomputable def eI(gl:List (Nat×List Value)):K (Lg (Hj Nf)):=⟨cY gl,λid s=>Bf (Nat.beq id 0) (cY gl s)<|VT.x id s,VT.r⟩
noncomputable def HT(gl:List (Nat×List Value)):List LX->S->Option (Lg (Hj Nf)):=oF ND (AM Tryz.prog (HA gl) (dV gl) 45 28 (tH dX) (sW dX) ND (eI gl) (.list (.int .i32))) (eI gl).n
def HP(a f h:Int)(b t:LX)(o:List LB):S:=⟨[(2, .ptr 0 []),(4, .ptr 1 []),(5, .ptr 2 []),(7, .ptr 3 []),(9, .ptr 4 [])],
  [.box 37 (.agg [vi a,vi f,vi h,vw b]), .box 58 .nils, .box 26 (vi 0), .box 149 (.val (.vec 16 (.int .i32)) t), .box 58 (.own 5), .arr 22 (.list (.int .u8)) o],[]⟩
theorem lM(gl:List (Nat×List Value))(a f h:Int)(b t:LX)(o:List LB):HT gl [] (HP a f h b t o)=some (o,(0:Int)):=A4
theorem mA(gl:List (Nat×List Value))(a f h:Int)(b t:LX)(o:List LB)(x:LX)(xs:List LX):HT gl (x::xs) (HP a f h b t o)=
    Option.bind (Lm a f t x) λy=>if(Bm y.2 0)=true then some ([],y.2)else Option.bind (Bb o [y.1]) λo'=>HT gl xs (HP a f h b t o'):=A4
theorem eJ(gl:List (Nat×List Value))(a f h:Int)(b t:LX):∀(xs:List LX) (o:List LB),HT gl xs (HP a f h b t o)=Mt a f t xs o
  |[],o=>lM gl a f h b t o
  |x::xs,o=>by
    rw[mA,Mt];simp only[eJ gl a f h b t xs];rfl
theorem gR(gl:List (Nat×List Value))(x:Lg (Hj QV)):lU Tryz.prog (HA gl) RE ZV Tryz.f36 cW QV Nf x=Yv x.1 x.2.1 x.2.2.1 x.2.2.2.1 x.2.2.2.2:=by
  refine Eq.trans (b:=Option.bind (Ly x.1 x.2.1 x.2.2.1 x.2.2.2.1) λe=>if(Bm e 0)=true then some ([],e)else Option.bind (Kr x.2.2.2.2) λt=>if(Bm t.2 0)=true then some ([],t.2)
    else Option.bind (AB x.1 x.2.2.1 x.2.2.2.1) λxs=>HT gl xs (HP x.1 x.2.1 x.2.2.1 x.2.2.2.1 t.1 [])) A4 ?_
  simp only[eJ];rfl
noncomputable def Tc:Con:=⟨QV,Nf,λx=>Yv x.1 x.2.1 x.2.2.1 x.2.2.2.1 x.2.2.2.2⟩
theorem PH{gl:List (Nat×List Value)}(tZ:ConOk Tryz.prog gl 83 aL)(uA:ConOk Tryz.prog gl 80 XN)(uB:ConOk Tryz.prog gl 141 NT)(uC:ConOk Tryz.prog gl 85 YA)(uD:ConOk Tryz.prog gl 86 aI):
    ConOk Tryz.prog gl 36 Tc:=by
  have hE:∀{f:Nat} {fn:Func},Tryz.prog.funcs[f]? =some fn→(!(fn.name== "runtime.NumGoroutine")&&fn.body.isSome)=true→Ent Tryz.prog f:=by
    intro f fn hf hb;simp only[Bool.and_eq_true,Bool.not_eq_true']at hb;obtain⟨c,hc⟩:=Option.isSome_iff_exists.1 hb.2;exact Ent.mk hf hb.1 hc
  refine YP (T:=HA gl) (its:=ZV) (ans:=RE) (an:=cW) A4 Tryz.func36 (hE Tryz.func36 A4) (.cons tZ (.cons uA (.cons uC (.cons uD .nil)))) (aO.cons (hE Tryz.func84 A4) aO.nil) ?_ A4 (gR gl);intro p hp;rcases List.mem_cons.1 hp with rfl|hp
  · exact gH uB (hE Tryz.func140 A4)
  · cases hp
theorem SE{W W':World}(h:KeepN (λ_=>True) W W'):W.grownBy W' none:=⟨h.gr.os,h.gr.tape,h.gr.output,h.gr.le,λk hk _=>h.same k hk trivial⟩
theorem iT{F:Fence}{n:Nat}{P:Program}{Q:Exit->Act->World->Prop}{a:Act}{w:World}{c:Code}(m:Nat)(I:Nat->Act->World->Prop)(h0:∀a w,¬I 0 a w)
    (hs:∀q a w,I (q+1) a w->c.wpIn F n P (Exit.then (I q) Q) a w) (h:I m a w):(Code.loop c).wpIn F n P Q a w:=by
  refine wpIn_loop_rounds m ?_
  induction m generalizing a w with
  |zero=>exact absurd h (h0 a w)
  |succ m ih=>
    rw[roundsIn_succ];refine wpIn_mono (hs m a w h) λe a' w' hh=>?_;cases e<;>first|exact ih hh|exact hh
theorem qN{α:Type}{c:Prop} [Decidable c]{a b y:α}(h:(if c then a else b)=y)(hc:¬c):b=y:=by rw[if_neg hc]at h;exact h
theorem mC{A:Reg}{w:World}{v:Value}{k:Kd}{l y:List k.T}{a:Int}(h:Ak A w (.list (.int k)) l [v])(hc:Bu l a (Aa l)=some y):
    ∃(p:Option Addr) (len cap m:Nat),v= .slice p len cap/\a=(m:Int)/\m<=len/\len<=cap/\Ak A w (.list (.int k)) y [.slice (if cap=m then p else p.map (·.add m)) (len-m) (cap-m)]:=by
  obtain⟨v1,c0,e1,h1,h2⟩:=h;cases e1;obtain⟨p,len,cap,rfl,g1,g2,g3,g4⟩:=h1;obtain⟨k1,k2,k3,k4,rfl⟩:=Pb hc;simp only[ET.size,Nat.mul_one]at g1 g4;have hll:=h2.len (z:=1) λx c h=>by rw[show c=_ from h];rfl
  have hln:l.length=len:=A7
  have hto:(Aa l).toNat=len:=by simp[Aa,hln]
  rw[hto]at k3⊢;refine⟨p,len,cap,a.toNat,rfl,k1,k3,g2,_,c0.drop a.toNat,rfl,⟨_,_,_,rfl,?_,A7,λhp=>?_,λhcap=>?_⟩,?_⟩
  · simp only[ET.size,List.length_drop];omega
  · split at hp
    · omega
    · rename_i hne
      cases p with
      |none=>have:=g3 rfl;omega
      |some a=>cases hp
  · rw[if_neg A7]
    obtain⟨b,off,arr,T,fr,rfl,e2,e3,e4,e5⟩:=g4 A7;refine⟨b,off+a.toNat,arr,T,fr,by simp[Addr.add],e2,e3,by simp only[ET.size];omega,λi hi=>?_⟩;simp only[ET.size]at hi;rw[List.getElem?_drop,<-e5 (a.toNat+i) A7,Nat.add_assoc]
  · have:=Az.drop (z:=1) (λx c h=>by rw[show c=_ from h];rfl) a.toNat h2
    rw[Nat.mul_one]at this;rw[List.take_of_length_le A7];exact this
theorem pR{P:Program}{f:Nat}{gl:List (Nat×List Value)}{F:List UInt8->Option (Int×Int)}(hC:ConOk P gl f ⟨[.lf (.list (.int .u8)) none],[.lf (.int .i64) none, .lf (.int .i64) none],F⟩){A:Reg}{W:World}{v:Value}{s:List UInt8}{r:Int×Int}
    (hv:Ak A W (.list (.int .u8)) s [v]) (hgl:GlOk gl A W) (h:F s=some r):Calls P f #[v] W λe W'=>e= .returned (.tuple #[.int .i64 r.1, .int .i64 r.2])/\KeepN (λ_=>True) W W':=by
  have hv':Ak (λ_=>True/\True) W (.list (.int .u8)) s [v]:=Ak.step (λ_ _=>⟨trivial,trivial⟩) (λ_ _=>rfl) hv;refine(hC.ok (λ_=>True) (λ_=>True) W [] [v] [.val (.list (.int .u8)) s] s r rfl rfl (λi a m _ h=>by simp at h) trivial ⟨v,[],rfl,hv',rfl⟩ (λp hp=>⟨(hgl p hp).1,trivial,(hgl p hp).2.2⟩) h).mono ?_;rintro e w' ⟨us,rfl,hk,A1,L1,g1,g2,g3⟩;obtain⟨ps,its,k1,k2,k3,k4,k5⟩:=g3 ⟨[],[],[]⟩ [] (λ_=>True) rfl (λ_ _=>trivial) (λ_ _ _=>trivial);refine⟨?_,hk⟩;obtain rfl:=Option.some.inj (show some [PV.val (.int .i64) r.1,PV.val (.int .i64) r.2]=some ps from k2);obtain⟨_,_,rfl,e1,_,_,rfl,e2,rfl⟩:=k3;cases(show [_]=[Value.int .i64 r.1]from e1);cases(show [_]=[Value.int .i64 r.2]from e2);rfl
structure KpF (n₀ Bx:Nat) (A B:World):Prop where
  le:A.heap.size<=B.heap.size
  box:B.heap[Bx]? =A.heap[Bx]?
  old:∀k,k<n₀->B.heap[k]? =A.heap[k]?
def XL(l:List (Int×Int)):Int:=l.foldl (λs x=>Ac s x.1) 0
def fin(y:Int×Int)(xs:List (Int×Int)):Prop:=(∃x∈xs,x.2≠0)\/y=(XL xs,0)
def iV(y:Int×Int)(pre:List (Int×Int)):Prop:=∃p x,pre=p++[x]/\ (x.2≠0->y=(0,x.2))
theorem Tryz.qI:Tryz.f192.ntmps=35:=A4
theorem Tryz.tC:Tryz.prog.underlying 22=some (.slice 5):=A4
theorem Tryz.sU:Dh Tryz.prog 5 1:=Dh.mk A4
set_option maxHeartbeats 2000000 in
set_option maxRecDepth 100000 in
theorem lO(n:Nat)(l Bx n₀:Nat)(v:Value)(b:List UInt8)(y:Int×Int)(J Jx:List (Int×Int)->World->Prop)(gl:List (Nat×List Value))
    (hC:ConOk Tryz.prog gl 193 ⟨[.lf (.list (.int .u8)) none],[.lf (.int .i64) none, .lf (.int .i64) none],Md⟩)
    (hY:∀pre x W,J pre W->pre.length<Cu->YieldAt Fence.wide (n-1) Tryz.prog l #[.int .i64 x.1, .int .i64 x.2] W λe W'=>
      (e= .returned (.bool true)/\J (pre++[x]) W'/\KpF n₀ Bx W W')\/ (e= .returned (.bool false)/\Jx (pre++[x]) W'))
    (W0:World) (hJ:AbidesFrom W0.heap.size J) (cL:W0.heap[Bx]? =some (.cells #[v] 22 (0,0))) (hn:n₀<=W0.heap.size) (hv:Ak (λk=>k<n₀) W0 (.list (.int .u8)) b [v]) (hgl:GlOk gl (λk=>k<n₀) W0)
    (h0:J [] W0) (hy:Fl b=some y):
    CallsIn Fence.wide n Tryz.prog 192 #[.func (.yield l) #[] #[], .pointer (some ⟨Bx,0,none⟩)] W0 λe W'=>(∃v,e= .returned v)/\ ((∃ys,fin y ys/\J ys W')\/ (∃pre,iV y pre/\Jx pre W')):=by
  refine callsIn_of_wp Tryz.func192 rfl trivial ?_ rfl;simp only[Tryz.qI,List.size_toArray,List.length_cons,List.length_nil,Nat.reduceAdd,Nat.reduceSub,Array.replicate_succ,Array.replicate_zero,List.push_toArray,List.append_toArray,List.nil_append,List.cons_append]
  gi_wp2
  refine iT Cu (λq a W=>∃(pre:List (Int×Int)) (x:Int) (v2 v4 v5 v6 v7 v8 v9 v10 v11 v12 v13 v14 v15 v16 v17 v18 v19 v20 v21 v22 v23 v24 v25 v26 v27 v28 v29 v30 v31 v32 v33 v34:Value),a={tmps:= #[.func (.yield l) #[] #[], .pointer (some ⟨Bx,0,none⟩),v2, .int .i64 x,v4,v5,v6,v7,v8,v9,v10,v11,v12,v13,v14,v15,v16,v17,v18,v19,v20,v21,v22,v23,v24,v25,v26,v27,v28,v29,v30,v31,v32,v33,v34],defers:=[]}/\Mr b q x=some y/\XL pre=x/\pre.length+q=Cu/\J pre W/\KpF n₀ Bx W0 W/\W0.heap.size<=W.heap.size) ?_ ?_ ?_
  · rintro a W ⟨pre,x,v2,v4,v5,v6,v7,v8,v9,v10,v11,v12,v13,v14,v15,v16,v17,v18,v19,v20,v21,v22,v23,v24,v25,v26,v27,v28,v29,v30,v31,v32,v33,v34,_,h,_⟩
    cases h
  · rintro q a W ⟨pre,x,v2,v4,v5,v6,v7,v8,v9,v10,v11,v12,v13,v14,v15,v16,v17,v18,v19,v20,v21,v22,v23,v24,v25,v26,v27,v28,v29,v30,v31,v32,v33,v34,rfl,h,hx,hl,uE,hk,hs⟩
    simp only[Mr]at h;obtain⟨s,hcut,h⟩:=Go.Lv.bind_some h;obtain⟨r,hsz,h⟩:=Go.Lv.bind_some h;have uF:Ak (λk=>k<n₀) W (.list (.int .u8)) b [v]:=Ak.step (λ_ h=>h) (λk hk'=>hk.old k hk') hv;obtain⟨p,len,cap,m,rfl,rfl,hm,hlc,hsv⟩:=mC (k:= .u8) uF hcut;have hc:W.cell? ⟨Bx,0,none⟩=some (.slice p len cap):=by
      have:=hk.box;simp only[World.cell?,this,cL];rfl
    have hu:=Tryz.tC;have hz:=Tryz.sU;obtain⟨k,e⟩:=r;have e1:geq e 6=(e==6):=rfl;have e2:geq e 0=(e==0):=rfl;have e3:Ac (m:Int) k=RowKit.wrap64 (m+k):=by
      simp only[Ac,GI.ofZ,GI.toZ,Go.Lv.wrap64,RowKit.wrap64];exact IntKind.wrap_i64 _
    have e4:Gc (RowKit.wrap64 (m+k)) 4000=decide (4000<RowKit.wrap64 (m+k)):=rfl;have e5:Bm e 0=(e !=0):=rfl;rw[e1,e2,e3,e4,e5]at h;have hp:=h;have hgW:GlOk gl (λk=>k<n₀) W:=λp hp=>⟨Nat.lt_of_lt_of_le (hgl p hp).1 hs,(hgl p hp).2.1,by rw[hk.old _ (hgl p hp).2.1];exact(hgl p hp).2.2⟩;have hcall:∀v',Ak (λk=>k<n₀) W (.list (.int .u8)) s [v']->CallsIn Fence.wide (n-1) Tryz.prog 193 #[v'] W λe0 W'=>e0= .returned (.tuple #[.int .i64 k, .int .i64 e])/\KeepN (λ_=>True) W W':=
      λv' hv'=>callsIn_wide.2 (pR hC hv' hgW hsz)
    have hsm:∀z:Int,XL (pre++[(k,z)])=RowKit.wrap64 (m+k):=λz=>by rw[<-e3,<-hx];simp[XL]
    have hlt:Bx<W.heap.size:=Nat.lt_of_lt_of_le (Array.getElem?_eq_some_iff.1 cL).1 hs
    gi_wp2
    all_goals
      refine⟨trivial,(λh=>nomatch h),(hcall _ (by first|(rw[if_neg (by assumption)]at hsv;exact hsv)|(simpa [*]using hsv))).mono ?_⟩;rintro e0 W1 ⟨rfl,hk1⟩;have hJ2:=hJ pre W W1 none uE (SE hk1) (λr e=>by cases e);have hyl:∀e',YieldAt Fence.wide (n-1) Tryz.prog l #[Value.int IntKind.i64 k,Value.int IntKind.i64 e'] W1 _:=λe'=>hY pre (k,e') W1 hJ2 A7
      gi_wp2
      · rename_i h6
        rw[if_pos h6]at hp;refine bodyPost_ret (results_none rfl _ _ _) rfl ?_;exact⟨⟨_,rfl⟩, .inl ⟨pre, .inr (by rw[hx];cases hp;rfl),hJ2⟩⟩
      · obtain⟨fn,tmps,assign,body,hy1,hR⟩:=hyl 4
        rw[hy1]
        gi_wp2
        refine⟨(λh=>nomatch h),hR.mono ?_⟩;rintro e3 W3 (⟨rfl,hJ3,hk3⟩|⟨rfl,hJx3⟩)
        · gi_wp2
          refine bodyPost_ret (results_none rfl _ _ _) rfl ?_;exact⟨⟨_,rfl⟩, .inl ⟨pre++[(k,4)], .inl ⟨(k,4),A9,A9⟩,hJ3⟩⟩
        · gi_wp2
          refine bodyPost_ret (results_none rfl _ _ _) rfl ?_;refine⟨⟨_,rfl⟩, .inr ⟨pre++[(k,4)],⟨pre,(k,4),rfl,λhne=>?_⟩,hJx3⟩⟩;simp at hne
          all_goals simp_all
      · obtain⟨fn,tmps,assign,body,hy1,hR⟩:=hyl 0
        rw[hy1]
        gi_wp2
        refine⟨(λh=>nomatch h),hR.mono ?_⟩;rintro e3 W3 (⟨rfl,hJ3,hk3⟩|⟨rfl,hJx3⟩)
        · gi_wp2
          refine⟨pre++[(k,0)],_,_,_,_,_,_,_,_,_,_,_,_,_,_,_,_,_,_,_,_,_,_,_,_,_,_,_,_,_,_,_,_,_,rfl,?_,‹∀z:Int,XL (pre++[(k,z)])=RowKit.wrap64 ((m:Int)+k)› 0,by simp;omega,hJ3,⟨?_,?_,?_⟩,?_⟩
          · simp_all
            exact qN (by assumption) A7
          · exact Nat.le_trans hk.le (Nat.le_trans hk1.gr.le hk3.le)
          · exact hk3.box.trans ((hk1.same _ ‹Bx<W.heap.size› trivial).trans hk.box)
          · exact λj hj=>(hk3.old j hj).trans ((hk1.same j (Nat.lt_of_lt_of_le hj (Nat.le_trans hn hs)) trivial).trans (hk.old j hj))
          · exact Nat.le_trans hs (Nat.le_trans hk1.gr.le hk3.le)
        · gi_wp2
          refine bodyPost_ret (results_none rfl _ _ _) rfl ?_;exact⟨⟨_,rfl⟩, .inr ⟨pre++[(k,0)],⟨pre,(k,0),rfl,λhne=>absurd rfl hne⟩,hJx3⟩⟩
      · obtain⟨fn,tmps,assign,body,hy1,hR⟩:=hyl e
        rw[hy1]
        gi_wp2
        refine⟨(λh=>nomatch h),hR.mono ?_⟩;rintro e3 W3 (⟨rfl,hJ3,hk3⟩|⟨rfl,hJx3⟩)
        · gi_wp2
          rename_i hne;refine bodyPost_ret (results_none rfl _ _ _) rfl ?_;exact⟨⟨_,rfl⟩, .inl ⟨pre++[(k,e)], .inl ⟨(k,e),A9,by simpa using hne⟩,hJ3⟩⟩
        · gi_wp2
          refine bodyPost_ret (results_none rfl _ _ _) rfl ?_;refine⟨⟨_,rfl⟩, .inr ⟨pre++[(k,e)],⟨pre,(k,e),rfl,λhne=>?_⟩,hJx3⟩⟩;simp at hne
          all_goals simp_all
  · exact⟨[],0,_,_,_,_,_,_,_,_,_,_,_,_,_,_,_,_,_,_,_,_,_,_,_,_,_,_,_,_,_,_,_,_,rfl,hy,rfl,A9,h0,⟨Nat.le_refl _,rfl,λ_ _=>rfl⟩,Nat.le_refl _⟩
theorem oE(n Bx n₀:Nat)(v:Value)(b:List UInt8)(y:Int×Int)(gl:List (Nat×List Value))
    (hC:ConOk Tryz.prog gl 193 ⟨[.lf (.list (.int .u8)) none],[.lf (.int .i64) none, .lf (.int .i64) none],Md⟩)
    (w:World) (cL:w.heap[Bx]? =some (.cells #[v] 22 (0,0))) (hn:n₀<=w.heap.size) (hv:Ak (λk=>k<n₀) w (.list (.int .u8)) b [v]) (hgl:GlOk gl (λk=>k<n₀) w) (hy:Fl b=some y):
    SeqStopsK Fence.wide n Tryz.prog 192 #[.pointer (some ⟨Bx,0,none⟩)] (λx:Int×Int=> #[.int .i64 x.1, .int .i64 x.2]) (KpF n₀ Bx) (fin y) (iV y) Cu w:=by
  intro l J Jx W hW hJ hJx hY h0;have hlt:=(Array.getElem?_eq_some_iff.1 cL).1;have hb:∀k,k<n₀->W.heap[k]? =w.heap[k]? :=λk hk=>hW.block k (Nat.lt_of_lt_of_le hk hn);exact lO n l Bx n₀ v b y J Jx gl hC hY W hJ ((hW.block Bx hlt).trans cL) (Nat.le_trans hn hW.size) (Ak.step (λ_ h=>h) hb hv)
    (λp hp=>⟨Nat.lt_of_lt_of_le (hgl p hp).1 hW.size,(hgl p hp).2.1,by rw[hb _ (hgl p hp).2.1];exact(hgl p hp).2.2⟩) h0 hy
theorem Xx{w W:World}{a:Addr}{v:Value}(h:KeepN (λ_=>True) w W)(ha:w.heap.size<=a.block):KeepN (λ_=>True) w (W.setCell a v):=by
  have hb:=(Below.refl w.heap.size W).setCell (p:=a) ha v;exact⟨λb hb' _=>(hb.block b hb').trans (h.same b hb' trivial),h.gr.trans ⟨hb.size,hb.os,hb.tape,hb.output⟩⟩
theorem heap_set{W:World}{a:Addr}{v:Value}{k:Nat}(h:k≠a.block):(W.setCell a v).heap[k]? =W.heap[k]? :=
  ((Below.refl (k+1) {W with heap:=W.heap}).block k A7▸(by
    show(W.heap.modify a.block _)[k]? =W.heap[k]?;rw[Array.getElem?_modify,if_neg (Ne.symm h)]))
theorem aR{W:World}{B:Nat}{v:Value}{t:TypeId}(h:W.heap[B]? =some (.cells #[v] t (0,0))):W.cell? ⟨B,0,none⟩=some v/\W.frozen? ⟨B,0,none⟩=false:=by
  constructor<;>simp[World.cell?,World.frozen?,h]
theorem EZ(W:World)(v:Value)(t:TypeId):(W.alloc (.cells #[v] t)).cell? ⟨W.heap.size,0,none⟩=some v/\ (W.alloc (.cells #[v] t)).frozen? ⟨W.heap.size,0,none⟩=false:=aR (World.alloc_heap_new W _)
theorem Du{W:World}{a:Addr}{v:Value}(o:Obj)(h:W.cell? a=some v):(W.alloc o).cell? a=some v:=cell_kept h (World.grownBy_alloc W o none) (λr e=>by cases e)
theorem Fx{W:World}{a:Addr}{v:Value}(o:Obj)(h:W.cell? a=some v)(hf:W.frozen? a=false):(W.alloc o).frozen? a=false:=(frozen_kept h (World.grownBy_alloc W o none) (λr e=>by cases e)).trans hf
theorem Tryz.pK:Tryz.f153.ntmps=4:=A4
theorem Tryz.rP:Tryz.f98.ntmps=18:=A4
set_option maxHeartbeats 1000000 in
set_option maxRecDepth 100000 in
theorem lI(n:Nat)(p:Option Addr)(len cap:Nat)(w:World):
    CallsIn Fence.wide n Tryz.prog 153 #[.slice p len cap] w λe w'=>e= .returned (.func (.func 192) #[] #[.pointer (some ⟨w.heap.size,0,none⟩)])/\w'=w.alloc (.cells #[.slice p len cap] 22):=by
  refine callsIn_of_wp Tryz.func153 rfl trivial ?_ rfl;simp only[Tryz.pK,List.size_toArray,List.length_cons,List.length_nil,Nat.reduceAdd,Nat.reduceSub,Array.replicate_succ,Array.replicate_zero,List.push_toArray,List.append_toArray,List.nil_append,List.cons_append]
  gi_wp2
  go_ret
  exact⟨rfl,rfl⟩
set_option maxHeartbeats 1000000 in
set_option maxRecDepth 100000 in
theorem gW(n:Nat)(h1:3<=n)(p:Option Addr)(len cap:Nat)(b:List UInt8)(y:Int×Int)(gl:List (Nat×List Value))
    (hC:ConOk Tryz.prog gl 193 ⟨[.lf (.list (.int .u8)) none],[.lf (.int .i64) none, .lf (.int .i64) none],Md⟩)
    (w:World) (hv:Ak (λk=>k<w.heap.size) w (.list (.int .u8)) b [.slice p len cap]) (hgl:GlOk gl (λk=>k<w.heap.size) w) (hy:Fl b=some y):
    CallsIn Fence.wide n Tryz.prog 98 #[.slice p len cap] w λe w'=>e= .returned (.tuple #[.int .i64 y.1, .int .i64 y.2])/\KeepN (λ_=>True) w w':=by
  refine callsIn_of_wp_marks Tryz.func98 rfl trivial ?_ rfl;simp only[Tryz.rP,List.size_toArray,List.length_cons,List.length_nil,Nat.reduceAdd,Nat.reduceSub,Array.replicate_succ,Array.replicate_zero,List.push_toArray,List.append_toArray,List.nil_append,List.cons_append]
  gi_wp2
  refine⟨trivial,(λh=>nomatch h),(lI (n-1) _ _ _ _).mono ?_⟩;rintro e w' ⟨rfl,rfl⟩
  gi_wp2
  refine wpIn_rangeFunc_ownG (Kp:=KpF w.heap.size (w.heap.size+1+1+1)) rfl A7 (gf:=192) (lb:= #[.pointer (some ⟨w.heap.size+1+1+1,0,none⟩)]) rfl trivial (enters_of Tryz.func192 A4 rfl)
    (oE (n-1) (w.heap.size+1+1+1) w.heap.size (.slice p len cap) b y gl hC _ ?cL ?hn ?hv ?hgl hy)
    (λh k=>⟨Nat.le_trans h.le k.le,k.box.trans h.box,λj hj=>(k.old j hj).trans (h.old j hj)⟩) ?hKb (Below.refl _ _) (λ_=>rfl)
    (λpre W=>(∀x∈pre,x.2=0)/\ (W.cell? ⟨w.heap.size+1+1,0,none⟩=some (.int .i64 (XL pre))/\W.frozen? ⟨w.heap.size+1+1,0,none⟩=false)/\
      (∃v,W.cell? ⟨w.heap.size,0,none⟩=some v/\W.frozen? ⟨w.heap.size,0,none⟩=false)/\ (∃v,W.cell? ⟨w.heap.size+1,0,none⟩=some v/\W.frozen? ⟨w.heap.size+1,0,none⟩=false)/\KeepN (λ_=>True) w W)
    (λc pre W=>c= .ret/\ (∃mZ x,pre=mZ++[x]/\x.2≠0/\W.cell? ⟨w.heap.size,0,none⟩=some (.int .i64 0)/\W.cell? ⟨w.heap.size+1,0,none⟩=some (.int .i64 x.2))/\KeepN (λ_=>True) w W)
    ?hI ?hIx ?h0
    (λx=>{tmps:= #[.slice p len cap,undef, .pointer (some ⟨w.heap.size,0,none⟩), .pointer (some ⟨w.heap.size+1,0,none⟩), .pointer (some ⟨w.heap.size+1+1,0,none⟩), .int .i64 x.1, .int .i64 x.2, .slice p len cap, .func (.func 192) #[] #[.pointer (some ⟨w.heap.size+1+1+1,0,none⟩)], .int .i64 x.1, .int .i64 x.2,undef,undef,undef,undef,undef,undef,undef],defers:=[]}) ?assign ?body ?done ?stop
  case assign=>
    intro l x W K hK
    gi_wp2
    exact hK
  case body=>
    rintro l pre x W ⟨hz,⟨hc,hf⟩,⟨v2,hc2,hf2⟩,⟨v3,hc3,hf3⟩,hk⟩ _
    gi_wp2
    · rename_i hx
      refine⟨(KeepsOthers.trans (KeepsOthers.setCell _ _ _) (KeepsOthers.setCell _ _ _)).from _,rfl,⟨pre,x,rfl,by simpa using hx,?_,?_⟩,Xx (Xx hk (Nat.le_refl _)) (Nat.le_succ _)⟩
      · refine(World.cell?_setCell_other _ _ _ _ A9).trans ?_
        exact World.cell?_setCell_same' _ _ _ (by rw[hc2];rfl)
      · refine World.cell?_setCell_same' _ _ _ ?_
        rw[World.cell?_setCell_other W ⟨w.heap.size,0,none⟩ ⟨w.heap.size+1,0,none⟩ _ A9,hc3];rfl
    · rename_i hx
      have hx0:x.2=0:=by simpa using hx
      refine⟨(KeepsOthers.setCell _ _ _).from _,⟨((Below.refl 0 W).setCell (p:=⟨w.heap.size+1+1,0,none⟩) (Nat.zero_le _) _).size,heap_set A9,λk hk'=>heap_set A8⟩,?_,⟨?_,by rw[World.frozen?_setCell];exact hf⟩,⟨v2,?_,by rw[World.frozen?_setCell];exact hf2⟩,⟨v3,?_,by rw[World.frozen?_setCell];exact hf3⟩,Xx hk A8⟩
      · intro z hz'
        rcases List.mem_append.1 hz' with h|h
        · exact hz z h
        · simp at h;subst h;exact hx0
      · have e:XL (pre++[x])=RowKit.wrap64 (XL pre+x.1):=by
          simp only[XL,List.foldl_append,List.foldl_cons,List.foldl_nil,Ac,GI.ofZ,GI.toZ,Go.Lv.wrap64,RowKit.wrap64];exact IntKind.wrap_i64 _
        rw[e];exact World.cell?_setCell_same' _ _ _ (by rw[hc];rfl)
      · exact(World.cell?_setCell_other _ _ _ _ (by simp;try omega)).trans hc2
      · exact(World.cell?_setCell_other _ _ _ _ A9).trans hc3
  case done=>
    rintro D xs W hD hS ⟨hz,⟨hc,hf⟩,⟨v2,hc2,hf2⟩,⟨v3,hc3,hf3⟩,hk⟩ hK
    gi_wp2
    have hy':y=(XL xs,0):=hS.elim (λ⟨x,hx,hne⟩=>absurd (hz x hx) hne) id;have hlen:w.heap.size+4<=D:=by simp only[World.size_alloc]at hD;omega
    have hK':=((KeepsOthers.setCell W ⟨w.heap.size,0,none⟩ (.int .i64 (XL xs))).trans (KeepsOthers.setCell _ ⟨w.heap.size+1,0,none⟩ (.int .i64 0))).same D _ hK rfl;have hk2:=Xx (v:= .int .i64 0) (a:=⟨w.heap.size+1,0,none⟩) (Xx (v:= .int .i64 (XL xs)) (a:=⟨w.heap.size,0,none⟩) hk (Nat.le_refl _)) (Nat.le_succ _);have d0:((W.setCell ⟨w.heap.size,0,none⟩ (.int .i64 (XL xs))).setCell ⟨w.heap.size+1,0,none⟩ (.int .i64 0)).cell? ⟨w.heap.size,0,none⟩=some (.int .i64 (XL xs)):=
      (World.cell?_setCell_other _ _ _ _ A9).trans (World.cell?_setCell_same' _ _ _ (by rw[hc2];rfl))
    have d1:((W.setCell ⟨w.heap.size,0,none⟩ (.int .i64 (XL xs))).setCell ⟨w.heap.size+1,0,none⟩ (.int .i64 0)).cell? ⟨w.heap.size+1,0,none⟩=some (.int .i64 0):=
      World.cell?_setCell_same' _ _ _ (by rw[World.cell?_setCell_other W ⟨w.heap.size,0,none⟩ ⟨w.heap.size+1,0,none⟩ _ A9,hc3];rfl)
    refine⟨A9, .inl ⟨_,_,rfl,run_takeDeferred hK',?_⟩⟩;have hg:=grownBy_putObj' ((W.setCell ⟨w.heap.size,0,none⟩ (.int .i64 (XL xs))).setCell ⟨w.heap.size+1,0,none⟩ (.int .i64 0)) D (.deferred none);have hr':∀r,some D=some r->∃o:Obj,((W.setCell ⟨w.heap.size,0,none⟩ (.int .i64 (XL xs))).setCell ⟨w.heap.size+1,0,none⟩ (.int .i64 0)).heap[r]? =some o/\o.isCells=false:=λr e=>by cases e;exact⟨_,hK',rfl⟩
    have sL:=cell_kept d0 hg hr';have hc6:=cell_kept d1 hg hr';refine⟨.tuple #[.int .i64 (XL xs), .int .i64 0],?_,by rw[hy'],?_⟩
    · simp[results,Tryz.f98,go_sem,sL,hc6]
    · refine⟨λb hb _=>(hg.block b (Nat.lt_of_lt_of_le hb hk2.gr.le) (λe=>?_)).trans (hk2.same b hb trivial),hk2.gr.trans ⟨hg.size,hg.os,hg.tape,hg.output⟩⟩
      cases e;omega
  case stop=>
    rintro D c pre W hD hS ⟨rfl,⟨mZ,x,rfl,hx,hc2,hc3⟩,hk⟩ hK
    gi_wp2
    obtain⟨p1,x1,he,hy1⟩:=hS;have hy':y=(0,x.2):=by
      have:=List.append_inj' he rfl;cases this.2;exact hy1 hx
    have hlen:w.heap.size+4<=D:=by simp only[World.size_alloc]at hD;omega
    refine⟨A9, .inl ⟨_,_,rfl,run_takeDeferred hK,?_⟩⟩;have hg:=grownBy_putObj' W D (.deferred none);have hr':∀r,some D=some r->∃o:Obj,W.heap[r]? =some o/\o.isCells=false:=λr e=>by cases e;exact⟨_,hK,rfl⟩
    have sL:=cell_kept hc2 hg hr';have hc6:=cell_kept hc3 hg hr';refine⟨.tuple #[.int .i64 0, .int .i64 x.2],?_,by rw[hy'],?_⟩
    · simp[results,Tryz.f98,go_sem,sL,hc6]
    · refine⟨λb hb _=>(hg.block b (Nat.lt_of_lt_of_le hb hk.gr.le) (λe=>?_)).trans (hk.same b hb trivial),hk.gr.trans ⟨hg.size,hg.os,hg.tape,hg.output⟩⟩
      cases e;omega
  case cL=>
    have h:=World.alloc_heap_new (((w.alloc (.cells #[.int .i64 0] 3)).alloc (.cells #[.int .i64 0] 26)).alloc (.cells #[.int .i64 0] 3)) (.cells #[.slice p len cap] 22);simp only[World.size_alloc]at h;exact h
  case hn=>simp;omega
  case hI=>
    rintro s A B row ⟨hz,⟨hc,hf⟩,⟨v2,hc2,hf2⟩,⟨v3,hc3,hf3⟩,hk⟩ hg hr;have hr':∀r,row=some r->∃o:Obj,A.heap[r]? =some o/\o.isCells=false:=λr e=>(hr r e).2;refine⟨hz,⟨cell_kept hc hg hr',(frozen_kept hc hg hr').trans hf⟩,⟨v2,cell_kept hc2 hg hr',(frozen_kept hc2 hg hr').trans hf2⟩,⟨v3,cell_kept hc3 hg hr',(frozen_kept hc3 hg hr').trans hf3⟩,?_⟩;refine⟨λb hb _=>(hg.block b (Nat.lt_of_lt_of_le hb hk.gr.le) (λe=>?_)).trans (hk.same b hb trivial),hk.gr.trans ⟨hg.size,hg.os,hg.tape,hg.output⟩⟩;have:=(hr b e.symm).1;simp at this;omega
  case hIx=>
    rintro c s A B row ⟨hc,⟨mZ,x,hs,hx,hc2,hc3⟩,hk⟩ hg hr;have hr':∀r,row=some r->∃o:Obj,A.heap[r]? =some o/\o.isCells=false:=λr e=>(hr r e).2;refine⟨hc,⟨mZ,x,hs,hx,cell_kept hc2 hg hr',cell_kept hc3 hg hr'⟩,?_⟩;refine⟨λb hb _=>(hg.block b (Nat.lt_of_lt_of_le hb hk.gr.le) (λe=>?_)).trans (hk.same b hb trivial),hk.gr.trans ⟨hg.size,hg.os,hg.tape,hg.output⟩⟩;have:=(hr b e.symm).1;simp at this;omega
  case hKb=>
    intro W l o o' hl h _ _;have hlt:=(Array.getElem?_eq_some_iff.1 h).1;simp at hl;have hg:=grownBy_putObj' W l o';exact⟨hg.size,hg.block _ A7 (λe=>by cases e;omega),λk hk=>hg.block k A7 (λe=>by cases e;omega)⟩
  case hgl=>
    intro q hq;refine⟨by simp;have:=(hgl q hq).1;omega,(hgl q hq).2.1,?_⟩;have hb:=((((Below.refl w.heap.size w).alloc (Nat.le_refl _) (.cells #[.int .i64 0] 3)).alloc A9 (.cells #[.int .i64 0] 26)).alloc A8 (.cells #[.int .i64 0] 3)).alloc A8 (.cells #[.slice p len cap] 22);rw[hb.block _ (hgl q hq).1];exact(hgl q hq).2.2
  case hv=>
    have hb:=((((Below.refl w.heap.size w).alloc (Nat.le_refl _) (.cells #[.int .i64 0] 3)).alloc A9 (.cells #[.int .i64 0] 26)).alloc A8 (.cells #[.int .i64 0] 3)).alloc A8 (.cells #[.slice p len cap] 22);exact Ak.step (λ_ h=>h) (λk hk=>hb.block k hk) hv
  case h0=>
    have c0:=EZ w (.int .i64 0) 3;have c1:=EZ (w.alloc (.cells #[.int .i64 0] 3)) (.int .i64 0) 26;have c2:=EZ ((w.alloc (.cells #[.int .i64 0] 3)).alloc (.cells #[.int .i64 0] 26)) (.int .i64 0) 3;simp only[World.size_alloc]at c1 c2;have hb:=((((Below.refl w.heap.size w).alloc (Nat.le_refl _) (.cells #[.int .i64 0] 3)).alloc A9 (.cells #[.int .i64 0] 26)).alloc A8 (.cells #[.int .i64 0] 3)).alloc A8 (.cells #[.slice p len cap] 22);exact⟨A9,⟨Du _ c2.1,Fx _ c2.1 c2.2⟩,⟨_,Du _ (Du _ (Du _ c0.1)),Fx _ (Du _ (Du _ c0.1)) (Fx _ (Du _ c0.1) (Fx _ c0.1 c0.2))⟩,
      ⟨_,Du _ (Du _ c1.1),Fx _ (Du _ c1.1) (Fx _ c1.1 c1.2)⟩,⟨λb hb' _=>hb.block b hb',⟨hb.size,hb.os,hb.tape,hb.output⟩⟩⟩
def Jr:Con:=⟨[.lf (.list (.int .u8)) none],[.lf (.int .i64) none, .lf (.int .i64) none],λx=>Fl x⟩
theorem QQ{gl:List (Nat×List Value)}(hE:Ent Tryz.prog 98)(hC:ConOk Tryz.prog gl 193 ⟨[.lf (.list (.int .u8)) none],[.lf (.int .i64) none, .lf (.int .i64) none],Md⟩):ConOk Tryz.prog gl 98 Jr:=by
  refine⟨hE,?_⟩;intro R N w L0 vs ps x y hargs hlen hit BU hvs hgl hy;obtain rfl:=Option.some.inj (show some [PV.val (.list (.int .u8)) x]=some ps from hargs);obtain⟨v,_,rfl,h1,rfl⟩:=hvs;have h2:Ak (λb=>R b/\N b) w (.list (.int .u8)) x [v]:=h1;have h3:=Ak.step (B':=λk=>k<w.heap.size) (λ_ h=>h.1) (λ_ _=>rfl) (Jz h2);obtain⟨p,len,cap,rfl⟩:∃p len cap,v= .slice p len cap:=by
    obtain⟨v1,c0,e1,⟨p,len,cap,rfl,_⟩,_⟩:=h2;cases e1;exact⟨_,_,_,rfl⟩
  refine(callsIn_wide.1 (gW 3 (Nat.le_refl _) p len cap x y gl hC w h3 (λq hq=>⟨(hgl q hq).1,(hgl q hq).1,(hgl q hq).2.2⟩) hy)).mono ?_;rintro e w' ⟨rfl,hk⟩;refine⟨[.int .i64 y.1, .int .i64 y.2],rfl,⟨λb hb _=>hk.same b hb trivial,hk.gr⟩,λ_=>False,[],λ_ h=>h.elim,?_,?_⟩
  · trivial
  · intro s L B' hl _ _
    refine⟨[.val (.int .i64) y.1, .val (.int .i64) y.2],[],(show s=⟨s.sl,s.it++[],s.st⟩ by simp),rfl,?_,rfl,λi a m h=>by simp at h⟩;exact⟨_,_,rfl,rfl,_,_,rfl,rfl,rfl⟩
end Go.Proofs.YtaokmgopghpikaaGreatDoor
