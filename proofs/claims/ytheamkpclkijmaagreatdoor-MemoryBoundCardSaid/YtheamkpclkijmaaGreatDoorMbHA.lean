/- A part of a proof (see the text that ends in Proof). No conditions. -/
import Derived.Test.YtheamkpclkijmaaGreatDoorMbPA
import Derived.Test.YtheamkpclkijmaaGreatDoorProg
import Derived.KernelRfl
import Derived.RangeFuncKeeps
import Derived.RangeFuncWrites
import Derived.Shelf.Abstract
import Derived.OwnWalkIn
import Derived.TacticsInMore
import Derived.Test.YtheamkpclkijmaaGreatDoorMbBC
namespace Go
theorem F3{p:Prop}(h:p:=by kernel_rfl):p:=h
end Go
set_option linter.unusedVariables false
set_option linter.unusedSimpArgs false
namespace Go.Proofs.YtheamkpclkijmaaGreatDoor
open Go.RowKit Go.Shelf Go Go.Rx Go.Lv Go.Pl
attribute [local go_sem] Oper.semAt_some
noncomputable def uP:Con:=⟨[.lf (.int .i64) none, .lf (.int .i64) none],[.lf (.list (.int .i64)) (some 3), .lf (.int .i64) none],λx=>Vn x.1 x.2⟩
noncomputable def Vw(gl:List (Nat×List Value)):Tab:=⟨[(131,uP)],gl,false,false⟩
noncomputable abbrev HE{R:Type}(gl:List (Nat×List Value)):nV R:=GR Tryz.prog (Vw gl) 8 []
noncomputable def Ak6:Code:=fB Tryz.f148
noncomputable def Aer:Code:=cB Ak6
noncomputable def Acs:Code:=cB Aer
noncomputable def K7:Code:=cA (cA (cB Acs))
noncomputable def Aed:Code:=cB (cB K7)
noncomputable def P0:Code:=cA (cA Aed)
noncomputable def xL:Code:=cB (cB P0)
noncomputable def Ab4:Code:=cA Ak6
noncomputable def Adr:Code:=cA Aer
noncomputable def Ab3:Code:=cA Acs
noncomputable def Aec:Code:=cA K7
noncomputable def Acj:Code:=cA (cB K7)
noncomputable def Acf:Code:=cB Aed
noncomputable def Aeo:Code:=cA P0
noncomputable def Ada:Code:=cA (cB P0)
noncomputable def Ad6:Code:=cB xL
noncomputable def Q4:List Oper:=cO (cA (cA xL))
noncomputable def Q2:Code:=cB (cA xL)
noncomputable def mK:List Oper:=Q4.take 6
noncomputable def XZ:Oper:=oAt Q4 6
noncomputable def eZ:Oper:=oAt Q4 7
theorem Agc:Tryz.f148.body=some (.seq Ab4 (.seq Adr (.seq Ab3 (.block 0 (.loop (.seq Aec (.seq Acj (.seq (.block 1 (.seq Aeo (.seq Ada (.seq (.seq (.region 6 (mK++XZ::[eZ]).toArray false) Q2) Ad6)))) Acf)))))))):=F3
theorem Apg:Tryz.f148.ntmps=43:=F3
theorem Ai4:XZ.guard=none:=F3
theorem Akn:XZ.dst=some 39:=F3
theorem Y4:XZ.op= .call ⟨.value (.tmp 33), #[.tmp 38], #[58]⟩:=F3
abbrev Ka(a f h:Int)(b:LX):PV:= .agg [vi a,vi f,vi h,vw b]
abbrev OO(y:Value)(v:PV)(ls:LI)(i x:Int):Slots:=[(0, .cst y),(1, .rptr v),(5,vi x),(21,vl ls),(22,vi (Ac ls)),(23,vi i)]
abbrev TM(lv:List Nat):K (Nat×S):=kC lv []
abbrev Ge(l:Nat):Value:= .func (.yield l) #[] #[]
theorem Ams(gl:List (Nat×List Value))(l:Nat)(a f h:Int)(b:LX):ex Tryz.prog (Vw gl) (HE gl) 43 Ab4 .d (kC [0,1,3] [⟨3,[], .ro (.int .i64)⟩]) ⟨[(0, .cst (Ge l)),(1, .rptr (Ka a f h b))],[],[]⟩=
    Option.bind (Jm (Bf a 0)) λ_=>Option.bind (Vn h (Cx (Ac b) a)) λp=>some (0,⟨[(0, .cst (Ge l)),(1, .rptr (Ka a f h b)),(3,vl p.1)],[],[]⟩):=F3
theorem An8(gl:List (Nat×List Value))(l:Nat)(v:PV)(ls:LI):ex Tryz.prog (Vw gl) (HE gl) 43 Adr .d (TM [0,1,3,5]) ⟨[(0, .cst (Ge l)),(1, .rptr v),(3,vl ls)],[],[]⟩=some (0,⟨[(0, .cst (Ge l)),(1, .rptr (yU [] v)),(3,vl ls),(5,vi 0)],[],[]⟩):=F3
theorem Aos(gl:List (Nat×List Value))(l:Nat)(a f h:Int)(b:LX)(ls:LI):ex Tryz.prog (Vw gl) (HE gl) 43 Ab3 .d (TM [0,1,5,21,22,23]) ⟨[(0, .cst (Ge l)),(1, .rptr (Ka a f h b)),(3,vl ls),(5,vi 0)],[],[]⟩=
    some (0,⟨OO (Ge l) (Ka a f h b) ls 0 0,[],[]⟩):=F3
theorem Amm(gl:List (Nat×List Value))(l:Nat)(a f h:Int)(b:LX)(ls:LI)(i x:Int):ex Tryz.prog (Vw gl) (HE gl) 43 Aec .d (TM [0,1,5,21,22,23,24]) ⟨OO (Ge l) (Ka a f h b) ls i x,[],[]⟩=
    some (0,⟨OO (Ge l) (Ka a f h b) ls i x++[(24,vt (Cm i (Ac ls)))],[],[]⟩):=F3
theorem Adz(gl:List (Nat×List Value))(l:Nat)(a f h:Int)(b:LX)(ls:LI)(i x:Int)(t:Bool):ex Tryz.prog (Vw gl) (HE gl) 43 Acj .d (TM [0,1,5,21,22,23]) ⟨OO (Ge l) (Ka a f h b) ls i x++[(24,vt t)],[],[]⟩=
    if t=true then some (0,⟨OO (Ge l) (Ka a f h b) ls i x,[],[]⟩)else some (2,⟨OO (Ge l) (Ka a f h b) ls i x,[],[]⟩):=F3
theorem Anr(gl:List (Nat×List Value))(l:Nat)(a f h:Int)(b:LX)(ls:LI)(i x:Int):ex Tryz.prog (Vw gl) (HE gl) 43 Aeo .d (TM [0,1,5,7,21,22,23]) ⟨OO (Ge l) (Ka a f h b) ls i x,[],[]⟩=
    Option.bind (Ak ls i) λn=>some (0,⟨[(0, .cst (Ge l)),(1, .rptr (Ka a f h b)),(5,vi x),(7,vi n),(21,vl ls),(22,vi (Ac ls)),(23,vi i)],[],[]⟩):=F3
theorem Aoy(gl:List (Nat×List Value))(l:Nat)(a f h:Int)(b:LX)(ls:LI)(i x n:Int):ex Tryz.prog (Vw gl) (HE gl) 43 Ada .d (TM [0,1,5,8,21,22,23]) ⟨[(0, .cst (Ge l)),(1, .rptr (Ka a f h b)),(5,vi x),(7,vi n),(21,vl ls),(22,vi (Ac ls)),(23,vi i)],[],[]⟩=
    some (0,⟨[(0, .cst (Ge l)),(1, .rptr (Ka a f h b)),(5,vi x),(8,vi (Ae x (Bo n a))),(21,vl ls),(22,vi (Ac ls)),(23,vi i)],[],[]⟩):=F3
abbrev Aen(y:Value)(v:PV)(ls:LI)(i x z:Int)(p:LX):Slots:=[(0, .cst y),(1, .rptr v),(5,vi x),(8,vi z),(21,vl ls),(22,vi (Ac ls)),(23,vi i),(33, .cst y),(38,vw p)]
theorem Ao5(gl:List (Nat×List Value))(l:Nat)(a f h:Int)(b:LX)(ls:LI)(i x z:Int):lJ Tryz.prog (Vw gl) (HE gl) 43 (mK++XZ::[eZ]).toArray mK ⟨[(0, .cst (Ge l)),(1, .rptr (Ka a f h b)),(5,vi x),(8,vi z),(21,vl ls),(22,vi (Ac ls)),(23,vi i)],[],[]⟩ (cnP [0,1,5,8,21,22,23,33,38] [] 0)=
    Option.bind (Bl b x z) λp=>some (0,⟨Aen (Ge l) (Ka a f h b) ls i x z p,[],[]⟩):=F3
theorem Ao0(gl:List (Nat×List Value))(l:Nat)(a f h:Int)(b:LX)(ls:LI)(i x z:Int)(p:LX)(t:Bool):lJ Tryz.prog (Vw gl) (HE gl) 43 (mK++XZ::[eZ]).toArray [eZ] ⟨Afu (Aen (Ge l) (Ka a f h b) ls i x z p) 39 (vt t),[],[]⟩ (cnP [0,1,5,8,21,22,23,40] [] 0)=
    some (0,⟨[(0, .cst (Ge l)),(1, .rptr (Ka a f h b)),(5,vi x),(8,vi z),(21,vl ls),(22,vi (Ac ls)),(23,vi i),(40,vt (!t))],[],[]⟩):=F3
theorem Am7(gl:List (Nat×List Value))(l:Nat)(a f h:Int)(b:LX)(ls:LI)(i x z:Int)(t:Bool):ex Tryz.prog (Vw gl) (HE gl) 43 Q2 .d (TM [0,1,5,8,21,22,23]) ⟨[(0, .cst (Ge l)),(1, .rptr (Ka a f h b)),(5,vi x),(8,vi z),(21,vl ls),(22,vi (Ac ls)),(23,vi i),(40,vt t)],[],[]⟩=
    if t=true then some (1,⟨[(0, .cst (Ge l)),(1, .rptr (Ka a f h b)),(5,vi x),(8,vi z),(21,vl ls),(22,vi (Ac ls)),(23,vi i)],[],[]⟩)else some (0,⟨[(0, .cst (Ge l)),(1, .rptr (Ka a f h b)),(5,vi x),(8,vi z),(21,vl ls),(22,vi (Ac ls)),(23,vi i)],[],[]⟩):=F3
theorem Am0(gl:List (Nat×List Value))(l:Nat)(a f h:Int)(b:LX)(ls:LI)(i x z:Int):ex Tryz.prog (Vw gl) (HE gl) 43 Ad6 .d (TM [0,1,5,21,22,23]) ⟨[(0, .cst (Ge l)),(1, .rptr (Ka a f h b)),(5,vi x),(8,vi z),(21,vl ls),(22,vi (Ac ls)),(23,vi i)],[],[]⟩=
    some (0,⟨OO (Ge l) (Ka a f h b) ls i z,[],[]⟩):=F3
theorem Apn(gl:List (Nat×List Value))(l:Nat)(a f h:Int)(b:LX)(ls:LI)(i x:Int):ex Tryz.prog (Vw gl) (HE gl) 43 Acf .d (TM [0,1,5,21,22,23]) ⟨OO (Ge l) (Ka a f h b) ls i x,[],[]⟩=
    some (0,⟨OO (Ge l) (Ka a f h b) ls (Ae i 1) x,[],[]⟩):=F3
theorem Akb:lJ Tryz.prog ⟨[],[],false,false⟩ (GR Tryz.prog ⟨[],[],false,false⟩ 8 []) 43 (mK++XZ::[eZ]).toArray [eZ] ⟨[(39,vt false)],[],[]⟩ (cnP [40] [] 0)=some (0,⟨[(40,vt true)],[],[]⟩):=F3
theorem Aiw:ex Tryz.prog ⟨[],[],false,false⟩ (GR Tryz.prog ⟨[],[],false,false⟩ 8 []) 43 Q2 .d (TM []) ⟨[(40,vt true)],[],[]⟩=some (1,⟨[],[],[]⟩):=F3
theorem Ain{i:Nat}(h:i<17179869184):Ae (i:Int) 1=((i+1:Nat):Int):=by
  rw[show Ae (i:Int) 1=Go.Lv.wrap64 ((i:Int)+1)from rfl,Go.Lv.Cr F0 F0];omega
def xD:PV->Option (List LX)
  | .agg [.val (.int .i64) a, .val (.int .i64) _, .val (.int .i64) h, .val (.list (.int .i32)) b]=>dQ a h b
  |_=>none
theorem Aap{v:PV}{xs:List LX}(h:xD v=some xs):∃a f r b,v=Ka a f r b/\dQ a r b=some xs:=by
  unfold xD at h;split at h
  · exact⟨_,_,_,_,rfl,h⟩
  · cases h
theorem ZK{a:Int}{b:LX}{n:Int}{l:LI}{x:Int}{ps:List LX}(h:Wo a b (n::l) x=some ps):∃p r,Bl b x (Ae x (Bo n a))=some p/\Wo a b l (Ae x (Bo n a))=some r/\ps=p::r:=by
  simp only[Wo]at h;obtain⟨p,h1,h⟩:=Go.Lv.bind_some h;obtain⟨r,h2,h⟩:=Go.Lv.bind_some h;cases h;exact⟨p,r,h1,h2,rfl⟩
theorem dO{a:Int}{b:LX}:∀{l:LI} {x:Int} {ps:List LX},Wo a b l x=some ps->ps.length=l.length
  |[],x,ps,h=>by simp only[Wo,Option.some.injEq]at h;subst h;rfl
  |n::l,x,ps,h=>by
    obtain⟨p,r,_,h2,rfl⟩:=ZK h;simp[dO h2]
theorem Ahc{gl:List (Nat×List Value)}(hC:ConOk Tryz.prog gl 131 uP)(hE:Ent Tryz.prog 148):ItOk Tryz.prog gl 148 ⟨89, .list (.int .i32),xD⟩:=by
  refine⟨hE,λm B w b v cells xs hB hb hcell henc hgl hF=>?_⟩;have hF:xD v=some xs:=hF;obtain⟨a,f,h,s,rfl,hF⟩:=Aap hF;have hM:Tryz.prog.follows .mixedOrders=true:=F3
  have hT:FK Tryz.prog (Vw gl):= .cons hC .nil;have hI:∀{R:Type},AY (R:=R) Tryz.prog (Vw gl).gl (HE gl):=lO hM hT yh.nil 8;unfold dQ at hF;obtain⟨u0,hok,hF⟩:=Go.Lv.bind_some hF;obtain⟨p0,hall,hF⟩:=Go.Lv.bind_some hF;obtain⟨u1,hlim,hF⟩:=Go.Lv.bind_some hF;have hlim:p0.1.length<=17179869184:=by
    unfold Jm at hlim;split at hlim
    · rename_i h;have h':=of_decide_eq_true h;unfold Ac at h';omega
    · cases hlim
  have hlen:=dO hF;intro l J Jx W hk hJ hJx hY h0;refine callsIn_of_wp_marks Tryz.func148 Agc trivial ?_ rfl;have hGr:∀i V X Y,J i V X->KeepN (λ_=>True) X Y->J i (grown V X Y) Y:=λi V X Y h k=>hJ i V X Y h k;have hbW:W.heap[b]? =some (.cells cells.toArray 89 (0,0)):=(hk.same b (hB b hb) trivial).trans hcell;have hm0:MemI gl B W ⟨[(0, .cst (Ge l)),(1, .rptr (Ka a f h s))],[],[]⟩ (gK [Ge l, .pointer (some ⟨b,0,none⟩)]):=by
    refine⟨λk hk'=>Nat.lt_of_lt_of_le (hB k hk') hk.gr.le,rfl,rfl,λp hp=>?_,hgl.keep (λ_ h=>h) (λk hk'=>hk.same k (hB k hk') trivial) hk.gr⟩;rcases List.mem_cons.1 hp with rfl|hp
    · exact(show _/\ _ from⟨rfl,rfl⟩)
    rcases List.mem_cons.1 hp with rfl|hp
    · exact⟨_,cells,rfl,⟨b,0,cells.toArray,_,_,rfl,hb,hbW,λi _=>by simp⟩,Be.step (λ_ h=>h) (λk hk'=>hk.same k (hB k hk') trivial) (.refl []) henc⟩
    · cases hp
  have ha0:=vZ (fn:=Tryz.f148) (vs:=[Ge l, .pointer (some ⟨b,0,none⟩)]) F3;have e0:(#[Value.func (.yield l) #[] #[]]++ #[Value.pointer (some ⟨b,0,none⟩)]:Array Value)=[Ge l, .pointer (some ⟨b,0,none⟩)].toArray:=by simp
  rw[e0]
  revert ha0
  generalize({tmps:=_,defers:=[]}:Act)=Ayt;rw[Apg];intro ha0;refine jT hM hT hI (J:=J 0) (hGr 0) .d [0,1,3] [⟨3,[], .ro (.int .i64)⟩] ((Ams gl l a f h s).trans (by rw[hok,hall];rfl)) rfl hm0 h0 ha0 λσ1 V1 w1 a1 f1 j1 m1=>?_;refine jT hM hT hI (J:=J 0) (hGr 0) .d [0,1,3,5] [] (An8 gl l _ p0.1) rfl m1 j1 f1 λσ2 V2 w2 a2 f2 j2 m2=>?_;refine jT hM hT hI (J:=J 0) (hGr 0) .d [0,1,5,21,22,23] [] (Aos gl l a f h s p0.1) rfl m2 j2 f2 λσ3 V3 w3 a3 f3 j3 m3=>?_;have fin:∀{σ:Env} {a':Act} {w':World},Fits [] 43 a' σ-> ((∃V,J xs.length V w')\/Jx w')->LeavesInM (wr none) m Tryz.prog Tryz.f148 a'.tmps (λe W'=>(∃v,e= .returned v)/\ ((∃V,J xs.length V W')\/Jx W')) a'.defers .returning w':=by
    intro σ a' w' hf hh;rw[hf.defers];exact⟨_,RH (rs:=[]) (vs:=[]) F3 hf trivial,⟨_,rfl⟩,hh⟩
  refine wpIn_block (pM (p0.1.length+1) (λq a' w'=>∃(i:Nat) (x:Int) (V:Reg) (σ:Env),q+i=p0.1.length+1/\i<=p0.1.length/\Fits [] 43 a' σ/\J i V w'/\MemI gl V w' ⟨OO (Ge l) (Ka a f h s) p0.1 (i:Int) x,[],[]⟩ σ/\Wo a s (p0.1.drop i) x=some (xs.drop i)) ?_ ?_
    ⟨0,0,V3,σ3,rfl,Nat.zero_le _,f3,j3,m3,hF⟩)
  · rintro a' w' ⟨i,x,V,σ,hq,hi,_⟩
    omega
  rintro q a' w' ⟨i,x,V,σ,hq,hi,hf,hj,hm,hp⟩;refine jT hM hT hI (J:=J i) (hGr i) .d [0,1,5,21,22,23,24] [] (Amm gl l a f h s p0.1 i x) rfl hm hj hf λσ4 V4 w4 a4 f4 j4 m4=>?_;by_cases hlt:i<p0.1.length
  · have hg:Cm (i:Int) (Ac p0.1)=true:=by simp[Cm,Ac,GI.toZ];exact hlt
    rw[hg]at m4;refine jT hM hT hI (J:=J i) (hGr i) .d [0,1,5,21,22,23] [] (Adz gl l a f h s p0.1 i x true) rfl m4 j4 f4 λσ5 V5 w5 a5 f5 j5 m5=>?_;obtain⟨n,hn⟩:∃n,p0.1[i]? =some n:=⟨_,List.getElem?_eq_getElem hlt⟩;have hgn:Go.Lv.Ak p0.1 (i:Int)=some n:=by simp[Go.Lv.Ak,hn]
    have hd:p0.1.drop i=n::p0.1.drop (i+1):=by rw[List.drop_eq_getElem_cons hlt];congr 1;rw[List.getElem?_eq_getElem hlt]at hn;exact Option.some.inj hn
    rw[hd]at hp;obtain⟨p,r,hcut,hp',hxs⟩:=ZK hp;have hi':i<xs.length:=F0
    have hx:xs[i]? =some p:=by
      have:=congrArg List.head? hxs;rw[List.head?_drop]at this;exact this
    have hr:xs.drop (i+1)=r:=by
      have:=congrArg List.tail hxs;rw[List.tail_drop]at this;exact this
    refine wpIn_seq (wpIn_block ?_);refine jT hM hT hI (J:=J i) (hGr i) .d [0,1,5,7,21,22,23] [] ((Anr gl l a f h s p0.1 i x).trans (by rw[hgn];rfl)) rfl m5 j5 f5 λσ6 V6 w6 a6 f6 j6 m6=>?_;refine jT hM hT hI (J:=J i) (hGr i) .d [0,1,5,8,21,22,23] [] (Aoy gl l a f h s p0.1 i x n) rfl m6 j6 f6 λσ7 V7 w7 a7 f7 j7 m7=>?_;refine wpIn_seq (wpIn_seq (wpIn_region_lit ?_));refine M3 (T:=Vw gl) hT hI (J:=J i) (hGr i) [0,1,5,8,21,22,23,33,38] F3 ((Ao5 gl l a f h s p0.1 i x (Ae x (Bo n a))).trans (by rw[hcut];rfl)) rfl m7 j7 f7 λσ8 V8 w8 a8 f8 j8 m8=>?_;have v33:σ8 33=Ge l:=by
      have:=m8.val (t:=33) (p:= .cst (Ge l)) Axz rfl;exact(show [σ8 33]=[Ge l]/\ _ from this).1|>List.head_eq_of_cons_eq
    have v38:Hr V8 w8 [] (vw p) (σ8 38):=(XG rfl).1 (m8.val (t:=38) (p:=vw p) Axz rfl);refine Aju Ai4 Akn F4 (λc hc=>by rw[Y4]at hc;cases hc) (jw Y4 v33 rfl) (hY i V8 w8 (σ8 38) hi' j8 (λx' hx'=>by rw[hx]at hx';cases hx';exact v38)) ?_ f8;rintro e w9 (⟨rfl,j9,hgr,hsame⟩|⟨rfl,jx⟩)
    · refine⟨_,rfl,λa9 f9=>?_⟩
      have m9:=(m8.round hgr hsame).set (d:=39) (p:=vt true) (v:= .bool true) rfl (show [Value.bool true]=[Value.bool true]from rfl);refine M3 (T:=Vw gl) (l2:=[]) hT hI (J:=J (i+1)) (hGr (i+1)) [0,1,5,8,21,22,23,40] F3 (Ao0 gl l a f h s p0.1 i x (Ae x (Bo n a)) p true) rfl m9 j9 f9 λσb Vb wb ab fb jb mb=>?_;refine wpIn_mono (eX hM hT hI (J:=J (i+1)) (hGr (i+1)) (an:= .d) (lv:=[0,1,5,8,21,22,23]) (co:=[]) (Am7 gl l a f h s p0.1 i x (Ae x (Bo n a)) false) rfl mb jb fb) ?_;rintro e ac wc ⟨he,σc,Vc,fc,jc,mc⟩;cases e with
      |normal=>
        refine wpIn_mono (eX hM hT hI (J:=J (i+1)) (hGr (i+1)) (an:= .d) (lv:=[0,1,5,21,22,23]) (co:=[]) (Am0 gl l a f h s p0.1 i x (Ae x (Bo n a))) rfl mc jc fc) ?_;rintro e ad wd ⟨he,σd,Vd,fd,jd,md⟩;cases e with
        |normal=>
          refine wpIn_mono (eX hM hT hI (J:=J (i+1)) (hGr (i+1)) (an:= .d) (lv:=[0,1,5,21,22,23]) (co:=[]) (Apn gl l a f h s p0.1 i (Ae x (Bo n a))) rfl md jd fd) ?_;rintro e ae we ⟨he,σe,Ve,fe,je,me⟩;cases e with
          |normal=>
            have hadd:Ae (i:Int) 1=((i+1:Nat):Int):=Ain F0;rw[hadd]at me;exact⟨i+1,_,Ve,σe,F0,F0,fe,je,me,by rw[hr];exact hp'⟩
          |ret=>simp[jV]at he
          |exit id=>simp[jV]at he
          |goto l=>cases he
          |panic c=>cases he
          |outgrown=>cases he
        |ret=>simp[jV]at he
        |exit id=>simp[jV]at he
        |goto l=>cases he
        |panic c=>cases he
        |outgrown=>cases he
      |ret=>simp[jV]at he
      |exit id=>simp[jV]at he
      |goto l=>cases he
      |panic c=>cases he
      |outgrown=>cases he
    · refine⟨_,rfl,λa9 f9=>?_⟩
      have hT0:FK Tryz.prog ⟨[],[],false,false⟩:= .nil;have hI0:∀{R:Type},AY (R:=R) Tryz.prog [] (GR Tryz.prog ⟨[],[],false,false⟩ 8 []):=lO hM hT0 yh.nil 8;have m9:MemI [] (λ_=>False) w9 ⟨[(39,vt false)],[],[]⟩ (Ta σ8 39 (.bool false)):=⟨λ_ h=>h.elim,rfl,rfl,(λp hp=>by
        rcases List.mem_cons.1 hp with rfl|hp
        · exact Ht.put rfl (show [Value.bool false]=[Value.bool false]from rfl)
        · cases hp),λp hp=>by cases hp⟩
      refine M3 (T:=⟨[],[],false,false⟩) (l2:=[]) hT0 hI0 (J:=λ_ W=>Jx W) (λ_ X Y h k=>hJx X Y h k) [40] F3 Akb rfl m9 jx f9 λσb Vb wb ab fb jb mb=>?_;refine wpIn_mono (eX (T:=⟨[],[],false,false⟩) hM hT0 hI0 (J:=λ_ W=>Jx W) (λ_ X Y h k=>hJx X Y h k) (an:= .d) (lv:=[]) (co:=[]) Aiw rfl mb jb fb) ?_;rintro e ac wc ⟨he,σc,Vc,fc,jc,mc⟩;cases e with
      |ret=>exact fin fc (.inr jc)
      |normal=>simp[jV]at he
      |exit id=>simp[jV]at he
      |goto l=>cases he
      |panic c=>cases he
      |outgrown=>cases he
  · have hi2:i=p0.1.length:=F0
    have hg:Cm (i:Int) (Ac p0.1)=false:=by subst hi2;simp[Cm,Ac,GI.toZ]
    rw[hg]at m4;refine wpIn_seq (wpIn_mono (eX hM hT hI (J:=J i) (hGr i) (an:= .d) (lv:=[0,1,5,21,22,23]) (co:=[]) (Adz gl l a f h s p0.1 i x false) rfl m4 j4 f4) ?_);rintro e ac wc ⟨he,σc,Vc,fc,jc,mc⟩;cases e with
    |exit id=>
      obtain rfl:id=0:=by simpa [jV]using he
      exact fin fc (.inl ⟨Vc,by rw[hlen,<-hi2];exact jc⟩)
    |ret=>simp[jV]at he
    |normal=>simp[jV]at he
    |goto l=>cases he
    |panic c=>cases he
    |outgrown=>cases he
abbrev yH:List Sh:=[.agg [.lf (.int .i64) none, .lf (.int .i64) none, .lf (.int .i64) none, .lf (.list (.int .i32)) none], .lf .str none]
abbrev JP:List Sh:=[.lf (.list (.list (.int .u8))) (some 22), .lf (.int .i64) none]
noncomputable def xw:Con:=⟨[.agg [.lf (.int .i64) none, .lf (.int .i64) none, .lf (.int .i64) none, .lf (.list (.int .i32)) none]],[.lf (.int .i64) none],λx=>GN x.1 x.2.1 x.2.2.1 x.2.2.2⟩
noncomputable def T6:Con:=⟨[.lf .str none],[.lf (.vec 16 (.int .i32)) none, .lf (.int .i64) none],Qo⟩
noncomputable def X6:Con:=⟨[.agg [.lf (.int .i64) none, .lf (.int .i64) none], .lf (.vec 16 (.int .i32)) none, .lf (.list (.int .i32)) none],[.lf (.list (.int .u8)) (some 5), .lf (.int .i64) none],λx=>ER x.1 x.2.1 x.2.2.1 x.2.2.2⟩
noncomputable def wz:Con:=⟨[.agg [.lf (.int .i64) none, .lf (.int .i64) none, .lf (.int .i64) none, .lf (.list (.int .i32)) none]],[.agg [.lf (.int .i64) none, .lf (.int .i64) none]],λx=>jD x.1 x.2.1 x.2.2.1 x.2.2.2⟩
noncomputable def mQ(gl:List (Nat×List Value)):Tab:=⟨[(110,xw),(89,T6),(90,X6),(112,wz)],gl,true,false⟩
noncomputable def tq:List (Nat×ItC):=[(148,⟨89, .list (.int .i32),xD⟩)]
noncomputable def yT:List (Nat×An):=[(111, .d)]
noncomputable abbrev Ad1{R:Type}(gl:List (Nat×List Value)):nV R:=GR Tryz.prog (mQ gl) 8 yT
noncomputable def tL:An:= .loop [2,4,5,7,9] [⟨9,[], .own 22 (.list (.int .u8))⟩] .d
noncomputable def Acl:An:= .seq .d (.seq .d (.seq .d (.seq .d (.seq .d (.seq (.seq .d (.blk tL)) .d)))))
noncomputable def Am6:Code:=fB Tryz.f70
noncomputable def Aci:Code:=cB (cB (cB (cB (cB Am6))))
noncomputable def Ad4:Code:=cA (cB (cA Aci))
noncomputable def Agl:Code:=cB Aci
def rfA:Code->Code| .rangeFunc _ _ a _=>a|c=>c
def rfB:Code->Code| .rangeFunc _ _ _ b=>b|c=>c
noncomputable def O8:K (DL (Te JP)):={n:=fW Tryz.prog JP Tryz.f70.results.toList,x:=λ_ _=>none,r:=fW Tryz.prog JP Tryz.f70.results.toList}
noncomputable def Acp(gl:List (Nat×List Value))(s:S):Option (DL (Te JP)):=ex Tryz.prog (mQ gl) (Ad1 gl) 45 Agl .d O8 s
noncomputable def Ael(gl:List (Nat×List Value)):K (DL (Te JP)):=⟨Acp gl,λid s=>Ct (Nat.beq id 0) (Acp gl s)<|O8.x id s,O8.r⟩
noncomputable def nR(gl:List (Nat×List Value)):List LX->S->Option (DL (Te JP)):=rnd tL (eA Tryz.prog (mQ gl) (Ad1 gl) 45 28 (rfA Ad4) (rfB Ad4) tL (Ael gl) (.list (.int .i32))) (Ael gl).n
def nK(a f h:Int)(b t:LX)(o:List LB):S:=⟨[(2, .ptr 0 []),(4, .ptr 1 []),(5, .ptr 2 []),(7, .ptr 3 []),(9, .ptr 4 [])],
  [.box 89 (.agg [vi a,vi f,vi h,vw b]), .box 59 .nils, .box 30 (vi 0), .box 140 (.val (.vec 16 (.int .i32)) t), .box 59 (.own 5), .arr 22 (.list (.int .u8)) o],[]⟩
theorem Anm(gl:List (Nat×List Value))(a f h:Int)(b t:LX)(o:List LB):nR gl [] (nK a f h b t o)=some (o,(0:Int)):=F3
theorem Aoj(gl:List (Nat×List Value))(a f h:Int)(b t:LX)(o:List LB)(x:LX)(xs:List LX):nR gl (x::xs) (nK a f h b t o)=
    Option.bind (ER a f t x) λy=>if(Bf y.2 0)=true then some ([],y.2)else Option.bind (Dh o [y.1]) λo'=>nR gl xs (nK a f h b t o'):=F3
theorem Aem(gl:List (Nat×List Value))(a f h:Int)(b t:LX):∀(xs:List LX) (o:List LB),nR gl xs (nK a f h b t o)=IA a f t xs o
  |[],o=>Anm gl a f h b t o
  |x::xs,o=>by
    rw[Aoj,IA];simp only[Aem gl a f h b t xs];rfl
theorem Ahp(gl:List (Nat×List Value))(x:DL (Te yH)):An5 Tryz.prog (mQ gl) yT tq Tryz.f70 Acl yH JP x=bX x.1 x.2.1 x.2.2.1 x.2.2.2.1 x.2.2.2.2:=by
  refine Eq.trans (b:=Option.bind (GN x.1 x.2.1 x.2.2.1 x.2.2.2.1) λe=>if(Bf e 0)=true then some ([],e)else Option.bind (Qo x.2.2.2.2) λt=>if(Bf t.2 0)=true then some ([],t.2)
    else Option.bind (dQ x.1 x.2.2.1 x.2.2.2.1) λxs=>nR gl xs (nK x.1 x.2.1 x.2.2.1 x.2.2.2.1 t.1 [])) F3 ?_
  simp only[Aem];rfl
noncomputable def TH:Con:=⟨yH,JP,λx=>bX x.1 x.2.1 x.2.2.1 x.2.2.2.1 x.2.2.2.2⟩
theorem wJ{gl:List (Nat×List Value)}(hCk:ConOk Tryz.prog gl 110 xw)(hTp:ConOk Tryz.prog gl 89 T6)(hAl:ConOk Tryz.prog gl 131 uP)(hEn:ConOk Tryz.prog gl 90 X6)(hSh:ConOk Tryz.prog gl 112 wz):
    ConOk Tryz.prog gl 70 TH:=by
  have hE:∀{f:Nat} {fn:Func},Tryz.prog.funcs[f]? =some fn→(!(fn.name== "runtime.NumGoroutine")&&fn.body.isSome)=true→Ent Tryz.prog f:=by
    intro f fn hf hb;simp only[Bool.and_eq_true,Bool.not_eq_true']at hb;obtain⟨c,hc⟩:=Option.isSome_iff_exists.1 hb.2;exact Ent.mk hf hb.1 hc
  refine iy (T:=mQ gl) (its:=tq) (ans:=yT) (an:=Acl) F3 Tryz.func70 (hE Tryz.func70 F3) (.cons hCk (.cons hTp (.cons hEn (.cons hSh .nil)))) (yh.cons (hE Tryz.func111 F3) yh.nil) ?_ F3 (Ahp gl);intro p hp;rcases List.mem_cons.1 hp with rfl|hp
  · exact Ahc hAl (hE Tryz.func148 F3)
  · cases hp
theorem zX{W W':World}(h:KeepN (λ_=>True) W W'):W.grownBy W' none:=⟨h.gr.os,h.gr.tape,h.gr.output,h.gr.le,λk hk _=>h.same k hk trivial⟩
theorem Ajr{F:Fence}{n:Nat}{P:Program}{Q:Exit->Act->World->Prop}{a:Act}{w:World}{c:Code}(m:Nat)(I:Nat->Act->World->Prop)(h0:∀a w,¬I 0 a w)
    (hs:∀q a w,I (q+1) a w->c.wpIn F n P (Exit.then (I q) Q) a w) (h:I m a w):(Code.loop c).wpIn F n P Q a w:=by
  refine wpIn_loop_rounds m ?_
  induction m generalizing a w with
  |zero=>exact absurd h (h0 a w)
  |succ m ih=>
    rw[roundsIn_succ];refine wpIn_mono (hs m a w h) λe a' w' hh=>?_;cases e<;>first|exact ih hh|exact hh
theorem Aui{α:Type}{c:Prop} [Decidable c]{a b y:α}(h:(if c then a else b)=y)(hc:¬c):b=y:=by rw[if_neg hc]at h;exact h
theorem Aol{A:Reg}{w:World}{v:Value}{k:Kd}{l y:List k.T}{a:Int}(h:Bd A w (.list (.int k)) l [v])(hc:Bl l a (Ac l)=some y):
    ∃(p:Option Addr) (len cap m:Nat),v= .slice p len cap/\a=(m:Int)/\m<=len/\len<=cap/\Bd A w (.list (.int k)) y [.slice (if cap=m then p else p.map (·.add m)) (len-m) (cap-m)]:=by
  obtain⟨v1,c0,e1,h1,h2⟩:=h;cases e1;obtain⟨p,len,cap,rfl,g1,g2,g3,g4⟩:=h1;obtain⟨k1,k2,k3,k4,rfl⟩:=NW hc;simp only[ET.size,Nat.mul_one]at g1 g4;have hll:=h2.len (z:=1) λx c h=>by rw[show c=_ from h];rfl
  have hln:l.length=len:=F0
  have hto:(Ac l).toNat=len:=by simp[Ac,hln]
  rw[hto]at k3⊢;refine⟨p,len,cap,a.toNat,rfl,k1,k3,g2,_,c0.drop a.toNat,rfl,⟨_,_,_,rfl,?_,F0,λhp=>?_,λhcap=>?_⟩,?_⟩
  · simp only[ET.size,List.length_drop];omega
  · split at hp
    · omega
    · rename_i hne
      cases p with
      |none=>have:=g3 rfl;omega
      |some a=>cases hp
  · rw[if_neg F0]
    obtain⟨b,off,arr,T,fr,rfl,e2,e3,e4,e5⟩:=g4 F0;refine⟨b,off+a.toNat,arr,T,fr,by simp[Addr.add],e2,e3,by simp only[ET.size];omega,λi hi=>?_⟩;simp only[ET.size]at hi;rw[List.getElem?_drop,<-e5 (a.toNat+i) F0,Nat.add_assoc]
  · have:=Ce.drop (z:=1) (λx c h=>by rw[show c=_ from h];rfl) a.toNat h2
    rw[Nat.mul_one]at this;rw[List.take_of_length_le F0];exact this
theorem Ate{P:Program}{f:Nat}{gl:List (Nat×List Value)}{F:List UInt8->Option (Int×Int)}(hC:ConOk P gl f ⟨[.lf (.list (.int .u8)) none],[.lf (.int .i64) none, .lf (.int .i64) none],F⟩){A:Reg}{W:World}{v:Value}{s:List UInt8}{r:Int×Int}
    (hv:Bd A W (.list (.int .u8)) s [v]) (hgl:GlOk gl A W) (h:F s=some r):Calls P f #[v] W λe W'=>e= .returned (.tuple #[.int .i64 r.1, .int .i64 r.2])/\KeepN (λ_=>True) W W':=by
  have hv':Bd (λ_=>True/\True) W (.list (.int .u8)) s [v]:=Bd.step (λ_ _=>⟨trivial,trivial⟩) (λ_ _=>rfl) hv;refine(hC.ok (λ_=>True) (λ_=>True) W [] [v] [.val (.list (.int .u8)) s] s r rfl rfl (λi a m _ h=>by simp at h) trivial ⟨v,[],rfl,hv',rfl⟩ (λp hp=>⟨(hgl p hp).1,trivial,(hgl p hp).2.2⟩) h).mono ?_;rintro e w' ⟨us,rfl,hk,A1,L1,g1,g2,g3⟩;obtain⟨ps,its,k1,k2,k3,k4,k5⟩:=g3 ⟨[],[],[]⟩ [] (λ_=>True) rfl (λ_ _=>trivial) (λ_ _ _=>trivial);refine⟨?_,hk⟩;obtain rfl:=Option.some.inj (show some [PV.val (.int .i64) r.1,PV.val (.int .i64) r.2]=some ps from k2);obtain⟨_,_,rfl,e1,_,_,rfl,e2,rfl⟩:=k3;cases(show [_]=[Value.int .i64 r.1]from e1);cases(show [_]=[Value.int .i64 r.2]from e2);rfl
structure KpF (n₀ Bx:Nat) (A B:World):Prop where
  le:A.heap.size<=B.heap.size
  box:B.heap[Bx]? =A.heap[Bx]?
  old:∀k,k<n₀->B.heap[k]? =A.heap[k]?
def T2(l:List (Int×Int)):Int:=l.foldl (λs x=>Ae s x.1) 0
def fin(y:Int×Int)(xs:List (Int×Int)):Prop:=(∃x∈xs,x.2≠0)\/y=(T2 xs,0)
def Ajv(y:Int×Int)(pre:List (Int×Int)):Prop:=∃p x,pre=p++[x]/\ (x.2≠0->y=(0,x.2))
theorem Tryz.As4:Tryz.f138.ntmps=35:=F3
theorem Tryz.u25:Tryz.prog.underlying 22=some (.slice 5):=F3
theorem Tryz.sz5:Iu Tryz.prog 5 1:=Iu.mk F3
set_option maxHeartbeats 2000000 in
set_option maxRecDepth 100000 in
theorem Ano(n:Nat)(l Bx n₀:Nat)(v:Value)(b:List UInt8)(y:Int×Int)(J Jx:List (Int×Int)->World->Prop)(gl:List (Nat×List Value))
    (hC:ConOk Tryz.prog gl 139 ⟨[.lf (.list (.int .u8)) none],[.lf (.int .i64) none, .lf (.int .i64) none],Vr⟩)
    (hY:∀pre x W,J pre W->pre.length<Ba->YieldAt Fence.wide (n-1) Tryz.prog l #[.int .i64 x.1, .int .i64 x.2] W λe W'=>
      (e= .returned (.bool true)/\J (pre++[x]) W'/\KpF n₀ Bx W W')\/ (e= .returned (.bool false)/\Jx (pre++[x]) W'))
    (W0:World) (hJ:AbidesFrom W0.heap.size J) (Ab1:W0.heap[Bx]? =some (.cells #[v] 22 (0,0))) (hn:n₀<=W0.heap.size) (hv:Bd (λk=>k<n₀) W0 (.list (.int .u8)) b [v]) (hgl:GlOk gl (λk=>k<n₀) W0)
    (h0:J [] W0) (hy:Iq b=some y):
    CallsIn Fence.wide n Tryz.prog 138 #[.func (.yield l) #[] #[], .pointer (some ⟨Bx,0,none⟩)] W0 λe W'=>(∃v,e= .returned v)/\ ((∃ys,fin y ys/\J ys W')\/ (∃pre,Ajv y pre/\Jx pre W')):=by
  refine callsIn_of_wp Tryz.func138 rfl trivial ?_ rfl;simp only[Tryz.As4,List.size_toArray,List.length_cons,List.length_nil,Nat.reduceAdd,Nat.reduceSub,Array.replicate_succ,Array.replicate_zero,List.push_toArray,List.append_toArray,List.nil_append,List.cons_append]
  gi_wp2
  refine Ajr Ba (λq a W=>∃(pre:List (Int×Int)) (x:Int) (v2 v4 v5 v6 v7 v8 v9 v10 v11 v12 v13 v14 v15 v16 v17 v18 v19 v20 v21 v22 v23 v24 v25 v26 v27 v28 v29 v30 v31 v32 v33 v34:Value),a={tmps:= #[.func (.yield l) #[] #[], .pointer (some ⟨Bx,0,none⟩),v2, .int .i64 x,v4,v5,v6,v7,v8,v9,v10,v11,v12,v13,v14,v15,v16,v17,v18,v19,v20,v21,v22,v23,v24,v25,v26,v27,v28,v29,v30,v31,v32,v33,v34],defers:=[]}/\Tf b q x=some y/\T2 pre=x/\pre.length+q=Ba/\J pre W/\KpF n₀ Bx W0 W/\W0.heap.size<=W.heap.size) ?_ ?_ ?_
  · rintro a W ⟨pre,x,v2,v4,v5,v6,v7,v8,v9,v10,v11,v12,v13,v14,v15,v16,v17,v18,v19,v20,v21,v22,v23,v24,v25,v26,v27,v28,v29,v30,v31,v32,v33,v34,_,h,_⟩
    cases h
  · rintro q a W ⟨pre,x,v2,v4,v5,v6,v7,v8,v9,v10,v11,v12,v13,v14,v15,v16,v17,v18,v19,v20,v21,v22,v23,v24,v25,v26,v27,v28,v29,v30,v31,v32,v33,v34,rfl,h,hx,hl,hJ1,hk,hs⟩
    simp only[Tf]at h;obtain⟨s,hcut,h⟩:=Go.Lv.bind_some h;obtain⟨r,hsz,h⟩:=Go.Lv.bind_some h;have hvW:Bd (λk=>k<n₀) W (.list (.int .u8)) b [v]:=Bd.step (λ_ h=>h) (λk hk'=>hk.old k hk') hv;obtain⟨p,len,cap,m,rfl,rfl,hm,hlc,hsv⟩:=Aol (k:= .u8) hvW hcut;have hc:W.cell? ⟨Bx,0,none⟩=some (.slice p len cap):=by
      have:=hk.box;simp only[World.cell?,this,Ab1];rfl
    have hu:=Tryz.u25;have hz:=Tryz.sz5;obtain⟨k,e⟩:=r;have e1:geq e 6=(e==6):=rfl;have e2:geq e 0=(e==0):=rfl;have e3:Ae (m:Int) k=RowKit.wrap64 (m+k):=by
      simp only[Ae,GI.ofZ,GI.toZ,Go.Lv.wrap64,RowKit.wrap64];exact IntKind.wrap_i64 _
    have e4:Dm (RowKit.wrap64 (m+k)) 4000=decide (4000<RowKit.wrap64 (m+k)):=rfl;have e5:Bf e 0=(e !=0):=rfl;rw[e1,e2,e3,e4,e5]at h;have hp:=h;have hgW:GlOk gl (λk=>k<n₀) W:=λp hp=>⟨Nat.lt_of_lt_of_le (hgl p hp).1 hs,(hgl p hp).2.1,by rw[hk.old _ (hgl p hp).2.1];exact(hgl p hp).2.2⟩;have hcall:∀v',Bd (λk=>k<n₀) W (.list (.int .u8)) s [v']->CallsIn Fence.wide (n-1) Tryz.prog 139 #[v'] W λe0 W'=>e0= .returned (.tuple #[.int .i64 k, .int .i64 e])/\KeepN (λ_=>True) W W':=
      λv' hv'=>callsIn_wide.2 (Ate hC hv' hgW hsz)
    have hsm:∀z:Int,T2 (pre++[(k,z)])=RowKit.wrap64 (m+k):=λz=>by rw[<-e3,<-hx];simp[T2]
    have hlt:Bx<W.heap.size:=Nat.lt_of_lt_of_le (Array.getElem?_eq_some_iff.1 Ab1).1 hs
    gi_wp2
    all_goals
      refine⟨trivial,(λh=>nomatch h),(hcall _ (by first|(rw[if_neg (by assumption)]at hsv;exact hsv)|(simpa [*]using hsv))).mono ?_⟩;rintro e0 W1 ⟨rfl,hk1⟩;have hJ2:=hJ pre W W1 none hJ1 (zX hk1) (λr e=>by cases e);have hyl:∀e',YieldAt Fence.wide (n-1) Tryz.prog l #[Value.int IntKind.i64 k,Value.int IntKind.i64 e'] W1 _:=λe'=>hY pre (k,e') W1 hJ2 F0
      gi_wp2
      · rename_i h6
        rw[if_pos h6]at hp;refine bodyPost_ret (results_none rfl _ _ _) rfl ?_;exact⟨⟨_,rfl⟩, .inl ⟨pre, .inr (by rw[hx];cases hp;rfl),hJ2⟩⟩
      · obtain⟨fn,tmps,assign,body,hy1,hR⟩:=hyl 4
        rw[hy1]
        gi_wp2
        refine⟨(λh=>nomatch h),hR.mono ?_⟩;rintro e3 W3 (⟨rfl,hJ3,hk3⟩|⟨rfl,hJx3⟩)
        · gi_wp2
          refine bodyPost_ret (results_none rfl _ _ _) rfl ?_;exact⟨⟨_,rfl⟩, .inl ⟨pre++[(k,4)], .inl ⟨(k,4),Axz,Axz⟩,hJ3⟩⟩
        · gi_wp2
          refine bodyPost_ret (results_none rfl _ _ _) rfl ?_;refine⟨⟨_,rfl⟩, .inr ⟨pre++[(k,4)],⟨pre,(k,4),rfl,λhne=>?_⟩,hJx3⟩⟩;simp at hne
          all_goals simp_all
      · obtain⟨fn,tmps,assign,body,hy1,hR⟩:=hyl 0
        rw[hy1]
        gi_wp2
        refine⟨(λh=>nomatch h),hR.mono ?_⟩;rintro e3 W3 (⟨rfl,hJ3,hk3⟩|⟨rfl,hJx3⟩)
        · gi_wp2
          refine⟨pre++[(k,0)],_,_,_,_,_,_,_,_,_,_,_,_,_,_,_,_,_,_,_,_,_,_,_,_,_,_,_,_,_,_,_,_,_,rfl,?_,‹∀z:Int,T2 (pre++[(k,z)])=RowKit.wrap64 ((m:Int)+k)› 0,by simp;omega,hJ3,⟨?_,?_,?_⟩,?_⟩
          · simp_all
            exact Aui (by assumption) F0
          · exact Nat.le_trans hk.le (Nat.le_trans hk1.gr.le hk3.le)
          · exact hk3.box.trans ((hk1.same _ ‹Bx<W.heap.size› trivial).trans hk.box)
          · exact λj hj=>(hk3.old j hj).trans ((hk1.same j (Nat.lt_of_lt_of_le hj (Nat.le_trans hn hs)) trivial).trans (hk.old j hj))
          · exact Nat.le_trans hs (Nat.le_trans hk1.gr.le hk3.le)
        · gi_wp2
          refine bodyPost_ret (results_none rfl _ _ _) rfl ?_;exact⟨⟨_,rfl⟩, .inr ⟨pre++[(k,0)],⟨pre,(k,0),rfl,λhne=>absurd rfl hne⟩,hJx3⟩⟩
      · obtain⟨fn,tmps,assign,body,hy1,hR⟩:=hyl e
        rw[hy1]
        gi_wp2
        refine⟨(λh=>nomatch h),hR.mono ?_⟩;rintro e3 W3 (⟨rfl,hJ3,hk3⟩|⟨rfl,hJx3⟩)
        · gi_wp2
          rename_i hne;refine bodyPost_ret (results_none rfl _ _ _) rfl ?_;exact⟨⟨_,rfl⟩, .inl ⟨pre++[(k,e)], .inl ⟨(k,e),Axz,by simpa using hne⟩,hJ3⟩⟩
        · gi_wp2
          refine bodyPost_ret (results_none rfl _ _ _) rfl ?_;refine⟨⟨_,rfl⟩, .inr ⟨pre++[(k,e)],⟨pre,(k,e),rfl,λhne=>?_⟩,hJx3⟩⟩;simp at hne
          all_goals simp_all
  · exact⟨[],0,_,_,_,_,_,_,_,_,_,_,_,_,_,_,_,_,_,_,_,_,_,_,_,_,_,_,_,_,_,_,_,_,rfl,hy,rfl,Axz,h0,⟨Nat.le_refl _,rfl,λ_ _=>rfl⟩,Nat.le_refl _⟩
theorem Arl(n Bx n₀:Nat)(v:Value)(b:List UInt8)(y:Int×Int)(gl:List (Nat×List Value))
    (hC:ConOk Tryz.prog gl 139 ⟨[.lf (.list (.int .u8)) none],[.lf (.int .i64) none, .lf (.int .i64) none],Vr⟩)
    (w:World) (Ab1:w.heap[Bx]? =some (.cells #[v] 22 (0,0))) (hn:n₀<=w.heap.size) (hv:Bd (λk=>k<n₀) w (.list (.int .u8)) b [v]) (hgl:GlOk gl (λk=>k<n₀) w) (hy:Iq b=some y):
    SeqStopsK Fence.wide n Tryz.prog 138 #[.pointer (some ⟨Bx,0,none⟩)] (λx:Int×Int=> #[.int .i64 x.1, .int .i64 x.2]) (KpF n₀ Bx) (fin y) (Ajv y) Ba w:=by
  intro l J Jx W hW hJ hJx hY h0;have hlt:=(Array.getElem?_eq_some_iff.1 Ab1).1;have hb:∀k,k<n₀->W.heap[k]? =w.heap[k]? :=λk hk=>hW.block k (Nat.lt_of_lt_of_le hk hn);exact Ano n l Bx n₀ v b y J Jx gl hC hY W hJ ((hW.block Bx hlt).trans Ab1) (Nat.le_trans hn hW.size) (Bd.step (λ_ h=>h) hb hv)
    (λp hp=>⟨Nat.lt_of_lt_of_le (hgl p hp).1 hW.size,(hgl p hp).2.1,by rw[hb _ (hgl p hp).2.1];exact(hgl p hp).2.2⟩) h0 hy
theorem aZ{w W:World}{a:Addr}{v:Value}(h:KeepN (λ_=>True) w W)(ha:w.heap.size<=a.block):KeepN (λ_=>True) w (W.setCell a v):=by
  have hb:=(Below.refl w.heap.size W).setCell (p:=a) ha v;exact⟨λb hb' _=>(hb.block b hb').trans (h.same b hb' trivial),h.gr.trans ⟨hb.size,hb.os,hb.tape,hb.output⟩⟩
theorem heap_set{W:World}{a:Addr}{v:Value}{k:Nat}(h:k≠a.block):(W.setCell a v).heap[k]? =W.heap[k]? :=
  ((Below.refl (k+1) {W with heap:=W.heap}).block k F0▸(by
    show(W.heap.modify a.block _)[k]? =W.heap[k]?;rw[Array.getElem?_modify,if_neg (Ne.symm h)]))
theorem ze{W:World}{B:Nat}{v:Value}{t:TypeId}(h:W.heap[B]? =some (.cells #[v] t (0,0))):W.cell? ⟨B,0,none⟩=some v/\W.frozen? ⟨B,0,none⟩=false:=by
  constructor<;>simp[World.cell?,World.frozen?,h]
theorem kP(W:World)(v:Value)(t:TypeId):(W.alloc (.cells #[v] t)).cell? ⟨W.heap.size,0,none⟩=some v/\ (W.alloc (.cells #[v] t)).frozen? ⟨W.heap.size,0,none⟩=false:=ze (World.alloc_heap_new W _)
theorem Kg{W:World}{a:Addr}{v:Value}(o:Obj)(h:W.cell? a=some v):(W.alloc o).cell? a=some v:=cell_kept h (World.grownBy_alloc W o none) (λr e=>by cases e)
theorem Qf{W:World}{a:Addr}{v:Value}(o:Obj)(h:W.cell? a=some v)(hf:W.frozen? a=false):(W.alloc o).frozen? a=false:=(frozen_kept h (World.grownBy_alloc W o none) (λr e=>by cases e)).trans hf
theorem Tryz.At1:Tryz.f102.ntmps=4:=F3
theorem Tryz.Avr:Tryz.f66.ntmps=18:=F3
set_option maxHeartbeats 1000000 in
set_option maxRecDepth 100000 in
theorem Anc(n:Nat)(p:Option Addr)(len cap:Nat)(w:World):
    CallsIn Fence.wide n Tryz.prog 102 #[.slice p len cap] w λe w'=>e= .returned (.func (.func 138) #[] #[.pointer (some ⟨w.heap.size,0,none⟩)])/\w'=w.alloc (.cells #[.slice p len cap] 22):=by
  refine callsIn_of_wp Tryz.func102 rfl trivial ?_ rfl;simp only[Tryz.At1,List.size_toArray,List.length_cons,List.length_nil,Nat.reduceAdd,Nat.reduceSub,Array.replicate_succ,Array.replicate_zero,List.push_toArray,List.append_toArray,List.nil_append,List.cons_append]
  gi_wp2
  go_ret
  exact⟨rfl,rfl⟩
set_option maxHeartbeats 1000000 in
set_option maxRecDepth 100000 in
theorem Ah1(n:Nat)(h1:3<=n)(p:Option Addr)(len cap:Nat)(b:List UInt8)(y:Int×Int)(gl:List (Nat×List Value))
    (hC:ConOk Tryz.prog gl 139 ⟨[.lf (.list (.int .u8)) none],[.lf (.int .i64) none, .lf (.int .i64) none],Vr⟩)
    (w:World) (hv:Bd (λk=>k<w.heap.size) w (.list (.int .u8)) b [.slice p len cap]) (hgl:GlOk gl (λk=>k<w.heap.size) w) (hy:Iq b=some y):
    CallsIn Fence.wide n Tryz.prog 66 #[.slice p len cap] w λe w'=>e= .returned (.tuple #[.int .i64 y.1, .int .i64 y.2])/\KeepN (λ_=>True) w w':=by
  refine callsIn_of_wp_marks Tryz.func66 rfl trivial ?_ rfl;simp only[Tryz.Avr,List.size_toArray,List.length_cons,List.length_nil,Nat.reduceAdd,Nat.reduceSub,Array.replicate_succ,Array.replicate_zero,List.push_toArray,List.append_toArray,List.nil_append,List.cons_append]
  gi_wp2
  refine⟨trivial,(λh=>nomatch h),(Anc (n-1) _ _ _ _).mono ?_⟩;rintro e w' ⟨rfl,rfl⟩
  gi_wp2
  refine wpIn_rangeFunc_ownG (Kp:=KpF w.heap.size (w.heap.size+1+1+1)) rfl F0 (gf:=138) (lb:= #[.pointer (some ⟨w.heap.size+1+1+1,0,none⟩)]) rfl trivial (enters_of Tryz.func138 F3 rfl)
    (Arl (n-1) (w.heap.size+1+1+1) w.heap.size (.slice p len cap) b y gl hC _ ?Ab1 ?hn ?hv ?hgl hy)
    (λh k=>⟨Nat.le_trans h.le k.le,k.box.trans h.box,λj hj=>(k.old j hj).trans (h.old j hj)⟩) ?hKb (Below.refl _ _) (λ_=>rfl)
    (λpre W=>(∀x∈pre,x.2=0)/\ (W.cell? ⟨w.heap.size+1+1,0,none⟩=some (.int .i64 (T2 pre))/\W.frozen? ⟨w.heap.size+1+1,0,none⟩=false)/\
      (∃v,W.cell? ⟨w.heap.size,0,none⟩=some v/\W.frozen? ⟨w.heap.size,0,none⟩=false)/\ (∃v,W.cell? ⟨w.heap.size+1,0,none⟩=some v/\W.frozen? ⟨w.heap.size+1,0,none⟩=false)/\KeepN (λ_=>True) w W)
    (λc pre W=>c= .ret/\ (∃Apq x,pre=Apq++[x]/\x.2≠0/\W.cell? ⟨w.heap.size,0,none⟩=some (.int .i64 0)/\W.cell? ⟨w.heap.size+1,0,none⟩=some (.int .i64 x.2))/\KeepN (λ_=>True) w W)
    ?hI ?hIx ?h0
    (λx=>{tmps:= #[.slice p len cap,undef, .pointer (some ⟨w.heap.size,0,none⟩), .pointer (some ⟨w.heap.size+1,0,none⟩), .pointer (some ⟨w.heap.size+1+1,0,none⟩), .int .i64 x.1, .int .i64 x.2, .slice p len cap, .func (.func 138) #[] #[.pointer (some ⟨w.heap.size+1+1+1,0,none⟩)], .int .i64 x.1, .int .i64 x.2,undef,undef,undef,undef,undef,undef,undef],defers:=[]}) ?assign ?body ?done ?stop
  case assign=>
    intro l x W K hK
    gi_wp2
    exact hK
  case body=>
    rintro l pre x W ⟨hz,⟨hc,hf⟩,⟨v2,hc2,hf2⟩,⟨v3,hc3,hf3⟩,hk⟩ _
    gi_wp2
    · rename_i hx
      refine⟨(KeepsOthers.trans (KeepsOthers.setCell _ _ _) (KeepsOthers.setCell _ _ _)).from _,rfl,⟨pre,x,rfl,by simpa using hx,?_,?_⟩,aZ (aZ hk (Nat.le_refl _)) (Nat.le_succ _)⟩
      · refine(World.cell?_setCell_other _ _ _ _ Axz).trans ?_
        exact World.cell?_setCell_same' _ _ _ (by rw[hc2];rfl)
      · refine World.cell?_setCell_same' _ _ _ ?_
        rw[World.cell?_setCell_other W ⟨w.heap.size,0,none⟩ ⟨w.heap.size+1,0,none⟩ _ Axz,hc3];rfl
    · rename_i hx
      have hx0:x.2=0:=by simpa using hx
      refine⟨(KeepsOthers.setCell _ _ _).from _,⟨((Below.refl 0 W).setCell (p:=⟨w.heap.size+1+1,0,none⟩) (Nat.zero_le _) _).size,heap_set Axz,λk hk'=>heap_set F6⟩,?_,⟨?_,by rw[World.frozen?_setCell];exact hf⟩,⟨v2,?_,by rw[World.frozen?_setCell];exact hf2⟩,⟨v3,?_,by rw[World.frozen?_setCell];exact hf3⟩,aZ hk F6⟩
      · intro z hz'
        rcases List.mem_append.1 hz' with h|h
        · exact hz z h
        · simp at h;subst h;exact hx0
      · have e:T2 (pre++[x])=RowKit.wrap64 (T2 pre+x.1):=by
          simp only[T2,List.foldl_append,List.foldl_cons,List.foldl_nil,Ae,GI.ofZ,GI.toZ,Go.Lv.wrap64,RowKit.wrap64];exact IntKind.wrap_i64 _
        rw[e];exact World.cell?_setCell_same' _ _ _ (by rw[hc];rfl)
      · exact(World.cell?_setCell_other _ _ _ _ (by simp;try omega)).trans hc2
      · exact(World.cell?_setCell_other _ _ _ _ Axz).trans hc3
  case done=>
    rintro D xs W hD hS ⟨hz,⟨hc,hf⟩,⟨v2,hc2,hf2⟩,⟨v3,hc3,hf3⟩,hk⟩ hK
    gi_wp2
    have hy':y=(T2 xs,0):=hS.elim (λ⟨x,hx,hne⟩=>absurd (hz x hx) hne) id;have hlen:w.heap.size+4<=D:=by simp only[World.size_alloc]at hD;omega
    have hK':=((KeepsOthers.setCell W ⟨w.heap.size,0,none⟩ (.int .i64 (T2 xs))).trans (KeepsOthers.setCell _ ⟨w.heap.size+1,0,none⟩ (.int .i64 0))).same D _ hK rfl;have hk2:=aZ (v:= .int .i64 0) (a:=⟨w.heap.size+1,0,none⟩) (aZ (v:= .int .i64 (T2 xs)) (a:=⟨w.heap.size,0,none⟩) hk (Nat.le_refl _)) (Nat.le_succ _);have d0:((W.setCell ⟨w.heap.size,0,none⟩ (.int .i64 (T2 xs))).setCell ⟨w.heap.size+1,0,none⟩ (.int .i64 0)).cell? ⟨w.heap.size,0,none⟩=some (.int .i64 (T2 xs)):=
      (World.cell?_setCell_other _ _ _ _ Axz).trans (World.cell?_setCell_same' _ _ _ (by rw[hc2];rfl))
    have d1:((W.setCell ⟨w.heap.size,0,none⟩ (.int .i64 (T2 xs))).setCell ⟨w.heap.size+1,0,none⟩ (.int .i64 0)).cell? ⟨w.heap.size+1,0,none⟩=some (.int .i64 0):=
      World.cell?_setCell_same' _ _ _ (by rw[World.cell?_setCell_other W ⟨w.heap.size,0,none⟩ ⟨w.heap.size+1,0,none⟩ _ Axz,hc3];rfl)
    refine⟨Axz, .inl ⟨_,_,rfl,run_takeDeferred hK',?_⟩⟩;have hg:=grownBy_putObj' ((W.setCell ⟨w.heap.size,0,none⟩ (.int .i64 (T2 xs))).setCell ⟨w.heap.size+1,0,none⟩ (.int .i64 0)) D (.deferred none);have hr':∀r,some D=some r->∃o:Obj,((W.setCell ⟨w.heap.size,0,none⟩ (.int .i64 (T2 xs))).setCell ⟨w.heap.size+1,0,none⟩ (.int .i64 0)).heap[r]? =some o/\o.isCells=false:=λr e=>by cases e;exact⟨_,hK',rfl⟩
    have hc5:=cell_kept d0 hg hr';have hc6:=cell_kept d1 hg hr';refine⟨.tuple #[.int .i64 (T2 xs), .int .i64 0],?_,by rw[hy'],?_⟩
    · simp[results,Tryz.f66,go_sem,hc5,hc6]
    · refine⟨λb hb _=>(hg.block b (Nat.lt_of_lt_of_le hb hk2.gr.le) (λe=>?_)).trans (hk2.same b hb trivial),hk2.gr.trans ⟨hg.size,hg.os,hg.tape,hg.output⟩⟩
      cases e;omega
  case stop=>
    rintro D c pre W hD hS ⟨rfl,⟨Apq,x,rfl,hx,hc2,hc3⟩,hk⟩ hK
    gi_wp2
    obtain⟨p1,x1,he,hy1⟩:=hS;have hy':y=(0,x.2):=by
      have:=List.append_inj' he rfl;cases this.2;exact hy1 hx
    have hlen:w.heap.size+4<=D:=by simp only[World.size_alloc]at hD;omega
    refine⟨Axz, .inl ⟨_,_,rfl,run_takeDeferred hK,?_⟩⟩;have hg:=grownBy_putObj' W D (.deferred none);have hr':∀r,some D=some r->∃o:Obj,W.heap[r]? =some o/\o.isCells=false:=λr e=>by cases e;exact⟨_,hK,rfl⟩
    have hc5:=cell_kept hc2 hg hr';have hc6:=cell_kept hc3 hg hr';refine⟨.tuple #[.int .i64 0, .int .i64 x.2],?_,by rw[hy'],?_⟩
    · simp[results,Tryz.f66,go_sem,hc5,hc6]
    · refine⟨λb hb _=>(hg.block b (Nat.lt_of_lt_of_le hb hk.gr.le) (λe=>?_)).trans (hk.same b hb trivial),hk.gr.trans ⟨hg.size,hg.os,hg.tape,hg.output⟩⟩
      cases e;omega
  case Ab1=>
    have h:=World.alloc_heap_new (((w.alloc (.cells #[.int .i64 0] 3)).alloc (.cells #[.int .i64 0] 30)).alloc (.cells #[.int .i64 0] 3)) (.cells #[.slice p len cap] 22);simp only[World.size_alloc]at h;exact h
  case hn=>simp;omega
  case hI=>
    rintro s A B row ⟨hz,⟨hc,hf⟩,⟨v2,hc2,hf2⟩,⟨v3,hc3,hf3⟩,hk⟩ hg hr;have hr':∀r,row=some r->∃o:Obj,A.heap[r]? =some o/\o.isCells=false:=λr e=>(hr r e).2;refine⟨hz,⟨cell_kept hc hg hr',(frozen_kept hc hg hr').trans hf⟩,⟨v2,cell_kept hc2 hg hr',(frozen_kept hc2 hg hr').trans hf2⟩,⟨v3,cell_kept hc3 hg hr',(frozen_kept hc3 hg hr').trans hf3⟩,?_⟩;refine⟨λb hb _=>(hg.block b (Nat.lt_of_lt_of_le hb hk.gr.le) (λe=>?_)).trans (hk.same b hb trivial),hk.gr.trans ⟨hg.size,hg.os,hg.tape,hg.output⟩⟩;have:=(hr b e.symm).1;simp at this;omega
  case hIx=>
    rintro c s A B row ⟨hc,⟨Apq,x,hs,hx,hc2,hc3⟩,hk⟩ hg hr;have hr':∀r,row=some r->∃o:Obj,A.heap[r]? =some o/\o.isCells=false:=λr e=>(hr r e).2;refine⟨hc,⟨Apq,x,hs,hx,cell_kept hc2 hg hr',cell_kept hc3 hg hr'⟩,?_⟩;refine⟨λb hb _=>(hg.block b (Nat.lt_of_lt_of_le hb hk.gr.le) (λe=>?_)).trans (hk.same b hb trivial),hk.gr.trans ⟨hg.size,hg.os,hg.tape,hg.output⟩⟩;have:=(hr b e.symm).1;simp at this;omega
  case hKb=>
    intro W l o o' hl h _ _;have hlt:=(Array.getElem?_eq_some_iff.1 h).1;simp at hl;have hg:=grownBy_putObj' W l o';exact⟨hg.size,hg.block _ F0 (λe=>by cases e;omega),λk hk=>hg.block k F0 (λe=>by cases e;omega)⟩
  case hgl=>
    intro q hq;refine⟨by simp;have:=(hgl q hq).1;omega,(hgl q hq).2.1,?_⟩;have hb:=((((Below.refl w.heap.size w).alloc (Nat.le_refl _) (.cells #[.int .i64 0] 3)).alloc Axz (.cells #[.int .i64 0] 30)).alloc F6 (.cells #[.int .i64 0] 3)).alloc F6 (.cells #[.slice p len cap] 22);rw[hb.block _ (hgl q hq).1];exact(hgl q hq).2.2
  case hv=>
    have hb:=((((Below.refl w.heap.size w).alloc (Nat.le_refl _) (.cells #[.int .i64 0] 3)).alloc Axz (.cells #[.int .i64 0] 30)).alloc F6 (.cells #[.int .i64 0] 3)).alloc F6 (.cells #[.slice p len cap] 22);exact Bd.step (λ_ h=>h) (λk hk=>hb.block k hk) hv
  case h0=>
    have c0:=kP w (.int .i64 0) 3;have c1:=kP (w.alloc (.cells #[.int .i64 0] 3)) (.int .i64 0) 30;have c2:=kP ((w.alloc (.cells #[.int .i64 0] 3)).alloc (.cells #[.int .i64 0] 30)) (.int .i64 0) 3;simp only[World.size_alloc]at c1 c2;have hb:=((((Below.refl w.heap.size w).alloc (Nat.le_refl _) (.cells #[.int .i64 0] 3)).alloc Axz (.cells #[.int .i64 0] 30)).alloc F6 (.cells #[.int .i64 0] 3)).alloc F6 (.cells #[.slice p len cap] 22);exact⟨Axz,⟨Kg _ c2.1,Qf _ c2.1 c2.2⟩,⟨_,Kg _ (Kg _ (Kg _ c0.1)),Qf _ (Kg _ (Kg _ c0.1)) (Qf _ (Kg _ c0.1) (Qf _ c0.1 c0.2))⟩,
      ⟨_,Kg _ (Kg _ c1.1),Qf _ (Kg _ c1.1) (Qf _ c1.1 c1.2)⟩,⟨λb hb' _=>hb.block b hb',⟨hb.size,hb.os,hb.tape,hb.output⟩⟩⟩
def Ze:Con:=⟨[.lf (.list (.int .u8)) none],[.lf (.int .i64) none, .lf (.int .i64) none],λx=>Iq x⟩
theorem xZ{gl:List (Nat×List Value)}(hE:Ent Tryz.prog 66)(hC:ConOk Tryz.prog gl 139 ⟨[.lf (.list (.int .u8)) none],[.lf (.int .i64) none, .lf (.int .i64) none],Vr⟩):ConOk Tryz.prog gl 66 Ze:=by
  refine⟨hE,?_⟩;intro R N w L0 vs ps x y hargs hlen hit gI hvs hgl hy;obtain rfl:=Option.some.inj (show some [PV.val (.list (.int .u8)) x]=some ps from hargs);obtain⟨v,_,rfl,h1,rfl⟩:=hvs;have h2:Bd (λb=>R b/\N b) w (.list (.int .u8)) x [v]:=h1;have h3:=Bd.step (B':=λk=>k<w.heap.size) (λ_ h=>h.1) (λ_ _=>rfl) (Zw h2);obtain⟨p,len,cap,rfl⟩:∃p len cap,v= .slice p len cap:=by
    obtain⟨v1,c0,e1,⟨p,len,cap,rfl,_⟩,_⟩:=h2;cases e1;exact⟨_,_,_,rfl⟩
  refine(callsIn_wide.1 (Ah1 3 (Nat.le_refl _) p len cap x y gl hC w h3 (λq hq=>⟨(hgl q hq).1,(hgl q hq).1,(hgl q hq).2.2⟩) hy)).mono ?_;rintro e w' ⟨rfl,hk⟩;refine⟨[.int .i64 y.1, .int .i64 y.2],rfl,⟨λb hb _=>hk.same b hb trivial,hk.gr⟩,λ_=>False,[],λ_ h=>h.elim,?_,?_⟩
  · trivial
  · intro s L B' hl _ _
    refine⟨[.val (.int .i64) y.1, .val (.int .i64) y.2],[],(show s=⟨s.sl,s.it++[],s.st⟩ by simp),rfl,?_,rfl,λi a m h=>by simp at h⟩;exact⟨_,_,rfl,rfl,_,_,rfl,rfl,rfl⟩
end Go.Proofs.YtheamkpclkijmaaGreatDoor
