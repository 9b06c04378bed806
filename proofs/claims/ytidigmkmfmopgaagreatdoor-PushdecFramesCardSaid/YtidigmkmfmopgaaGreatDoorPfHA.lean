/- A part of the proof of a statement of this seat (see the text that ends in Proof): PfHand. No conditions of its own. -/
import Derived.Test.YtidigmkmfmopgaaGreatDoorPfBB
import Derived.Test.YtidigmkmfmopgaaGreatDoorPfPA
import Derived.Test.YtidigmkmfmopgaaGreatDoorProg
import Derived.KernelRfl
import Derived.RangeFuncKeeps
import Derived.RangeFuncLeaves
import Derived.RangeFuncWrites
import Derived.Shelf.Abstract
import Derived.WalkKit
import Derived.OwnWalkIn
import Derived.TacticsInMore
import Derived.LoopNIn
import Derived.LoopIn
set_option linter.unusedVariables false
set_option linter.unusedSimpArgs false
namespace Go.Proofs.YtidigmkmfmopgaaGreatDoor
open Go.RowKit Go.Shelf Go Go.Rx Go.Lv Go.Pl
attribute [local go_sem] Oper.semAt_some
noncomputable def Acd:Con:=⟨[.lf (.int .i64) none, .lf (.int .i64) none],[.lf (.list (.int .i64)) (some 3), .lf (.int .i64) none],λx=>AK x.1 x.2⟩
noncomputable def Ze(gl:List (Nat×List Value)):Tab:=⟨[(101,Acd)],gl,false⟩
noncomputable abbrev MV{R:Type}(gl:List (Nat×List Value)):vT R:=NV Tryz.prog (Ze gl) 8 []
noncomputable def Axr:Code:=fB Tryz.f124
noncomputable def Ard:Code:=cB Axr
noncomputable def Art:Code:=cB Ard
noncomputable def Ah0:Code:=cA (cA (cB Art))
noncomputable def Ar9:Code:=cB (cB Ah0)
noncomputable def Aho:Code:=cA (cA Ar9)
noncomputable def Ack:Code:=cB (cB Aho)
noncomputable def Arn:Code:=cA Axr
noncomputable def Aq7:Code:=cA Ard
noncomputable def Aqf:Code:=cA Art
noncomputable def Asf:Code:=cA Ah0
noncomputable def Aqx:Code:=cA (cB Ah0)
noncomputable def Ary:Code:=cB Ar9
noncomputable def Ass:Code:=cA Aho
noncomputable def Arc:Code:=cA (cB Aho)
noncomputable def Aq1:Code:=cB Ack
noncomputable def Ah5:List Oper:=cO (cA (cA Ack))
noncomputable def Ajf:Code:=cB (cA Ack)
noncomputable def tL:List Oper:=Ah5.take 6
noncomputable def gJ:Oper:=oAt Ah5 6
noncomputable def oH:Oper:=oAt Ah5 7
theorem Au3:Tryz.f124.body=some (.seq Arn (.seq Aq7 (.seq Aqf (.block 0 (.loop (.seq Asf (.seq Aqx (.seq (.block 1 (.seq Ass (.seq Arc (.seq (.seq (.region 6 (tL++gJ::[oH]).toArray false) Ajf) Aq1)))) Ary)))))))):=by kernel_rfl
theorem Bbz:Tryz.f124.ntmps=43:=by kernel_rfl
theorem Azg:gJ.guard=none:=by kernel_rfl
theorem Axw:gJ.dst=some 39:=by kernel_rfl
theorem Al0:gJ.op= .call ⟨.value (.tmp 33), #[.tmp 38], #[22]⟩:=by kernel_rfl
abbrev Mh(a f h:Int)(b:LX):PV:= .agg [vi a,vi f,vi h,vw b]
abbrev VB(y:Value)(v:PV)(ls:LI)(i x:Int):Slots:=[(0, .cst y),(1, .rptr v),(5,vi x),(21,vl ls),(22,vi (Ac ls)),(23,vi i)]
abbrev bR(lv:List Nat):K (Nat×S):=kC lv []
abbrev Hp(l:Nat):Value:= .func (.yield l) #[] #[]
theorem Bbf(gl:List (Nat×List Value))(l:Nat)(a f h:Int)(b:LX):ex Tryz.prog (Ze gl) (MV gl) 43 Arn .d (kC [0,1,3] [⟨3,[], .ro (.int .i64)⟩]) ⟨[(0, .cst (Hp l)),(1, .rptr (Mh a f h b))],[],[]⟩=
    Option.bind (Le (Bi a 0)) λ_=>Option.bind (AK h (Cv (Ac b) a)) λp=>some (0,⟨[(0, .cst (Hp l)),(1, .rptr (Mh a f h b)),(3,vl p.1)],[],[]⟩):=by kernel_rfl
theorem Bba(gl:List (Nat×List Value))(l:Nat)(v:PV)(ls:LI):ex Tryz.prog (Ze gl) (MV gl) 43 Aq7 .d (bR [0,1,3,5]) ⟨[(0, .cst (Hp l)),(1, .rptr v),(3,vl ls)],[],[]⟩=some (0,⟨[(0, .cst (Hp l)),(1, .rptr (ren [] v)),(3,vl ls),(5,vi 0)],[],[]⟩):=by kernel_rfl
theorem Bc1(gl:List (Nat×List Value))(l:Nat)(a f h:Int)(b:LX)(ls:LI):ex Tryz.prog (Ze gl) (MV gl) 43 Aqf .d (bR [0,1,5,21,22,23]) ⟨[(0, .cst (Hp l)),(1, .rptr (Mh a f h b)),(3,vl ls),(5,vi 0)],[],[]⟩=
    some (0,⟨VB (Hp l) (Mh a f h b) ls 0 0,[],[]⟩):=by kernel_rfl
theorem Bb3(gl:List (Nat×List Value))(l:Nat)(a f h:Int)(b:LX)(ls:LI)(i x:Int):ex Tryz.prog (Ze gl) (MV gl) 43 Asf .d (bR [0,1,5,21,22,23,24]) ⟨VB (Hp l) (Mh a f h b) ls i x,[],[]⟩=
    some (0,⟨VB (Hp l) (Mh a f h b) ls i x++[(24,vt (Cr i (Ac ls)))],[],[]⟩):=by kernel_rfl
theorem Asz(gl:List (Nat×List Value))(l:Nat)(a f h:Int)(b:LX)(ls:LI)(i x:Int)(t:Bool):ex Tryz.prog (Ze gl) (MV gl) 43 Aqx .d (bR [0,1,5,21,22,23]) ⟨VB (Hp l) (Mh a f h b) ls i x++[(24,vt t)],[],[]⟩=
    if t=true then some (0,⟨VB (Hp l) (Mh a f h b) ls i x,[],[]⟩)else some (2,⟨VB (Hp l) (Mh a f h b) ls i x,[],[]⟩):=by kernel_rfl
theorem Bbv(gl:List (Nat×List Value))(l:Nat)(a f h:Int)(b:LX)(ls:LI)(i x:Int):ex Tryz.prog (Ze gl) (MV gl) 43 Ass .d (bR [0,1,5,7,21,22,23]) ⟨VB (Hp l) (Mh a f h b) ls i x,[],[]⟩=
    Option.bind (Ap ls i) λn=>some (0,⟨[(0, .cst (Hp l)),(1, .rptr (Mh a f h b)),(5,vi x),(7,vi n),(21,vl ls),(22,vi (Ac ls)),(23,vi i)],[],[]⟩):=by kernel_rfl
theorem Bcj(gl:List (Nat×List Value))(l:Nat)(a f h:Int)(b:LX)(ls:LI)(i x n:Int):ex Tryz.prog (Ze gl) (MV gl) 43 Arc .d (bR [0,1,5,8,21,22,23]) ⟨[(0, .cst (Hp l)),(1, .rptr (Mh a f h b)),(5,vi x),(7,vi n),(21,vl ls),(22,vi (Ac ls)),(23,vi i)],[],[]⟩=
    some (0,⟨[(0, .cst (Hp l)),(1, .rptr (Mh a f h b)),(5,vi x),(8,vi (Ad x (Bn n a))),(21,vl ls),(22,vi (Ac ls)),(23,vi i)],[],[]⟩):=by kernel_rfl
abbrev Ar6(y:Value)(v:PV)(ls:LI)(i x z:Int)(p:LX):Slots:=[(0, .cst y),(1, .rptr v),(5,vi x),(8,vi z),(21,vl ls),(22,vi (Ac ls)),(23,vi i),(33, .cst y),(38,vw p)]
theorem Bdt(gl:List (Nat×List Value))(l:Nat)(a f h:Int)(b:LX)(ls:LI)(i x z:Int):qK Tryz.prog (Ze gl) (MV gl) 43 (tL++gJ::[oH]).toArray tL ⟨[(0, .cst (Hp l)),(1, .rptr (Mh a f h b)),(5,vi x),(8,vi z),(21,vl ls),(22,vi (Ac ls)),(23,vi i)],[],[]⟩ (cnP [0,1,5,8,21,22,23,33,38] [] 0)=
    Option.bind (Bk b x z) λp=>some (0,⟨Ar6 (Hp l) (Mh a f h b) ls i x z p,[],[]⟩):=by kernel_rfl
theorem Bct(gl:List (Nat×List Value))(l:Nat)(a f h:Int)(b:LX)(ls:LI)(i x z:Int)(p:LX)(t:Bool):qK Tryz.prog (Ze gl) (MV gl) 43 (tL++gJ::[oH]).toArray [oH] ⟨Atn (Ar6 (Hp l) (Mh a f h b) ls i x z p) 39 (vt t),[],[]⟩ (cnP [0,1,5,8,21,22,23,40] [] 0)=
    some (0,⟨[(0, .cst (Hp l)),(1, .rptr (Mh a f h b)),(5,vi x),(8,vi z),(21,vl ls),(22,vi (Ac ls)),(23,vi i),(40,vt (!t))],[],[]⟩):=by kernel_rfl
theorem Bbn(gl:List (Nat×List Value))(l:Nat)(a f h:Int)(b:LX)(ls:LI)(i x z:Int)(t:Bool):ex Tryz.prog (Ze gl) (MV gl) 43 Ajf .d (bR [0,1,5,8,21,22,23]) ⟨[(0, .cst (Hp l)),(1, .rptr (Mh a f h b)),(5,vi x),(8,vi z),(21,vl ls),(22,vi (Ac ls)),(23,vi i),(40,vt t)],[],[]⟩=
    if t=true then some (1,⟨[(0, .cst (Hp l)),(1, .rptr (Mh a f h b)),(5,vi x),(8,vi z),(21,vl ls),(22,vi (Ac ls)),(23,vi i)],[],[]⟩)else some (0,⟨[(0, .cst (Hp l)),(1, .rptr (Mh a f h b)),(5,vi x),(8,vi z),(21,vl ls),(22,vi (Ac ls)),(23,vi i)],[],[]⟩):=by kernel_rfl
theorem Baw(gl:List (Nat×List Value))(l:Nat)(a f h:Int)(b:LX)(ls:LI)(i x z:Int):ex Tryz.prog (Ze gl) (MV gl) 43 Aq1 .d (bR [0,1,5,21,22,23]) ⟨[(0, .cst (Hp l)),(1, .rptr (Mh a f h b)),(5,vi x),(8,vi z),(21,vl ls),(22,vi (Ac ls)),(23,vi i)],[],[]⟩=
    some (0,⟨VB (Hp l) (Mh a f h b) ls i z,[],[]⟩):=by kernel_rfl
theorem Bda(gl:List (Nat×List Value))(l:Nat)(a f h:Int)(b:LX)(ls:LI)(i x:Int):ex Tryz.prog (Ze gl) (MV gl) 43 Ary .d (bR [0,1,5,21,22,23]) ⟨VB (Hp l) (Mh a f h b) ls i x,[],[]⟩=
    some (0,⟨VB (Hp l) (Mh a f h b) ls (Ad i 1) x,[],[]⟩):=by kernel_rfl
theorem Azt:qK Tryz.prog ⟨[],[],false⟩ (NV Tryz.prog ⟨[],[],false⟩ 8 []) 43 (tL++gJ::[oH]).toArray [oH] ⟨[(39,vt false)],[],[]⟩ (cnP [40] [] 0)=some (0,⟨[(40,vt true)],[],[]⟩):=by kernel_rfl
theorem Az3:ex Tryz.prog ⟨[],[],false⟩ (NV Tryz.prog ⟨[],[],false⟩ 8 []) 43 Ajf .d (bR []) ⟨[(40,vt true)],[],[]⟩=some (1,⟨[],[],[]⟩):=by kernel_rfl
theorem Baa{i:Nat}(h:i<17179869184):Ad (i:Int) 1=((i+1:Nat):Int):=by
  rw[show Ad (i:Int) 1=Go.Lv.wrap64 ((i:Int)+1)from rfl,Go.Lv.Cx (by omega) (by omega)];omega
def Acf:PV->Option (List LX)
  | .agg [.val (.int .i64) a, .val (.int .i64) _, .val (.int .i64) h, .val (.list (.int .i32)) b]=>WY a h b
  |_=>none
theorem Aoc{v:PV}{xs:List LX}(h:Acf v=some xs):∃a f r b,v=Mh a f r b/\WY a r b=some xs:=by
  unfold Acf at h;split at h
  · exact⟨_,_,_,_,rfl,h⟩
  · cases h
theorem iX{a:Int}{b:LX}{n:Int}{l:LI}{x:Int}{ps:List LX}(h:Sc a b (n::l) x=some ps):∃p r,Bk b x (Ad x (Bn n a))=some p/\Sc a b l (Ad x (Bn n a))=some r/\ps=p::r:=by
  simp only[Sc]at h;obtain⟨p,h1,h⟩:=Go.Lv.bind_some h;obtain⟨r,h2,h⟩:=Go.Lv.bind_some h;cases h;exact⟨p,r,h1,h2,rfl⟩
theorem lW{a:Int}{b:LX}:∀{l:LI} {x:Int} {ps:List LX},Sc a b l x=some ps->ps.length=l.length
  |[],x,ps,h=>by simp only[Sc,Option.some.injEq]at h;subst h;rfl
  |n::l,x,ps,h=>by
    obtain⟨p,r,_,h2,rfl⟩:=iX h;simp[lW h2]
theorem Ato{gl:List (Nat×List Value)}(hC:ConOk Tryz.prog gl 101 Acd)(hE:Ent Tryz.prog 124):ItOk Tryz.prog gl 124 ⟨24, .list (.int .i32),Acf⟩:=by
  refine⟨hE,λm B w b v cells xs hB hb hcell henc hgl hF=>?_⟩;have hF:Acf v=some xs:=hF;obtain⟨a,f,h,s,rfl,hF⟩:=Aoc hF;have hM:Tryz.prog.follows .mixedOrders=true:=by kernel_rfl
  have hT:LV Tryz.prog (Ze gl):= .cons hC .nil;have hI:∀{R:Type},MA (R:=R) Tryz.prog (Ze gl).gl (MV gl):=uD hM hT Ft.nil 8;unfold WY at hF;obtain⟨u0,hok,hF⟩:=Go.Lv.bind_some hF;obtain⟨p0,hall,hF⟩:=Go.Lv.bind_some hF;obtain⟨u1,hlim,hF⟩:=Go.Lv.bind_some hF;have hlim:p0.1.length<=17179869184:=by
    unfold Le at hlim;split at hlim
    · rename_i h;have h':=of_decide_eq_true h;unfold Ac at h';omega
    · cases hlim
  have hlen:=lW hF;intro l J Jx W hk hJ hJx hY h0;refine callsIn_of_wp_marks Tryz.func124 Au3 trivial ?_ rfl;have hGr:∀i V X Y,J i V X->KeepN (λ_=>True) X Y->J i (grown V X Y) Y:=λi V X Y h k=>hJ i V X Y h k;have hbW:W.heap[b]? =some (.cells cells.toArray 24 (0,0)):=(hk.same b (hB b hb) trivial).trans hcell;have hm0:MemI gl B W ⟨[(0, .cst (Hp l)),(1, .rptr (Mh a f h s))],[],[]⟩ (qD [Hp l, .pointer (some ⟨b,0,none⟩)]):=by
    refine⟨λk hk'=>Nat.lt_of_lt_of_le (hB k hk') hk.gr.le,rfl,rfl,λp hp=>?_,hgl.keep (λ_ h=>h) (λk hk'=>hk.same k (hB k hk') trivial) hk.gr⟩;rcases List.mem_cons.1 hp with rfl|hp
    · exact(show _/\ _ from⟨rfl,rfl⟩)
    rcases List.mem_cons.1 hp with rfl|hp
    · exact⟨_,cells,rfl,⟨b,0,cells.toArray,_,_,rfl,hb,hbW,λi _=>by simp⟩,Bj.step (λ_ h=>h) (λk hk'=>hk.same k (hB k hk') trivial) (.refl []) henc⟩
    · cases hp
  have ha0:=Ab9 (fn:=Tryz.f124) (vs:=[Hp l, .pointer (some ⟨b,0,none⟩)]) (by kernel_rfl);have e0:(#[Value.func (.yield l) #[] #[]]++ #[Value.pointer (some ⟨b,0,none⟩)]:Array Value)=[Hp l, .pointer (some ⟨b,0,none⟩)].toArray:=by simp
  rw[e0]
  revert ha0
  generalize({tmps:=_,defers:=[]}:Act)=Bm5;rw[Bbz];intro ha0;refine sA hM hT hI (J:=J 0) (hGr 0) .d [0,1,3] [⟨3,[], .ro (.int .i64)⟩] ((Bbf gl l a f h s).trans (by rw[hok,hall];rfl)) rfl hm0 h0 ha0 λσ1 V1 w1 a1 f1 j1 m1=>?_;refine sA hM hT hI (J:=J 0) (hGr 0) .d [0,1,3,5] [] (Bba gl l _ p0.1) rfl m1 j1 f1 λσ2 V2 w2 a2 f2 j2 m2=>?_;refine sA hM hT hI (J:=J 0) (hGr 0) .d [0,1,5,21,22,23] [] (Bc1 gl l a f h s p0.1) rfl m2 j2 f2 λσ3 V3 w3 a3 f3 j3 m3=>?_;have fin:∀{σ:Env} {a':Act} {w':World},Fits [] 43 a' σ-> ((∃V,J xs.length V w')\/Jx w')->LeavesInM (wr none) m Tryz.prog Tryz.f124 a'.tmps (λe W'=>(∃v,e= .returned v)/\ ((∃V,J xs.length V W')\/Jx W')) a'.defers .returning w':=by
    intro σ a' w' hf hh;rw[hf.defers];exact⟨_,ZH (rs:=[]) (vs:=[]) (by kernel_rfl) hf trivial,⟨_,rfl⟩,hh⟩
  refine wpIn_block (xM (p0.1.length+1) (λq a' w'=>∃(i:Nat) (x:Int) (V:Reg) (σ:Env),q+i=p0.1.length+1/\i<=p0.1.length/\Fits [] 43 a' σ/\J i V w'/\MemI gl V w' ⟨VB (Hp l) (Mh a f h s) p0.1 (i:Int) x,[],[]⟩ σ/\Sc a s (p0.1.drop i) x=some (xs.drop i)) ?_ ?_
    ⟨0,0,V3,σ3,rfl,Nat.zero_le _,f3,j3,m3,hF⟩)
  · rintro a' w' ⟨i,x,V,σ,hq,hi,_⟩
    omega
  rintro q a' w' ⟨i,x,V,σ,hq,hi,hf,hj,hm,hp⟩;refine sA hM hT hI (J:=J i) (hGr i) .d [0,1,5,21,22,23,24] [] (Bb3 gl l a f h s p0.1 i x) rfl hm hj hf λσ4 V4 w4 a4 f4 j4 m4=>?_;by_cases hlt:i<p0.1.length
  · have hg:Cr (i:Int) (Ac p0.1)=true:=by simp[Cr,Ac,GI.toZ];exact hlt
    rw[hg]at m4;refine sA hM hT hI (J:=J i) (hGr i) .d [0,1,5,21,22,23] [] (Asz gl l a f h s p0.1 i x true) rfl m4 j4 f4 λσ5 V5 w5 a5 f5 j5 m5=>?_;obtain⟨n,hn⟩:∃n,p0.1[i]? =some n:=⟨_,List.getElem?_eq_getElem hlt⟩;have hgn:Go.Lv.Ap p0.1 (i:Int)=some n:=by simp[Go.Lv.Ap,hn]
    have hd:p0.1.drop i=n::p0.1.drop (i+1):=by rw[List.drop_eq_getElem_cons hlt];congr 1;rw[List.getElem?_eq_getElem hlt]at hn;exact Option.some.inj hn
    rw[hd]at hp;obtain⟨p,r,hcut,hp',hxs⟩:=iX hp;have hi':i<xs.length:=by omega
    have hx:xs[i]? =some p:=by
      have:=congrArg List.head? hxs;rw[List.head?_drop]at this;exact this
    have hr:xs.drop (i+1)=r:=by
      have:=congrArg List.tail hxs;rw[List.tail_drop]at this;exact this
    refine wpIn_seq (wpIn_block ?_);refine sA hM hT hI (J:=J i) (hGr i) .d [0,1,5,7,21,22,23] [] ((Bbv gl l a f h s p0.1 i x).trans (by rw[hgn];rfl)) rfl m5 j5 f5 λσ6 V6 w6 a6 f6 j6 m6=>?_;refine sA hM hT hI (J:=J i) (hGr i) .d [0,1,5,8,21,22,23] [] (Bcj gl l a f h s p0.1 i x n) rfl m6 j6 f6 λσ7 V7 w7 a7 f7 j7 m7=>?_;refine wpIn_seq (wpIn_seq (wpIn_region_lit ?_));refine Ai9 (T:=Ze gl) hT hI (J:=J i) (hGr i) [0,1,5,8,21,22,23,33,38] (by kernel_rfl) ((Bdt gl l a f h s p0.1 i x (Ad x (Bn n a))).trans (by rw[hcut];rfl)) rfl m7 j7 f7 λσ8 V8 w8 a8 f8 j8 m8=>?_;have v33:σ8 33=Hp l:=by
      have:=m8.val (t:=33) (p:= .cst (Hp l)) (by simp) rfl;exact(show [σ8 33]=[Hp l]/\ _ from this).1|>List.head_eq_of_cons_eq
    have v38:Iu V8 w8 [] (vw p) (σ8 38):=(iD rfl).1 (m8.val (t:=38) (p:=vw p) (by simp) rfl);refine Aym Azg Axw (by decide) (λc hc=>by rw[Al0]at hc;cases hc) (Akj Al0 v33 rfl) (hY i V8 w8 (σ8 38) hi' j8 (λx' hx'=>by rw[hx]at hx';cases hx';exact v38)) ?_ f8;rintro e w9 (⟨rfl,j9,hgr,hsame⟩|⟨rfl,jx⟩)
    · refine⟨_,rfl,λa9 f9=>?_⟩
      have m9:=(m8.round hgr hsame).set (d:=39) (p:=vt true) (v:= .bool true) rfl (show [Value.bool true]=[Value.bool true]from rfl);refine Ai9 (T:=Ze gl) (l2:=[]) hT hI (J:=J (i+1)) (hGr (i+1)) [0,1,5,8,21,22,23,40] (by kernel_rfl) (Bct gl l a f h s p0.1 i x (Ad x (Bn n a)) p true) rfl m9 j9 f9 λσb Vb wb ab fb jb mb=>?_;refine wpIn_mono (oM hM hT hI (J:=J (i+1)) (hGr (i+1)) (an:= .d) (lv:=[0,1,5,8,21,22,23]) (co:=[]) (Bbn gl l a f h s p0.1 i x (Ad x (Bn n a)) false) rfl mb jb fb) ?_;rintro e ac wc ⟨he,σc,Vc,fc,jc,mc⟩;cases e with
      |normal=>
        refine wpIn_mono (oM hM hT hI (J:=J (i+1)) (hGr (i+1)) (an:= .d) (lv:=[0,1,5,21,22,23]) (co:=[]) (Baw gl l a f h s p0.1 i x (Ad x (Bn n a))) rfl mc jc fc) ?_;rintro e ad wd ⟨he,σd,Vd,fd,jd,md⟩;cases e with
        |normal=>
          refine wpIn_mono (oM hM hT hI (J:=J (i+1)) (hGr (i+1)) (an:= .d) (lv:=[0,1,5,21,22,23]) (co:=[]) (Bda gl l a f h s p0.1 i (Ad x (Bn n a))) rfl md jd fd) ?_;rintro e ae we ⟨he,σe,Ve,fe,je,me⟩;cases e with
          |normal=>
            have hadd:Ad (i:Int) 1=((i+1:Nat):Int):=Baa (by omega);rw[hadd]at me;exact⟨i+1,_,Ve,σe,by omega,by omega,fe,je,me,by rw[hr];exact hp'⟩
          |ret=>simp[rY]at he
          |exit id=>simp[rY]at he
          |goto l=>cases he
          |panic c=>cases he
          |outgrown=>cases he
        |ret=>simp[rY]at he
        |exit id=>simp[rY]at he
        |goto l=>cases he
        |panic c=>cases he
        |outgrown=>cases he
      |ret=>simp[rY]at he
      |exit id=>simp[rY]at he
      |goto l=>cases he
      |panic c=>cases he
      |outgrown=>cases he
    · refine⟨_,rfl,λa9 f9=>?_⟩
      have hT0:LV Tryz.prog ⟨[],[],false⟩:= .nil;have hI0:∀{R:Type},MA (R:=R) Tryz.prog [] (NV Tryz.prog ⟨[],[],false⟩ 8 []):=uD hM hT0 Ft.nil 8;have m9:MemI [] (λ_=>False) w9 ⟨[(39,vt false)],[],[]⟩ (Zb σ8 39 (.bool false)):=⟨λ_ h=>h.elim,rfl,rfl,(λp hp=>by
        rcases List.mem_cons.1 hp with rfl|hp
        · exact Jr.put rfl (show [Value.bool false]=[Value.bool false]from rfl)
        · cases hp),λp hp=>by cases hp⟩
      refine Ai9 (T:=⟨[],[],false⟩) (l2:=[]) hT0 hI0 (J:=λ_ W=>Jx W) (λ_ X Y h k=>hJx X Y h k) [40] (by kernel_rfl) Azt rfl m9 jx f9 λσb Vb wb ab fb jb mb=>?_;refine wpIn_mono (oM (T:=⟨[],[],false⟩) hM hT0 hI0 (J:=λ_ W=>Jx W) (λ_ X Y h k=>hJx X Y h k) (an:= .d) (lv:=[]) (co:=[]) Az3 rfl mb jb fb) ?_;rintro e ac wc ⟨he,σc,Vc,fc,jc,mc⟩;cases e with
      |ret=>exact fin fc (.inr jc)
      |normal=>simp[rY]at he
      |exit id=>simp[rY]at he
      |goto l=>cases he
      |panic c=>cases he
      |outgrown=>cases he
  · have hi2:i=p0.1.length:=by omega
    have hg:Cr (i:Int) (Ac p0.1)=false:=by subst hi2;simp[Cr,Ac,GI.toZ]
    rw[hg]at m4;refine wpIn_seq (wpIn_mono (oM hM hT hI (J:=J i) (hGr i) (an:= .d) (lv:=[0,1,5,21,22,23]) (co:=[]) (Asz gl l a f h s p0.1 i x false) rfl m4 j4 f4) ?_);rintro e ac wc ⟨he,σc,Vc,fc,jc,mc⟩;cases e with
    |exit id=>
      obtain rfl:id=0:=by simpa [rY]using he
      exact fin fc (.inl ⟨Vc,by rw[hlen,<-hi2];exact jc⟩)
    |ret=>simp[rY]at he
    |normal=>simp[rY]at he
    |goto l=>cases he
    |panic c=>cases he
    |outgrown=>cases he
abbrev Ac1:List Sh:=[.agg [.lf (.int .i64) none, .lf (.int .i64) none, .lf (.int .i64) none, .lf (.list (.int .i32)) none], .lf .str none]
abbrev QU:List Sh:=[.lf (.list (.list (.int .u8))) (some 27), .lf (.int .i64) none]
noncomputable def Amk:Con:=⟨[.agg [.lf (.int .i64) none, .lf (.int .i64) none, .lf (.int .i64) none, .lf (.list (.int .i32)) none]],[.lf (.int .i64) none],λx=>Ex x.1 x.2.1 x.2.2.1 x.2.2.2⟩
noncomputable def Anf:Con:=⟨[.lf .str none],[.lf (.vec 16 (.int .i32)) none, .lf (.int .i64) none],Uf⟩
noncomputable def Alb:Con:=⟨[.agg [.lf (.int .i64) none, .lf (.int .i64) none], .lf (.vec 16 (.int .i32)) none, .lf (.list (.int .i32)) none],[.lf (.list (.int .u8)) (some 5), .lf (.int .i64) none],λx=>Ui x.1 x.2.1 x.2.2.1 x.2.2.2⟩
noncomputable def Amf:Con:=⟨[.agg [.lf (.int .i64) none, .lf (.int .i64) none, .lf (.int .i64) none, .lf (.list (.int .i32)) none]],[.agg [.lf (.int .i64) none, .lf (.int .i64) none]],λx=>NQ x.1 x.2.1 x.2.2.1 x.2.2.2⟩
noncomputable def uA(gl:List (Nat×List Value)):Tab:=⟨[(84,Amk),(85,Anf),(87,Alb),(88,Amf)],gl,true⟩
noncomputable def Ani:List (Nat×ItC):=[(124,⟨24, .list (.int .i32),Acf⟩)]
noncomputable def Aa6:List (Nat×An):=[(86, .d)]
noncomputable abbrev Aq0{R:Type}(gl:List (Nat×List Value)):vT R:=NV Tryz.prog (uA gl) 8 Aa6
noncomputable def Aa9:An:= .loop [2,4,5,7,9] [⟨9,[], .own 27 (.list (.int .u8))⟩] .d
noncomputable def Ark:An:= .seq .d (.seq .d (.seq .d (.seq .d (.seq .d (.seq (.seq .d (.blk Aa9)) .d)))))
noncomputable def Bbh:Code:=fB Tryz.f39
noncomputable def Aqh:Code:=cB (cB (cB (cB (cB Bbh))))
noncomputable def Aq5:Code:=cA (cB (cA Aqh))
noncomputable def Atb:Code:=cB Aqh
def rfA:Code->Code| .rangeFunc _ _ a _=>a|c=>c
def rfB:Code->Code| .rangeFunc _ _ _ b=>b|c=>c
noncomputable def Ajp:K (GH (Wp QU)):={n:=pL Tryz.prog QU Tryz.f39.results.toList,x:=λ_ _=>none,r:=pL Tryz.prog QU Tryz.f39.results.toList}
noncomputable def Aqr(gl:List (Nat×List Value))(s:S):Option (GH (Wp QU)):=ex Tryz.prog (uA gl) (Aq0 gl) 45 Atb .d Ajp s
noncomputable def Ara(gl:List (Nat×List Value)):K (GH (Wp QU)):=⟨Aqr gl,λid s=>Dj (Nat.beq id 0) (Aqr gl s)<|Ajp.x id s,Ajp.r⟩
noncomputable def tT(gl:List (Nat×List Value)):List LX->S->Option (GH (Wp QU)):=rnd Aa9 (nX Tryz.prog (uA gl) (Aq0 gl) 45 28 (rfA Aq5) (rfB Aq5) Aa9 (Ara gl) (.list (.int .i32))) (Ara gl).n
def sX(a f h:Int)(b t:LX)(o:List LB):S:=⟨[(2, .ptr 0 []),(4, .ptr 1 []),(5, .ptr 2 []),(7, .ptr 3 []),(9, .ptr 4 [])],
  [.box 24 (.agg [vi a,vi f,vi h,vw b]), .box 79 .nils, .box 28 (vi 0), .box 136 (.val (.vec 16 (.int .i32)) t), .box 79 (.own 5), .arr 27 (.list (.int .u8)) o],[]⟩
theorem Ba0(gl:List (Nat×List Value))(a f h:Int)(b t:LX)(o:List LB):tT gl [] (sX a f h b t o)=some (o,(0:Int)):=by kernel_rfl
theorem Ba8(gl:List (Nat×List Value))(a f h:Int)(b t:LX)(o:List LB)(x:LX)(xs:List LX):tT gl (x::xs) (sX a f h b t o)=
    Option.bind (Ui a f t x) λy=>if(Bi y.2 0)=true then some ([],y.2)else Option.bind (Dy o [y.1]) λo'=>tT gl xs (sX a f h b t o'):=by kernel_rfl
theorem Aq8(gl:List (Nat×List Value))(a f h:Int)(b t:LX):∀(xs:List LX) (o:List LB),tT gl xs (sX a f h b t o)=Sy a f t xs o
  |[],o=>Ba0 gl a f h b t o
  |x::xs,o=>by
    rw[Ba8,Sy];simp only[Aq8 gl a f h b t xs];rfl
theorem Azm(gl:List (Nat×List Value))(x:GH (Wp Ac1)):Bc2 Tryz.prog (uA gl) Aa6 Ani Tryz.f39 Ark Ac1 QU x=PQ x.1 x.2.1 x.2.2.1 x.2.2.2.1 x.2.2.2.2:=by
  refine Eq.trans (b:=Option.bind (Ex x.1 x.2.1 x.2.2.1 x.2.2.2.1) λe=>if(Bi e 0)=true then some ([],e)else Option.bind (Uf x.2.2.2.2) λt=>if(Bi t.2 0)=true then some ([],t.2)
    else Option.bind (WY x.1 x.2.2.1 x.2.2.2.1) λxs=>tT gl xs (sX x.1 x.2.1 x.2.2.1 x.2.2.2.1 t.1 [])) (by kernel_rfl) ?_
  simp only[Aq8];rfl
noncomputable def aT:Con:=⟨Ac1,QU,λx=>PQ x.1 x.2.1 x.2.2.1 x.2.2.2.1 x.2.2.2.2⟩
theorem Abg{gl:List (Nat×List Value)}(hCk:ConOk Tryz.prog gl 84 Amk)(hTp:ConOk Tryz.prog gl 85 Anf)(hAl:ConOk Tryz.prog gl 101 Acd)(hEn:ConOk Tryz.prog gl 87 Alb)(hSh:ConOk Tryz.prog gl 88 Amf):
    ConOk Tryz.prog gl 39 aT:=by
  have hE:∀{f:Nat} {fn:Func},Tryz.prog.funcs[f]? =some fn→(!(fn.name== "runtime.NumGoroutine")&&fn.body.isSome)=true→Ent Tryz.prog f:=by
    intro f fn hf hb;simp only[Bool.and_eq_true,Bool.not_eq_true']at hb;obtain⟨c,hc⟩:=Option.isSome_iff_exists.1 hb.2;exact Ent.mk hf hb.1 hc
  refine Ak9 (T:=uA gl) (its:=Ani) (ans:=Aa6) (an:=Ark) (by kernel_rfl) Tryz.func39 (hE Tryz.func39 (by kernel_rfl)) (.cons hCk (.cons hTp (.cons hEn (.cons hSh .nil)))) (Ft.cons (hE Tryz.func86 (by kernel_rfl)) Ft.nil) ?_ (by kernel_rfl) (Azm gl);intro p hp;rcases List.mem_cons.1 hp with rfl|hp
  · exact Ato hAl (hE Tryz.func124 (by kernel_rfl))
  · cases hp
theorem Aff{W W':World}(h:KeepN (λ_=>True) W W'):W.grownBy W' none:=⟨h.gr.os,h.gr.tape,h.gr.output,h.gr.le,λk hk _=>h.same k hk trivial⟩
theorem Azo{F:Fence}{n:Nat}{P:Program}{Q:Exit->Act->World->Prop}{a:Act}{w:World}{c:Code}(m:Nat)(I:Nat->Act->World->Prop)(h0:∀a w,¬I 0 a w)
    (hs:∀q a w,I (q+1) a w->c.wpIn F n P (Exit.then (I q) Q) a w) (h:I m a w):(Code.loop c).wpIn F n P Q a w:=by
  refine wpIn_loop_rounds m ?_
  induction m generalizing a w with
  |zero=>exact absurd h (h0 a w)
  |succ m ih=>
    rw[roundsIn_succ];refine wpIn_mono (hs m a w h) λe a' w' hh=>?_;cases e<;>first|exact ih hh|exact hh
theorem Bij{α:Type}{c:Prop} [Decidable c]{a b y:α}(h:(if c then a else b)=y)(hc:¬c):b=y:=by rw[if_neg hc]at h;exact h
theorem Bcf{A:Reg}{w:World}{v:Value}{k:Kd}{l y:List k.T}{a:Int}(h:Be A w (.list (.int k)) l [v])(hc:Bk l a (Ac l)=some y):
    ∃(p:Option Addr) (len cap m:Nat),v= .slice p len cap/\a=(m:Int)/\m<=len/\len<=cap/\Be A w (.list (.int k)) y [.slice (if cap=m then p else p.map (·.add m)) (len-m) (cap-m)]:=by
  obtain⟨v1,c0,e1,h1,h2⟩:=h;cases e1;obtain⟨p,len,cap,rfl,g1,g2,g3,g4⟩:=h1;obtain⟨k1,k2,k3,k4,rfl⟩:=UH hc;simp only[ET.size,Nat.mul_one]at g1 g4;have hll:=h2.len (z:=1) λx c h=>by rw[show c=_ from h];rfl
  have hln:l.length=len:=by omega
  have hto:(Ac l).toNat=len:=by simp[Ac,hln]
  rw[hto]at k3⊢;refine⟨p,len,cap,a.toNat,rfl,k1,k3,g2,_,c0.drop a.toNat,rfl,⟨_,_,_,rfl,?_,by omega,λhp=>?_,λhcap=>?_⟩,?_⟩
  · simp only[ET.size,List.length_drop];omega
  · split at hp
    · omega
    · rename_i hne
      cases p with
      |none=>have:=g3 rfl;omega
      |some a=>cases hp
  · rw[if_neg (by omega)]
    obtain⟨b,off,arr,T,fr,rfl,e2,e3,e4,e5⟩:=g4 (by omega);refine⟨b,off+a.toNat,arr,T,fr,by simp[Addr.add],e2,e3,by simp only[ET.size];omega,λi hi=>?_⟩;simp only[ET.size]at hi;rw[List.getElem?_drop,<-e5 (a.toNat+i) (by omega),Nat.add_assoc]
  · have:=Cq.drop (z:=1) (λx c h=>by rw[show c=_ from h];rfl) a.toNat h2
    rw[Nat.mul_one]at this;rw[List.take_of_length_le (by omega)];exact this
theorem Bie{P:Program}{f:Nat}{gl:List (Nat×List Value)}{F:List UInt8->Option (Int×Int)}(hC:ConOk P gl f ⟨[.lf (.list (.int .u8)) none],[.lf (.int .i64) none, .lf (.int .i64) none],F⟩){A:Reg}{W:World}{v:Value}{s:List UInt8}{r:Int×Int}
    (hv:Be A W (.list (.int .u8)) s [v]) (hgl:GlOk gl A W) (h:F s=some r):Calls P f #[v] W λe W'=>e= .returned (.tuple #[.int .i64 r.1, .int .i64 r.2])/\KeepN (λ_=>True) W W':=by
  have hv':Be (λ_=>True/\True) W (.list (.int .u8)) s [v]:=Be.step (λ_ _=>⟨trivial,trivial⟩) (λ_ _=>rfl) hv;refine(hC.ok (λ_=>True) (λ_=>True) W [] [v] [.val (.list (.int .u8)) s] s r rfl rfl (λi a m _ h=>by simp at h) trivial ⟨v,[],rfl,hv',rfl⟩ (λp hp=>⟨(hgl p hp).1,trivial,(hgl p hp).2.2⟩) h).mono ?_;rintro e w' ⟨us,rfl,hk,A1,L1,g1,g2,g3⟩;obtain⟨ps,its,k1,k2,k3,k4,k5⟩:=g3 ⟨[],[],[]⟩ [] (λ_=>True) rfl (λ_ _=>trivial) (λ_ _ _=>trivial);refine⟨?_,hk⟩;obtain rfl:=Option.some.inj (show some [PV.val (.int .i64) r.1,PV.val (.int .i64) r.2]=some ps from k2);obtain⟨_,_,rfl,e1,_,_,rfl,e2,rfl⟩:=k3;cases(show [_]=[Value.int .i64 r.1]from e1);cases(show [_]=[Value.int .i64 r.2]from e2);rfl
structure KpF (n₀ Bx:Nat) (A B:World):Prop where
  le:A.heap.size<=B.heap.size
  box:B.heap[Bx]? =A.heap[Bx]?
  old:∀k,k<n₀->B.heap[k]? =A.heap[k]?
def smT(l:List (Int×Int)):Int:=l.foldl (λs x=>Ad s x.1) 0
def fin(y:Int×Int)(xs:List (Int×Int)):Prop:=(∃x∈xs,x.2≠0)\/y=(smT xs,0)
def Av6(y:Int×Int)(pre:List (Int×Int)):Prop:=∃p x,pre=p++[x]/\ (x.2≠0->y=(0,x.2))
theorem Tryz.Bit:Tryz.f132.ntmps=35:=by kernel_rfl
theorem Tryz.u25:Tryz.prog.underlying 27=some (.slice 5):=by kernel_rfl
theorem Tryz.sz5:Kw Tryz.prog 5 1:=Kw.mk (by kernel_rfl)
set_option maxHeartbeats 2000000 in
set_option maxRecDepth 100000 in
theorem Bc9(n:Nat)(l Bx n₀:Nat)(v:Value)(b:List UInt8)(y:Int×Int)(J Jx:List (Int×Int)->World->Prop)(gl:List (Nat×List Value))
    (hC:ConOk Tryz.prog gl 133 ⟨[.lf (.list (.int .u8)) none],[.lf (.int .i64) none, .lf (.int .i64) none],AG⟩)
    (hY:∀pre x W,J pre W->pre.length<Ay->YieldAt Fence.wide (n-1) Tryz.prog l #[.int .i64 x.1, .int .i64 x.2] W λe W'=>
      (e= .returned (.bool true)/\J (pre++[x]) W'/\KpF n₀ Bx W W')\/ (e= .returned (.bool false)/\Jx (pre++[x]) W'))
    (W0:World) (hJ:AbidesFrom W0.heap.size J) (Aqc:W0.heap[Bx]? =some (.cells #[v] 27 (0,0))) (hn:n₀<=W0.heap.size) (hv:Be (λk=>k<n₀) W0 (.list (.int .u8)) b [v]) (hgl:GlOk gl (λk=>k<n₀) W0)
    (h0:J [] W0) (hy:Jm b=some y):
    CallsIn Fence.wide n Tryz.prog 132 #[.func (.yield l) #[] #[], .pointer (some ⟨Bx,0,none⟩)] W0 λe W'=>(∃v,e= .returned v)/\ ((∃ys,fin y ys/\J ys W')\/ (∃pre,Av6 y pre/\Jx pre W')):=by
  refine callsIn_of_wp Tryz.func132 rfl trivial ?_ rfl;simp only[Tryz.Bit,List.size_toArray,List.length_cons,List.length_nil,Nat.reduceAdd,Nat.reduceSub,Array.replicate_succ,Array.replicate_zero,List.push_toArray,List.append_toArray,List.nil_append,List.cons_append]
  gi_wp2
  refine Azo Ay (λq a W=>∃(pre:List (Int×Int)) (x:Int) (v2 v4 v5 v6 v7 v8 v9 v10 v11 v12 v13 v14 v15 v16 v17 v18 v19 v20 v21 v22 v23 v24 v25 v26 v27 v28 v29 v30 v31 v32 v33 v34:Value),a={tmps:= #[.func (.yield l) #[] #[], .pointer (some ⟨Bx,0,none⟩),v2, .int .i64 x,v4,v5,v6,v7,v8,v9,v10,v11,v12,v13,v14,v15,v16,v17,v18,v19,v20,v21,v22,v23,v24,v25,v26,v27,v28,v29,v30,v31,v32,v33,v34],defers:=[]}/\Xf b q x=some y/\smT pre=x/\pre.length+q=Ay/\J pre W/\KpF n₀ Bx W0 W/\W0.heap.size<=W.heap.size) ?_ ?_ ?_
  · rintro a W ⟨pre,x,v2,v4,v5,v6,v7,v8,v9,v10,v11,v12,v13,v14,v15,v16,v17,v18,v19,v20,v21,v22,v23,v24,v25,v26,v27,v28,v29,v30,v31,v32,v33,v34,_,h,_⟩
    cases h
  · rintro q a W ⟨pre,x,v2,v4,v5,v6,v7,v8,v9,v10,v11,v12,v13,v14,v15,v16,v17,v18,v19,v20,v21,v22,v23,v24,v25,v26,v27,v28,v29,v30,v31,v32,v33,v34,rfl,h,hx,hl,hJ1,hk,hs⟩
    simp only[Xf]at h;obtain⟨s,hcut,h⟩:=Go.Lv.bind_some h;obtain⟨r,hsz,h⟩:=Go.Lv.bind_some h;have hvW:Be (λk=>k<n₀) W (.list (.int .u8)) b [v]:=Be.step (λ_ h=>h) (λk hk'=>hk.old k hk') hv;obtain⟨p,len,cap,m,rfl,rfl,hm,hlc,hsv⟩:=Bcf (k:= .u8) hvW hcut;have hc:W.cell? ⟨Bx,0,none⟩=some (.slice p len cap):=by
      have:=hk.box;simp only[World.cell?,this,Aqc];rfl
    have hu:=Tryz.u25;have hz:=Tryz.sz5;obtain⟨k,e⟩:=r;have e1:geq e 6=(e==6):=rfl;have e2:geq e 0=(e==0):=rfl;have e3:Ad (m:Int) k=RowKit.wrap64 (m+k):=by
      simp only[Ad,GI.ofZ,GI.toZ,Go.Lv.wrap64,RowKit.wrap64];exact IntKind.wrap_i64 _
    have e4:Ez (RowKit.wrap64 (m+k)) 4000=decide (4000<RowKit.wrap64 (m+k)):=rfl;have e5:Bi e 0=(e !=0):=rfl;rw[e1,e2,e3,e4,e5]at h;have hp:=h;have hgW:GlOk gl (λk=>k<n₀) W:=λp hp=>⟨Nat.lt_of_lt_of_le (hgl p hp).1 hs,(hgl p hp).2.1,by rw[hk.old _ (hgl p hp).2.1];exact(hgl p hp).2.2⟩;have hcall:∀v',Be (λk=>k<n₀) W (.list (.int .u8)) s [v']->CallsIn Fence.wide (n-1) Tryz.prog 133 #[v'] W λe0 W'=>e0= .returned (.tuple #[.int .i64 k, .int .i64 e])/\KeepN (λ_=>True) W W':=
      λv' hv'=>callsIn_wide.2 (Bie hC hv' hgW hsz)
    have hsm:∀z:Int,smT (pre++[(k,z)])=RowKit.wrap64 (m+k):=λz=>by rw[<-e3,<-hx];simp[smT]
    have hlt:Bx<W.heap.size:=Nat.lt_of_lt_of_le (Array.getElem?_eq_some_iff.1 Aqc).1 hs
    gi_wp2
    all_goals
      refine⟨trivial,(λh=>nomatch h),(hcall _ (by first|(rw[if_neg (by assumption)]at hsv;exact hsv)|(simpa [*]using hsv))).mono ?_⟩;rintro e0 W1 ⟨rfl,hk1⟩;have hJ2:=hJ pre W W1 none hJ1 (Aff hk1) (λr e=>by cases e);have hyl:∀e',YieldAt Fence.wide (n-1) Tryz.prog l #[Value.int IntKind.i64 k,Value.int IntKind.i64 e'] W1 _:=λe'=>hY pre (k,e') W1 hJ2 (by omega)
      gi_wp2
      · rename_i h6
        rw[if_pos h6]at hp;refine bodyPost_ret (results_none rfl _ _ _) rfl ?_;exact⟨⟨_,rfl⟩, .inl ⟨pre, .inr (by rw[hx];cases hp;rfl),hJ2⟩⟩
      · obtain⟨fn,tmps,assign,body,hy1,hR⟩:=hyl 4
        rw[hy1]
        gi_wp2
        refine⟨(λh=>nomatch h),hR.mono ?_⟩;rintro e3 W3 (⟨rfl,hJ3,hk3⟩|⟨rfl,hJx3⟩)
        · gi_wp2
          refine bodyPost_ret (results_none rfl _ _ _) rfl ?_;exact⟨⟨_,rfl⟩, .inl ⟨pre++[(k,4)], .inl ⟨(k,4),by simp,by simp⟩,hJ3⟩⟩
        · gi_wp2
          refine bodyPost_ret (results_none rfl _ _ _) rfl ?_;refine⟨⟨_,rfl⟩, .inr ⟨pre++[(k,4)],⟨pre,(k,4),rfl,λhne=>?_⟩,hJx3⟩⟩;simp at hne
          all_goals simp_all
      · obtain⟨fn,tmps,assign,body,hy1,hR⟩:=hyl 0
        rw[hy1]
        gi_wp2
        refine⟨(λh=>nomatch h),hR.mono ?_⟩;rintro e3 W3 (⟨rfl,hJ3,hk3⟩|⟨rfl,hJx3⟩)
        · gi_wp2
          refine⟨pre++[(k,0)],_,_,_,_,_,_,_,_,_,_,_,_,_,_,_,_,_,_,_,_,_,_,_,_,_,_,_,_,_,_,_,_,_,rfl,?_,‹∀z:Int,smT (pre++[(k,z)])=RowKit.wrap64 ((m:Int)+k)› 0,by simp;omega,hJ3,⟨?_,?_,?_⟩,?_⟩
          · simp_all
            exact Bij (by assumption) (by omega)
          · exact Nat.le_trans hk.le (Nat.le_trans hk1.gr.le hk3.le)
          · exact hk3.box.trans ((hk1.same _ ‹Bx<W.heap.size› trivial).trans hk.box)
          · exact λj hj=>(hk3.old j hj).trans ((hk1.same j (Nat.lt_of_lt_of_le hj (Nat.le_trans hn hs)) trivial).trans (hk.old j hj))
          · exact Nat.le_trans hs (Nat.le_trans hk1.gr.le hk3.le)
        · gi_wp2
          refine bodyPost_ret (results_none rfl _ _ _) rfl ?_;exact⟨⟨_,rfl⟩, .inr ⟨pre++[(k,0)],⟨pre,(k,0),rfl,λhne=>absurd rfl hne⟩,hJx3⟩⟩
      · obtain⟨fn,tmps,assign,body,hy1,hR⟩:=hyl e
        rw[hy1]
        gi_wp2
        refine⟨(λh=>nomatch h),hR.mono ?_⟩;rintro e3 W3 (⟨rfl,hJ3,hk3⟩|⟨rfl,hJx3⟩)
        · gi_wp2
          rename_i hne;refine bodyPost_ret (results_none rfl _ _ _) rfl ?_;exact⟨⟨_,rfl⟩, .inl ⟨pre++[(k,e)], .inl ⟨(k,e),by simp,by simpa using hne⟩,hJ3⟩⟩
        · gi_wp2
          refine bodyPost_ret (results_none rfl _ _ _) rfl ?_;refine⟨⟨_,rfl⟩, .inr ⟨pre++[(k,e)],⟨pre,(k,e),rfl,λhne=>?_⟩,hJx3⟩⟩;simp at hne
          all_goals simp_all
  · exact⟨[],0,_,_,_,_,_,_,_,_,_,_,_,_,_,_,_,_,_,_,_,_,_,_,_,_,_,_,_,_,_,_,_,_,rfl,hy,rfl,by simp,h0,⟨Nat.le_refl _,rfl,λ_ _=>rfl⟩,Nat.le_refl _⟩
theorem Bfb(n Bx n₀:Nat)(v:Value)(b:List UInt8)(y:Int×Int)(gl:List (Nat×List Value))
    (hC:ConOk Tryz.prog gl 133 ⟨[.lf (.list (.int .u8)) none],[.lf (.int .i64) none, .lf (.int .i64) none],AG⟩)
    (w:World) (Aqc:w.heap[Bx]? =some (.cells #[v] 27 (0,0))) (hn:n₀<=w.heap.size) (hv:Be (λk=>k<n₀) w (.list (.int .u8)) b [v]) (hgl:GlOk gl (λk=>k<n₀) w) (hy:Jm b=some y):
    SeqStopsK Fence.wide n Tryz.prog 132 #[.pointer (some ⟨Bx,0,none⟩)] (λx:Int×Int=> #[.int .i64 x.1, .int .i64 x.2]) (KpF n₀ Bx) (fin y) (Av6 y) Ay w:=by
  intro l J Jx W hW hJ hJx hY h0;have hlt:=(Array.getElem?_eq_some_iff.1 Aqc).1;have hb:∀k,k<n₀->W.heap[k]? =w.heap[k]? :=λk hk=>hW.block k (Nat.lt_of_lt_of_le hk hn);exact Bc9 n l Bx n₀ v b y J Jx gl hC hY W hJ ((hW.block Bx hlt).trans Aqc) (Nat.le_trans hn hW.size) (Be.step (λ_ h=>h) hb hv)
    (λp hp=>⟨Nat.lt_of_lt_of_le (hgl p hp).1 hW.size,(hgl p hp).2.1,by rw[hb _ (hgl p hp).2.1];exact(hgl p hp).2.2⟩) h0 hy
theorem lE{w W:World}{a:Addr}{v:Value}(h:KeepN (λ_=>True) w W)(ha:w.heap.size<=a.block):KeepN (λ_=>True) w (W.setCell a v):=by
  have hb:=(Below.refl w.heap.size W).setCell (p:=a) ha v;exact⟨λb hb' _=>(hb.block b hb').trans (h.same b hb' trivial),h.gr.trans ⟨hb.size,hb.os,hb.tape,hb.output⟩⟩
theorem heap_set{W:World}{a:Addr}{v:Value}{k:Nat}(h:k≠a.block):(W.setCell a v).heap[k]? =W.heap[k]? :=
  ((Below.refl (k+1) {W with heap:=W.heap}).block k (by omega)▸(by
    show(W.heap.modify a.block _)[k]? =W.heap[k]?;rw[Array.getElem?_modify,if_neg (Ne.symm h)]))
theorem Aon{W:World}{B:Nat}{v:Value}{t:TypeId}(h:W.heap[B]? =some (.cells #[v] t (0,0))):W.cell? ⟨B,0,none⟩=some v/\W.frozen? ⟨B,0,none⟩=false:=by
  constructor<;>simp[World.cell?,World.frozen?,h]
theorem rZ(W:World)(v:Value)(t:TypeId):(W.alloc (.cells #[v] t)).cell? ⟨W.heap.size,0,none⟩=some v/\ (W.alloc (.cells #[v] t)).frozen? ⟨W.heap.size,0,none⟩=false:=Aon (World.alloc_heap_new W _)
theorem Mt{W:World}{a:Addr}{v:Value}(o:Obj)(h:W.cell? a=some v):(W.alloc o).cell? a=some v:=cell_kept h (World.grownBy_alloc W o none) (λr e=>by cases e)
theorem Uz{W:World}{a:Addr}{v:Value}(o:Obj)(h:W.cell? a=some v)(hf:W.frozen? a=false):(W.alloc o).frozen? a=false:=(frozen_kept h (World.grownBy_alloc W o none) (λr e=>by cases e)).trans hf
theorem Tryz.Bjq:Tryz.f95.ntmps=4:=by kernel_rfl
theorem Tryz.Bj5:Tryz.f46.ntmps=18:=by kernel_rfl
set_option maxHeartbeats 1000000 in
set_option maxRecDepth 100000 in
theorem Bdm(n:Nat)(p:Option Addr)(len cap:Nat)(w:World):
    CallsIn Fence.wide n Tryz.prog 95 #[.slice p len cap] w λe w'=>e= .returned (.func (.func 132) #[] #[.pointer (some ⟨w.heap.size,0,none⟩)])/\w'=w.alloc (.cells #[.slice p len cap] 27):=by
  refine callsIn_of_wp Tryz.func95 rfl trivial ?_ rfl;simp only[Tryz.Bjq,List.size_toArray,List.length_cons,List.length_nil,Nat.reduceAdd,Nat.reduceSub,Array.replicate_succ,Array.replicate_zero,List.push_toArray,List.append_toArray,List.nil_append,List.cons_append]
  gi_wp2
  go_ret
  exact⟨rfl,rfl⟩
set_option maxHeartbeats 1000000 in
set_option maxRecDepth 100000 in
theorem Axh(n:Nat)(h1:3<=n)(p:Option Addr)(len cap:Nat)(b:List UInt8)(y:Int×Int)(gl:List (Nat×List Value))
    (hC:ConOk Tryz.prog gl 133 ⟨[.lf (.list (.int .u8)) none],[.lf (.int .i64) none, .lf (.int .i64) none],AG⟩)
    (w:World) (hv:Be (λk=>k<w.heap.size) w (.list (.int .u8)) b [.slice p len cap]) (hgl:GlOk gl (λk=>k<w.heap.size) w) (hy:Jm b=some y):
    CallsIn Fence.wide n Tryz.prog 46 #[.slice p len cap] w λe w'=>e= .returned (.tuple #[.int .i64 y.1, .int .i64 y.2])/\KeepN (λ_=>True) w w':=by
  refine callsIn_of_wp_marks Tryz.func46 rfl trivial ?_ rfl;simp only[Tryz.Bj5,List.size_toArray,List.length_cons,List.length_nil,Nat.reduceAdd,Nat.reduceSub,Array.replicate_succ,Array.replicate_zero,List.push_toArray,List.append_toArray,List.nil_append,List.cons_append]
  gi_wp2
  refine⟨trivial,(λh=>nomatch h),(Bdm (n-1) _ _ _ _).mono ?_⟩;rintro e w' ⟨rfl,rfl⟩
  gi_wp2
  refine wpIn_rangeFunc_ownG (Kp:=KpF w.heap.size (w.heap.size+1+1+1)) rfl (by omega) (gf:=132) (lb:= #[.pointer (some ⟨w.heap.size+1+1+1,0,none⟩)]) rfl trivial (enters_of Tryz.func132 (by kernel_rfl) rfl)
    (Bfb (n-1) (w.heap.size+1+1+1) w.heap.size (.slice p len cap) b y gl hC _ ?Aqc ?hn ?hv ?hgl hy)
    (λh k=>⟨Nat.le_trans h.le k.le,k.box.trans h.box,λj hj=>(k.old j hj).trans (h.old j hj)⟩) ?hKb (Below.refl _ _) (λ_=>rfl)
    (λpre W=>(∀x∈pre,x.2=0)/\ (W.cell? ⟨w.heap.size+1+1,0,none⟩=some (.int .i64 (smT pre))/\W.frozen? ⟨w.heap.size+1+1,0,none⟩=false)/\
      (∃v,W.cell? ⟨w.heap.size,0,none⟩=some v/\W.frozen? ⟨w.heap.size,0,none⟩=false)/\ (∃v,W.cell? ⟨w.heap.size+1,0,none⟩=some v/\W.frozen? ⟨w.heap.size+1,0,none⟩=false)/\KeepN (λ_=>True) w W)
    (λc pre W=>c= .ret/\ (∃Bd6 x,pre=Bd6++[x]/\x.2≠0/\W.cell? ⟨w.heap.size,0,none⟩=some (.int .i64 0)/\W.cell? ⟨w.heap.size+1,0,none⟩=some (.int .i64 x.2))/\KeepN (λ_=>True) w W)
    ?hI ?hIx ?h0
    (λx=>{tmps:= #[.slice p len cap,undef, .pointer (some ⟨w.heap.size,0,none⟩), .pointer (some ⟨w.heap.size+1,0,none⟩), .pointer (some ⟨w.heap.size+1+1,0,none⟩), .int .i64 x.1, .int .i64 x.2, .slice p len cap, .func (.func 132) #[] #[.pointer (some ⟨w.heap.size+1+1+1,0,none⟩)], .int .i64 x.1, .int .i64 x.2,undef,undef,undef,undef,undef,undef,undef],defers:=[]}) ?assign ?body ?done ?stop
  case assign=>
    intro l x W K hK
    gi_wp2
    exact hK
  case body=>
    rintro l pre x W ⟨hz,⟨hc,hf⟩,⟨v2,hc2,hf2⟩,⟨v3,hc3,hf3⟩,hk⟩ _
    gi_wp2
    · rename_i hx
      refine⟨(KeepsOthers.trans (KeepsOthers.setCell _ _ _) (KeepsOthers.setCell _ _ _)).from _,rfl,⟨pre,x,rfl,by simpa using hx,?_,?_⟩,lE (lE hk (Nat.le_refl _)) (Nat.le_succ _)⟩
      · refine(World.cell?_setCell_other _ _ _ _ (by simp)).trans ?_
        exact World.cell?_setCell_same' _ _ _ (by rw[hc2];rfl)
      · refine World.cell?_setCell_same' _ _ _ ?_
        rw[World.cell?_setCell_other W ⟨w.heap.size,0,none⟩ ⟨w.heap.size+1,0,none⟩ _ (by simp),hc3];rfl
    · rename_i hx
      have hx0:x.2=0:=by simpa using hx
      refine⟨(KeepsOthers.setCell _ _ _).from _,⟨((Below.refl 0 W).setCell (p:=⟨w.heap.size+1+1,0,none⟩) (Nat.zero_le _) _).size,heap_set (by simp),λk hk'=>heap_set (by simp;omega)⟩,?_,⟨?_,by rw[World.frozen?_setCell];exact hf⟩,⟨v2,?_,by rw[World.frozen?_setCell];exact hf2⟩,⟨v3,?_,by rw[World.frozen?_setCell];exact hf3⟩,lE hk (by simp;omega)⟩
      · intro z hz'
        rcases List.mem_append.1 hz' with h|h
        · exact hz z h
        · simp at h;subst h;exact hx0
      · have e:smT (pre++[x])=RowKit.wrap64 (smT pre+x.1):=by
          simp only[smT,List.foldl_append,List.foldl_cons,List.foldl_nil,Ad,GI.ofZ,GI.toZ,Go.Lv.wrap64,RowKit.wrap64];exact IntKind.wrap_i64 _
        rw[e];exact World.cell?_setCell_same' _ _ _ (by rw[hc];rfl)
      · exact(World.cell?_setCell_other _ _ _ _ (by simp;try omega)).trans hc2
      · exact(World.cell?_setCell_other _ _ _ _ (by simp)).trans hc3
  case done=>
    rintro D xs W hD hS ⟨hz,⟨hc,hf⟩,⟨v2,hc2,hf2⟩,⟨v3,hc3,hf3⟩,hk⟩ hK
    gi_wp2
    have hy':y=(smT xs,0):=hS.elim (λ⟨x,hx,hne⟩=>absurd (hz x hx) hne) id;have hlen:w.heap.size+4<=D:=by simp only[World.size_alloc]at hD;omega
    have hK':=((KeepsOthers.setCell W ⟨w.heap.size,0,none⟩ (.int .i64 (smT xs))).trans (KeepsOthers.setCell _ ⟨w.heap.size+1,0,none⟩ (.int .i64 0))).same D _ hK rfl;have hk2:=lE (v:= .int .i64 0) (a:=⟨w.heap.size+1,0,none⟩) (lE (v:= .int .i64 (smT xs)) (a:=⟨w.heap.size,0,none⟩) hk (Nat.le_refl _)) (Nat.le_succ _);have d0:((W.setCell ⟨w.heap.size,0,none⟩ (.int .i64 (smT xs))).setCell ⟨w.heap.size+1,0,none⟩ (.int .i64 0)).cell? ⟨w.heap.size,0,none⟩=some (.int .i64 (smT xs)):=
      (World.cell?_setCell_other _ _ _ _ (by simp)).trans (World.cell?_setCell_same' _ _ _ (by rw[hc2];rfl))
    have d1:((W.setCell ⟨w.heap.size,0,none⟩ (.int .i64 (smT xs))).setCell ⟨w.heap.size+1,0,none⟩ (.int .i64 0)).cell? ⟨w.heap.size+1,0,none⟩=some (.int .i64 0):=
      World.cell?_setCell_same' _ _ _ (by rw[World.cell?_setCell_other W ⟨w.heap.size,0,none⟩ ⟨w.heap.size+1,0,none⟩ _ (by simp),hc3];rfl)
    refine⟨by simp, .inl ⟨_,_,rfl,run_takeDeferred hK',?_⟩⟩;have hg:=grownBy_putObj' ((W.setCell ⟨w.heap.size,0,none⟩ (.int .i64 (smT xs))).setCell ⟨w.heap.size+1,0,none⟩ (.int .i64 0)) D (.deferred none);have hr':∀r,some D=some r->∃o:Obj,((W.setCell ⟨w.heap.size,0,none⟩ (.int .i64 (smT xs))).setCell ⟨w.heap.size+1,0,none⟩ (.int .i64 0)).heap[r]? =some o/\o.isCells=false:=λr e=>by cases e;exact⟨_,hK',rfl⟩
    have hc5:=cell_kept d0 hg hr';have hc6:=cell_kept d1 hg hr';refine⟨.tuple #[.int .i64 (smT xs), .int .i64 0],?_,by rw[hy'],?_⟩
    · simp[results,Tryz.f46,go_sem,hc5,hc6]
    · refine⟨λb hb _=>(hg.block b (Nat.lt_of_lt_of_le hb hk2.gr.le) (λe=>?_)).trans (hk2.same b hb trivial),hk2.gr.trans ⟨hg.size,hg.os,hg.tape,hg.output⟩⟩
      cases e;omega
  case stop=>
    rintro D c pre W hD hS ⟨rfl,⟨Bd6,x,rfl,hx,hc2,hc3⟩,hk⟩ hK
    gi_wp2
    obtain⟨p1,x1,he,hy1⟩:=hS;have hy':y=(0,x.2):=by
      have:=List.append_inj' he rfl;cases this.2;exact hy1 hx
    have hlen:w.heap.size+4<=D:=by simp only[World.size_alloc]at hD;omega
    refine⟨by simp, .inl ⟨_,_,rfl,run_takeDeferred hK,?_⟩⟩;have hg:=grownBy_putObj' W D (.deferred none);have hr':∀r,some D=some r->∃o:Obj,W.heap[r]? =some o/\o.isCells=false:=λr e=>by cases e;exact⟨_,hK,rfl⟩
    have hc5:=cell_kept hc2 hg hr';have hc6:=cell_kept hc3 hg hr';refine⟨.tuple #[.int .i64 0, .int .i64 x.2],?_,by rw[hy'],?_⟩
    · simp[results,Tryz.f46,go_sem,hc5,hc6]
    · refine⟨λb hb _=>(hg.block b (Nat.lt_of_lt_of_le hb hk.gr.le) (λe=>?_)).trans (hk.same b hb trivial),hk.gr.trans ⟨hg.size,hg.os,hg.tape,hg.output⟩⟩
      cases e;omega
  case Aqc=>
    have h:=World.alloc_heap_new (((w.alloc (.cells #[.int .i64 0] 3)).alloc (.cells #[.int .i64 0] 28)).alloc (.cells #[.int .i64 0] 3)) (.cells #[.slice p len cap] 27);simp only[World.size_alloc]at h;exact h
  case hn=>simp;omega
  case hI=>
    rintro s A B row ⟨hz,⟨hc,hf⟩,⟨v2,hc2,hf2⟩,⟨v3,hc3,hf3⟩,hk⟩ hg hr;have hr':∀r,row=some r->∃o:Obj,A.heap[r]? =some o/\o.isCells=false:=λr e=>(hr r e).2;refine⟨hz,⟨cell_kept hc hg hr',(frozen_kept hc hg hr').trans hf⟩,⟨v2,cell_kept hc2 hg hr',(frozen_kept hc2 hg hr').trans hf2⟩,⟨v3,cell_kept hc3 hg hr',(frozen_kept hc3 hg hr').trans hf3⟩,?_⟩;refine⟨λb hb _=>(hg.block b (Nat.lt_of_lt_of_le hb hk.gr.le) (λe=>?_)).trans (hk.same b hb trivial),hk.gr.trans ⟨hg.size,hg.os,hg.tape,hg.output⟩⟩;have:=(hr b e.symm).1;simp at this;omega
  case hIx=>
    rintro c s A B row ⟨hc,⟨Bd6,x,hs,hx,hc2,hc3⟩,hk⟩ hg hr;have hr':∀r,row=some r->∃o:Obj,A.heap[r]? =some o/\o.isCells=false:=λr e=>(hr r e).2;refine⟨hc,⟨Bd6,x,hs,hx,cell_kept hc2 hg hr',cell_kept hc3 hg hr'⟩,?_⟩;refine⟨λb hb _=>(hg.block b (Nat.lt_of_lt_of_le hb hk.gr.le) (λe=>?_)).trans (hk.same b hb trivial),hk.gr.trans ⟨hg.size,hg.os,hg.tape,hg.output⟩⟩;have:=(hr b e.symm).1;simp at this;omega
  case hKb=>
    intro W l o o' hl h _ _;have hlt:=(Array.getElem?_eq_some_iff.1 h).1;simp at hl;have hg:=grownBy_putObj' W l o';exact⟨hg.size,hg.block _ (by omega) (λe=>by cases e;omega),λk hk=>hg.block k (by omega) (λe=>by cases e;omega)⟩
  case hgl=>
    intro q hq;refine⟨by simp;have:=(hgl q hq).1;omega,(hgl q hq).2.1,?_⟩;have hb:=((((Below.refl w.heap.size w).alloc (Nat.le_refl _) (.cells #[.int .i64 0] 3)).alloc (by simp) (.cells #[.int .i64 0] 28)).alloc (by simp;omega) (.cells #[.int .i64 0] 3)).alloc (by simp;omega) (.cells #[.slice p len cap] 27);rw[hb.block _ (hgl q hq).1];exact(hgl q hq).2.2
  case hv=>
    have hb:=((((Below.refl w.heap.size w).alloc (Nat.le_refl _) (.cells #[.int .i64 0] 3)).alloc (by simp) (.cells #[.int .i64 0] 28)).alloc (by simp;omega) (.cells #[.int .i64 0] 3)).alloc (by simp;omega) (.cells #[.slice p len cap] 27);exact Be.step (λ_ h=>h) (λk hk=>hb.block k hk) hv
  case h0=>
    have c0:=rZ w (.int .i64 0) 3;have c1:=rZ (w.alloc (.cells #[.int .i64 0] 3)) (.int .i64 0) 28;have c2:=rZ ((w.alloc (.cells #[.int .i64 0] 3)).alloc (.cells #[.int .i64 0] 28)) (.int .i64 0) 3;simp only[World.size_alloc]at c1 c2;have hb:=((((Below.refl w.heap.size w).alloc (Nat.le_refl _) (.cells #[.int .i64 0] 3)).alloc (by simp) (.cells #[.int .i64 0] 28)).alloc (by simp;omega) (.cells #[.int .i64 0] 3)).alloc (by simp;omega) (.cells #[.slice p len cap] 27);exact⟨by simp,⟨Mt _ c2.1,Uz _ c2.1 c2.2⟩,⟨_,Mt _ (Mt _ (Mt _ c0.1)),Uz _ (Mt _ (Mt _ c0.1)) (Uz _ (Mt _ c0.1) (Uz _ c0.1 c0.2))⟩,
      ⟨_,Mt _ (Mt _ c1.1),Uz _ (Mt _ c1.1) (Uz _ c1.1 c1.2)⟩,⟨λb hb' _=>hb.block b hb',⟨hb.size,hb.os,hb.tape,hb.output⟩⟩⟩
def Xi:Con:=⟨[.lf (.list (.int .u8)) none],[.lf (.int .i64) none, .lf (.int .i64) none],λx=>Jm x⟩
theorem Aez{gl:List (Nat×List Value)}(hE:Ent Tryz.prog 46)(hC:ConOk Tryz.prog gl 133 ⟨[.lf (.list (.int .u8)) none],[.lf (.int .i64) none, .lf (.int .i64) none],AG⟩):ConOk Tryz.prog gl 46 Xi:=by
  refine⟨hE,?_⟩;intro R N w L0 vs ps x y hargs hlen hit Afa hvs hgl hy;obtain rfl:=Option.some.inj (show some [PV.val (.list (.int .u8)) x]=some ps from hargs);obtain⟨v,_,rfl,h1,rfl⟩:=hvs;have h2:Be (λb=>R b/\N b) w (.list (.int .u8)) x [v]:=h1;have h3:=Be.step (B':=λk=>k<w.heap.size) (λ_ h=>h.1) (λ_ _=>rfl) (EN h2);obtain⟨p,len,cap,rfl⟩:∃p len cap,v= .slice p len cap:=by
    obtain⟨v1,c0,e1,⟨p,len,cap,rfl,_⟩,_⟩:=h2;cases e1;exact⟨_,_,_,rfl⟩
  refine(callsIn_wide.1 (Axh 3 (Nat.le_refl _) p len cap x y gl hC w h3 (λq hq=>⟨(hgl q hq).1,(hgl q hq).1,(hgl q hq).2.2⟩) hy)).mono ?_;rintro e w' ⟨rfl,hk⟩;refine⟨[.int .i64 y.1, .int .i64 y.2],rfl,⟨λb hb _=>hk.same b hb trivial,hk.gr⟩,λ_=>False,[],λ_ h=>h.elim,?_,?_⟩
  · trivial
  · intro s L B' hl _ _
    refine⟨[.val (.int .i64) y.1, .val (.int .i64) y.2],[],(show s=⟨s.sl,s.it++[],s.st⟩ by simp),rfl,?_,rfl,λi a m h=>by simp at h⟩;exact⟨_,_,rfl,rfl,_,_,rfl,rfl,rfl⟩
end Go.Proofs.YtidigmkmfmopgaaGreatDoor
