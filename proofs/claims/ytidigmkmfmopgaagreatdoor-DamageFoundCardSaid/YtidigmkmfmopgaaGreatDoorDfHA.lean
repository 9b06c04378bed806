/- A part of the proof of a statement of this seat (see the text that ends in Proof): DfHand. No conditions of its own. -/
import Derived.Test.YtidigmkmfmopgaaGreatDoorDfBB
import Derived.Test.YtidigmkmfmopgaaGreatDoorDfPA
import Derived.Test.YtidigmkmfmopgaaGreatDoorProg
import Derived.KernelRfl
import Derived.RangeFuncKeeps
import Derived.RangeFuncLeaves
import Derived.RangeFuncWrites
import Derived.Shelf.Abstract
import Derived.WalkKit
import Derived.OwnWalkIn
import Derived.TacticsInMore
import Derived.LoopNIn
import Derived.LoopIn
import Derived.Test.YtidigmkmfmopgaaGreatDoorDfBC
set_option linter.unusedVariables false
set_option linter.unusedSimpArgs false
namespace Go.Proofs.YtidigmkmfmopgaaGreatDoor
open Go.RowKit Go.Shelf Go Go.Rx Go.Lv Go.Pl
attribute [local go_sem] Oper.semAt_some
noncomputable def Biz:Con:=⟨[.lf (.int .i64) none, .lf (.int .i64) none],[.lf (.list (.int .i64)) (some 3), .lf (.int .i64) none],fun x=>Wd x.1 x.2⟩
noncomputable def Uz(gl:List (Nat×List Value)):Tab:=⟨[(101,Biz)],gl,false⟩
noncomputable abbrev Afe{R:Type}(gl:List (Nat×List Value)):Inl R:=Afk Tryz.prog (Uz gl) 8 []
noncomputable def Cbn:Code:=fB Tryz.f124
noncomputable def Bwx:Code:=cB Cbn
noncomputable def Bwj:Code:=cB Bwx
noncomputable def Bnw:Code:=cA (cA (cB Bwj))
noncomputable def Bx4:Code:=cB (cB Bnw)
noncomputable def Boo:Code:=cA (cA Bx4)
noncomputable def Bkz:Code:=cB (cB Boo)
noncomputable def Bwk:Code:=cA Cbn
noncomputable def Bwr:Code:=cA Bwx
noncomputable def Bx0:Code:=cA Bwj
noncomputable def Byb:Code:=cA Bnw
noncomputable def Bwy:Code:=cA (cB Bnw)
noncomputable def Bx8:Code:=cB Bx4
noncomputable def Bv8:Code:=cA Boo
noncomputable def Bx3:Code:=cA (cB Boo)
noncomputable def Bwg:Code:=cB Bkz
noncomputable def Bor:List Oper:=cO (cA (cA Bkz))
noncomputable def Boh:Code:=cB (cA Bkz)
noncomputable def Bdb:List Oper:=Bor.take 6
noncomputable def At0:Oper:=oAt Bor 6
noncomputable def Ayq:Oper:=oAt Bor 7
theorem Cal:Tryz.f124.body=some (.seq Bwk (.seq Bwr (.seq Bx0 (.block 0 (.loop (.seq Byb (.seq Bwy (.seq (.block 1 (.seq Bv8 (.seq Bx3 (.seq (.seq (.region 6 (Bdb++At0::[Ayq]).toArray false) Boh) Bwg)))) Bx8)))))))):=by kernel_rfl
theorem Cgx:Tryz.f124.ntmps=43:=by kernel_rfl
theorem Cfk:At0.guard=none:=by kernel_rfl
theorem Cef:At0.dst=some 39:=by kernel_rfl
theorem Bqf:At0.op= .call ⟨.value (.tmp 33), #[.tmp 38], #[22]⟩:=by kernel_rfl
abbrev Iv(a f h:Int)(b:LX):PV:= .agg [vi a,vi f,vi h,vw b]
abbrev Alq(y:Value)(v:PV)(ls:LI)(i x:Int):Slots:=[(0, .cst y),(1, .rptr v),(5,vi x),(21,vl ls),(22,vi (Ac ls)),(23,vi i)]
abbrev Apx(lv:List Nat):K (Nat×S):=kC lv []
abbrev Fl(l:Nat):Value:= .func (.yield l) #[] #[]
theorem Cf1(gl:List (Nat×List Value))(l:Nat)(a f h:Int)(b:LX):ex Tryz.prog (Uz gl) (Afe gl) 43 Bwk .d (kC [0,1,3] [⟨3,[], .ro (.int .i64)⟩]) ⟨[(0, .cst (Fl l)),(1, .rptr (Iv a f h b))],[],[]⟩=
    Option.bind (Hu (Ay a 0)) fun _=>Option.bind (Wd h (Bt (Ac b) a)) fun p=>some (0,⟨[(0, .cst (Fl l)),(1, .rptr (Iv a f h b)),(3,vl p.1)],[],[]⟩):=by kernel_rfl
theorem Cgb(gl:List (Nat×List Value))(l:Nat)(v:PV)(ls:LI):ex Tryz.prog (Uz gl) (Afe gl) 43 Bwr .d (Apx [0,1,3,5]) ⟨[(0, .cst (Fl l)),(1, .rptr v),(3,vl ls)],[],[]⟩=some (0,⟨[(0, .cst (Fl l)),(1, .rptr (ren [] v)),(3,vl ls),(5,vi 0)],[],[]⟩):=by kernel_rfl
theorem Cio(gl:List (Nat×List Value))(l:Nat)(a f h:Int)(b:LX)(ls:LI):ex Tryz.prog (Uz gl) (Afe gl) 43 Bx0 .d (Apx [0,1,5,21,22,23]) ⟨[(0, .cst (Fl l)),(1, .rptr (Iv a f h b)),(3,vl ls),(5,vi 0)],[],[]⟩=
    some (0,⟨Alq (Fl l) (Iv a f h b) ls 0 0,[],[]⟩):=by kernel_rfl
theorem Cg5(gl:List (Nat×List Value))(l:Nat)(a f h:Int)(b:LX)(ls:LI)(i x:Int):ex Tryz.prog (Uz gl) (Afe gl) 43 Byb .d (Apx [0,1,5,21,22,23,24]) ⟨Alq (Fl l) (Iv a f h b) ls i x,[],[]⟩=
    some (0,⟨Alq (Fl l) (Iv a f h b) ls i x++[(24,vt (Bn i (Ac ls)))],[],[]⟩):=by kernel_rfl
theorem Byj(gl:List (Nat×List Value))(l:Nat)(a f h:Int)(b:LX)(ls:LI)(i x:Int)(t:Bool):ex Tryz.prog (Uz gl) (Afe gl) 43 Bwy .d (Apx [0,1,5,21,22,23]) ⟨Alq (Fl l) (Iv a f h b) ls i x++[(24,vt t)],[],[]⟩=
    if t=true then some (0,⟨Alq (Fl l) (Iv a f h b) ls i x,[],[]⟩)else some (2,⟨Alq (Fl l) (Iv a f h b) ls i x,[],[]⟩):=by kernel_rfl
theorem Cfv(gl:List (Nat×List Value))(l:Nat)(a f h:Int)(b:LX)(ls:LI)(i x:Int):ex Tryz.prog (Uz gl) (Afe gl) 43 Bv8 .d (Apx [0,1,5,7,21,22,23]) ⟨Alq (Fl l) (Iv a f h b) ls i x,[],[]⟩=
    Option.bind (getI ls i) fun n=>some (0,⟨[(0, .cst (Fl l)),(1, .rptr (Iv a f h b)),(5,vi x),(7,vi n),(21,vl ls),(22,vi (Ac ls)),(23,vi i)],[],[]⟩):=by kernel_rfl
theorem Ch2(gl:List (Nat×List Value))(l:Nat)(a f h:Int)(b:LX)(ls:LI)(i x n:Int):ex Tryz.prog (Uz gl) (Afe gl) 43 Bx3 .d (Apx [0,1,5,8,21,22,23]) ⟨[(0, .cst (Fl l)),(1, .rptr (Iv a f h b)),(5,vi x),(7,vi n),(21,vl ls),(22,vi (Ac ls)),(23,vi i)],[],[]⟩=
    some (0,⟨[(0, .cst (Fl l)),(1, .rptr (Iv a f h b)),(5,vi x),(8,vi (Ad x (Au n a))),(21,vl ls),(22,vi (Ac ls)),(23,vi i)],[],[]⟩):=by kernel_rfl
abbrev Bwc(y:Value)(v:PV)(ls:LI)(i x z:Int)(p:LX):Slots:=[(0, .cst y),(1, .rptr v),(5,vi x),(8,vi z),(21,vl ls),(22,vi (Ac ls)),(23,vi i),(33, .cst y),(38,vw p)]
theorem Ch4(gl:List (Nat×List Value))(l:Nat)(a f h:Int)(b:LX)(ls:LI)(i x z:Int):Azj Tryz.prog (Uz gl) (Afe gl) 43 (Bdb++At0::[Ayq]).toArray Bdb ⟨[(0, .cst (Fl l)),(1, .rptr (Iv a f h b)),(5,vi x),(8,vi z),(21,vl ls),(22,vi (Ac ls)),(23,vi i)],[],[]⟩ (cnP [0,1,5,8,21,22,23,33,38] [] 0)=
    Option.bind (Bo b x z) fun p=>some (0,⟨Bwc (Fl l) (Iv a f h b) ls i x z p,[],[]⟩):=by kernel_rfl
theorem Ch7(gl:List (Nat×List Value))(l:Nat)(a f h:Int)(b:LX)(ls:LI)(i x z:Int)(p:LX)(t:Bool):Azj Tryz.prog (Uz gl) (Afe gl) 43 (Bdb++At0::[Ayq]).toArray [Ayq] ⟨Cba (Bwc (Fl l) (Iv a f h b) ls i x z p) 39 (vt t),[],[]⟩ (cnP [0,1,5,8,21,22,23,40] [] 0)=
    some (0,⟨[(0, .cst (Fl l)),(1, .rptr (Iv a f h b)),(5,vi x),(8,vi z),(21,vl ls),(22,vi (Ac ls)),(23,vi i),(40,vt (!t))],[],[]⟩):=by kernel_rfl
theorem Chg(gl:List (Nat×List Value))(l:Nat)(a f h:Int)(b:LX)(ls:LI)(i x z:Int)(t:Bool):ex Tryz.prog (Uz gl) (Afe gl) 43 Boh .d (Apx [0,1,5,8,21,22,23]) ⟨[(0, .cst (Fl l)),(1, .rptr (Iv a f h b)),(5,vi x),(8,vi z),(21,vl ls),(22,vi (Ac ls)),(23,vi i),(40,vt t)],[],[]⟩=
    if t=true then some (1,⟨[(0, .cst (Fl l)),(1, .rptr (Iv a f h b)),(5,vi x),(8,vi z),(21,vl ls),(22,vi (Ac ls)),(23,vi i)],[],[]⟩)else some (0,⟨[(0, .cst (Fl l)),(1, .rptr (Iv a f h b)),(5,vi x),(8,vi z),(21,vl ls),(22,vi (Ac ls)),(23,vi i)],[],[]⟩):=by kernel_rfl
theorem Cfy(gl:List (Nat×List Value))(l:Nat)(a f h:Int)(b:LX)(ls:LI)(i x z:Int):ex Tryz.prog (Uz gl) (Afe gl) 43 Bwg .d (Apx [0,1,5,21,22,23]) ⟨[(0, .cst (Fl l)),(1, .rptr (Iv a f h b)),(5,vi x),(8,vi z),(21,vl ls),(22,vi (Ac ls)),(23,vi i)],[],[]⟩=
    some (0,⟨Alq (Fl l) (Iv a f h b) ls i z,[],[]⟩):=by kernel_rfl
theorem Chn(gl:List (Nat×List Value))(l:Nat)(a f h:Int)(b:LX)(ls:LI)(i x:Int):ex Tryz.prog (Uz gl) (Afe gl) 43 Bx8 .d (Apx [0,1,5,21,22,23]) ⟨Alq (Fl l) (Iv a f h b) ls i x,[],[]⟩=
    some (0,⟨Alq (Fl l) (Iv a f h b) ls (Ad i 1) x,[],[]⟩):=by kernel_rfl
theorem Cc0:Azj Tryz.prog ⟨[],[],false⟩ (Afk Tryz.prog ⟨[],[],false⟩ 8 []) 43 (Bdb++At0::[Ayq]).toArray [Ayq] ⟨[(39,vt false)],[],[]⟩ (cnP [40] [] 0)=some (0,⟨[(40,vt true)],[],[]⟩):=by kernel_rfl
theorem Ccq:ex Tryz.prog ⟨[],[],false⟩ (Afk Tryz.prog ⟨[],[],false⟩ 8 []) 43 Boh .d (Apx []) ⟨[(40,vt true)],[],[]⟩=some (1,⟨[],[],[]⟩):=by kernel_rfl
theorem Cbm{i:Nat}(h:i<17179869184):Ad (i:Int) 1=((i+1:Nat):Int):=by
  rw[show Ad (i:Int) 1=Go.Lv.wrap64 ((i:Int)+1)from rfl,Go.Lv.Br (by omega) (by omega)]
  omega
def Bih:PV→Option (List LX)
  | .agg [.val (.int .i64) a, .val (.int .i64) _, .val (.int .i64) h, .val (.list (.int .i32)) b]=>Al4 a h b
  |_=>none
theorem Bt7{v:PV}{xs:List LX}(h:Bih v=some xs):∃a f r b,v=Iv a f r b∧Al4 a r b=some xs:=by
  unfold Bih at h
  split at h
  · exact⟨_,_,_,_,rfl,h⟩
  · cases h
theorem Aun{a:Int}{b:LX}{n:Int}{l:LI}{x:Int}{ps:List LX}(h:Ou a b (n::l) x=some ps):∃p r,Bo b x (Ad x (Au n a))=some p∧Ou a b l (Ad x (Au n a))=some r∧ps=p::r:=by
  simp only[Ou]at h
  obtain⟨p,h1,h⟩:=Go.Lv.bind_some h
  obtain⟨r,h2,h⟩:=Go.Lv.bind_some h
  cases h
  exact⟨p,r,h1,h2,rfl⟩
theorem Avm{a:Int}{b:LX}:∀{l:LI} {x:Int} {ps:List LX},Ou a b l x=some ps→ps.length=l.length
  |[],x,ps,h=>by simp only[Ou,Option.some.injEq]at h;subst h;rfl
  |n::l,x,ps,h=>by
    obtain⟨p,r,_,h2,rfl⟩:=Aun h
    simp[Avm h2]
theorem By2{gl:List (Nat×List Value)}(hC:ConOk Tryz.prog gl 101 Biz)(hE:Ent Tryz.prog 124):ItOk Tryz.prog gl 124 ⟨24, .list (.int .i32),Bih⟩:=by
  refine⟨hE,fun m B w b v cells xs hB hb hcell henc hgl hF=>?_⟩
  have hF:Bih v=some xs:=hF
  obtain⟨a,f,h,s,rfl,hF⟩:=Bt7 hF
  have hM:Tryz.prog.follows .mixedOrders=true:=by kernel_rfl
  have hT:Aeg Tryz.prog (Uz gl):= .cons hC .nil
  have hI:∀{R:Type},Aef (R:=R) Tryz.prog (Uz gl).gl (Afe gl):=Bbr hM hT AnsOk.nil 8
  unfold Al4 at hF
  obtain⟨u0,hok,hF⟩:=Go.Lv.bind_some hF
  obtain⟨p0,hall,hF⟩:=Go.Lv.bind_some hF
  obtain⟨u1,hlim,hF⟩:=Go.Lv.bind_some hF
  have hlim:p0.1.length≤17179869184:=by
    unfold Hu at hlim
    split at hlim
    · rename_i h;have h':=of_decide_eq_true h;unfold Ac at h';omega
    · cases hlim
  have hlen:=Avm hF
  intro l J Jx W hk hJ hJx hY h0
  refine callsIn_of_wp_marks Tryz.func124 Cal trivial ?_ rfl
  have hGr:∀i V X Y,J i V X→KeepN (fun _=>True) X Y→J i (grown V X Y) Y:=fun i V X Y h k=>hJ i V X Y h k
  have hbW:W.heap[b]? =some (.cells cells.toArray 24 (0,0)):=(hk.same b (hB b hb) trivial).trans hcell
  have hm0:MemI gl B W ⟨[(0, .cst (Fl l)),(1, .rptr (Iv a f h s))],[],[]⟩ (Azo [Fl l, .pointer (some ⟨b,0,none⟩)]):=by
    refine⟨fun k hk'=>Nat.lt_of_lt_of_le (hB k hk') hk.gr.le,rfl,rfl,fun p hp=>?_,hgl.keep (fun _ h=>h) (fun k hk'=>hk.same k (hB k hk') trivial) hk.gr⟩
    rcases List.mem_cons.1 hp with rfl|hp
    · exact(show _∧_ from⟨rfl,rfl⟩)
    rcases List.mem_cons.1 hp with rfl|hp
    · exact⟨_,cells,rfl,⟨b,0,cells.toArray,_,_,rfl,hb,hbW,fun i _=>by simp⟩,EncC.step (fun _ h=>h) (fun k hk'=>hk.same k (hB k hk') trivial) (.refl []) henc⟩
    · cases hp
  have ha0:=Bix (fn:=Tryz.f124) (vs:=[Fl l, .pointer (some ⟨b,0,none⟩)]) (by kernel_rfl)
  have e0:(#[Value.func (.yield l) #[] #[]]++ #[Value.pointer (some ⟨b,0,none⟩)]:Array Value)=[Fl l, .pointer (some ⟨b,0,none⟩)].toArray:=by simp
  rw[e0]
  revert ha0
  generalize({tmps:=_,defers:=[]}:Act)=act0
  rw[Cgx]
  intro ha0
  refine Az3 hM hT hI (J:=J 0) (hGr 0) .d [0,1,3] [⟨3,[], .ro (.int .i64)⟩] ((Cf1 gl l a f h s).trans (by rw[hok,hall];rfl)) rfl hm0 h0 ha0 fun σ1 V1 w1 a1 f1 j1 m1=>?_
  refine Az3 hM hT hI (J:=J 0) (hGr 0) .d [0,1,3,5] [] (Cgb gl l _ p0.1) rfl m1 j1 f1 fun σ2 V2 w2 a2 f2 j2 m2=>?_
  refine Az3 hM hT hI (J:=J 0) (hGr 0) .d [0,1,5,21,22,23] [] (Cio gl l a f h s p0.1) rfl m2 j2 f2 fun σ3 V3 w3 a3 f3 j3 m3=>?_
  have fin:∀{σ:Env} {a':Act} {w':World},Fits [] 43 a' σ→((∃V,J xs.length V w')∨Jx w')→LeavesInM (wr none) m Tryz.prog Tryz.f124 a'.tmps (fun e W'=>(∃v,e= .returned v)∧((∃V,J xs.length V W')∨Jx W')) a'.defers .returning w':=by
    intro σ a' w' hf hh
    rw[hf.defers]
    exact⟨_,Ao7 (rs:=[]) (vs:=[]) (by kernel_rfl) hf trivial,⟨_,rfl⟩,hh⟩
  refine wpIn_block (Ayf (p0.1.length+1) (fun q a' w'=>∃(i:Nat) (x:Int) (V:Reg) (σ:Env),q+i=p0.1.length+1∧i≤p0.1.length∧Fits [] 43 a' σ∧J i V w'∧MemI gl V w' ⟨Alq (Fl l) (Iv a f h s) p0.1 (i:Int) x,[],[]⟩ σ∧Ou a s (p0.1.drop i) x=some (xs.drop i)) ?_ ?_
    ⟨0,0,V3,σ3,rfl,Nat.zero_le _,f3,j3,m3,hF⟩)
  · rintro a' w' ⟨i,x,V,σ,hq,hi,_⟩
    omega
  rintro q a' w' ⟨i,x,V,σ,hq,hi,hf,hj,hm,hp⟩
  refine Az3 hM hT hI (J:=J i) (hGr i) .d [0,1,5,21,22,23,24] [] (Cg5 gl l a f h s p0.1 i x) rfl hm hj hf fun σ4 V4 w4 a4 f4 j4 m4=>?_
  by_cases hlt:i<p0.1.length
  · have hg:Bn (i:Int) (Ac p0.1)=true:=by simp[Bn,Ac,GI.toZ];exact hlt
    rw[hg]at m4
    refine Az3 hM hT hI (J:=J i) (hGr i) .d [0,1,5,21,22,23] [] (Byj gl l a f h s p0.1 i x true) rfl m4 j4 f4 fun σ5 V5 w5 a5 f5 j5 m5=>?_
    obtain⟨n,hn⟩:∃n,p0.1[i]? =some n:=⟨_,List.getElem?_eq_getElem hlt⟩
    have hgn:Go.Lv.getI p0.1 (i:Int)=some n:=by simp[Go.Lv.getI,hn]
    have hd:p0.1.drop i=n::p0.1.drop (i+1):=by rw[List.drop_eq_getElem_cons hlt];congr 1;rw[List.getElem?_eq_getElem hlt]at hn;exact Option.some.inj hn
    rw[hd]at hp
    obtain⟨p,r,hcut,hp',hxs⟩:=Aun hp
    have hi':i<xs.length:=by omega
    have hx:xs[i]? =some p:=by
      have:=congrArg List.head? hxs
      rw[List.head?_drop]at this
      exact this
    have hr:xs.drop (i+1)=r:=by
      have:=congrArg List.tail hxs
      rw[List.tail_drop]at this
      exact this
    refine wpIn_seq (wpIn_block ?_)
    refine Az3 hM hT hI (J:=J i) (hGr i) .d [0,1,5,7,21,22,23] [] ((Cfv gl l a f h s p0.1 i x).trans (by rw[hgn];rfl)) rfl m5 j5 f5 fun σ6 V6 w6 a6 f6 j6 m6=>?_
    refine Az3 hM hT hI (J:=J i) (hGr i) .d [0,1,5,8,21,22,23] [] (Ch2 gl l a f h s p0.1 i x n) rfl m6 j6 f6 fun σ7 V7 w7 a7 f7 j7 m7=>?_
    refine wpIn_seq (wpIn_seq (wpIn_region_lit ?_))
    refine Bpw (T:=Uz gl) hT hI (J:=J i) (hGr i) [0,1,5,8,21,22,23,33,38] (by kernel_rfl) ((Ch4 gl l a f h s p0.1 i x (Ad x (Au n a))).trans (by rw[hcut];rfl)) rfl m7 j7 f7 fun σ8 V8 w8 a8 f8 j8 m8=>?_
    have v33:σ8 33=Fl l:=by
      have:=m8.val (t:=33) (p:= .cst (Fl l)) (by simp) rfl
      exact(show [σ8 33]=[Fl l]∧_ from this).1|>List.head_eq_of_cons_eq
    have v38:EncV V8 w8 [] (vw p) (σ8 38):=(Asr rfl).1 (m8.val (t:=38) (p:=vw p) (by simp) rfl)
    refine Ce0 Cfk Cef (by decide) (fun c hc=>by rw[Bqf]at hc;cases hc) (Brp Bqf v33 rfl) (hY i V8 w8 (σ8 38) hi' j8 (fun x' hx'=>by rw[hx]at hx';cases hx';exact v38)) ?_ f8
    rintro e w9 (⟨rfl,j9,hgr,hsame⟩|⟨rfl,jx⟩)
    · refine⟨_,rfl,fun a9 f9=>?_⟩
      have m9:=(m8.round hgr hsame).set (d:=39) (p:=vt true) (v:= .bool true) rfl (show [Value.bool true]=[Value.bool true]from rfl)
      refine Bpw (T:=Uz gl) (l2:=[]) hT hI (J:=J (i+1)) (hGr (i+1)) [0,1,5,8,21,22,23,40] (by kernel_rfl) (Ch7 gl l a f h s p0.1 i x (Ad x (Au n a)) p true) rfl m9 j9 f9 fun σb Vb wb ab fb jb mb=>?_
      refine wpIn_mono (Ayn hM hT hI (J:=J (i+1)) (hGr (i+1)) (an:= .d) (lv:=[0,1,5,8,21,22,23]) (co:=[]) (Chg gl l a f h s p0.1 i x (Ad x (Au n a)) false) rfl mb jb fb) ?_
      rintro e ac wc ⟨he,σc,Vc,fc,jc,mc⟩
      cases e with
      |normal=>
        refine wpIn_mono (Ayn hM hT hI (J:=J (i+1)) (hGr (i+1)) (an:= .d) (lv:=[0,1,5,21,22,23]) (co:=[]) (Cfy gl l a f h s p0.1 i x (Ad x (Au n a))) rfl mc jc fc) ?_
        rintro e ad wd ⟨he,σd,Vd,fd,jd,md⟩
        cases e with
        |normal=>
          refine wpIn_mono (Ayn hM hT hI (J:=J (i+1)) (hGr (i+1)) (an:= .d) (lv:=[0,1,5,21,22,23]) (co:=[]) (Chn gl l a f h s p0.1 i (Ad x (Au n a))) rfl md jd fd) ?_
          rintro e ae we ⟨he,σe,Ve,fe,je,me⟩
          cases e with
          |normal=>
            have hadd:Ad (i:Int) 1=((i+1:Nat):Int):=Cbm (by omega)
            rw[hadd]at me
            exact⟨i+1,_,Ve,σe,by omega,by omega,fe,je,me,by rw[hr];exact hp'⟩
          |ret=>simp[Ba5]at he
          |exit id=>simp[Ba5]at he
          |goto l=>cases he
          |panic c=>cases he
          |outgrown=>cases he
        |ret=>simp[Ba5]at he
        |exit id=>simp[Ba5]at he
        |goto l=>cases he
        |panic c=>cases he
        |outgrown=>cases he
      |ret=>simp[Ba5]at he
      |exit id=>simp[Ba5]at he
      |goto l=>cases he
      |panic c=>cases he
      |outgrown=>cases he
    · refine⟨_,rfl,fun a9 f9=>?_⟩
      have hT0:Aeg Tryz.prog ⟨[],[],false⟩:= .nil
      have hI0:∀{R:Type},Aef (R:=R) Tryz.prog [] (Afk Tryz.prog ⟨[],[],false⟩ 8 []):=Bbr hM hT0 AnsOk.nil 8
      have m9:MemI [] (fun _=>False) w9 ⟨[(39,vt false)],[],[]⟩ (Uq σ8 39 (.bool false)):=⟨fun _ h=>h.elim,rfl,rfl,(fun p hp=>by
        rcases List.mem_cons.1 hp with rfl|hp
        · exact Hj.put rfl (show [Value.bool false]=[Value.bool false]from rfl)
        · cases hp),fun p hp=>by cases hp⟩
      refine Bpw (T:=⟨[],[],false⟩) (l2:=[]) hT0 hI0 (J:=fun _ W=>Jx W) (fun _ X Y h k=>hJx X Y h k) [40] (by kernel_rfl) Cc0 rfl m9 jx f9 fun σb Vb wb ab fb jb mb=>?_
      refine wpIn_mono (Ayn (T:=⟨[],[],false⟩) hM hT0 hI0 (J:=fun _ W=>Jx W) (fun _ X Y h k=>hJx X Y h k) (an:= .d) (lv:=[]) (co:=[]) Ccq rfl mb jb fb) ?_
      rintro e ac wc ⟨he,σc,Vc,fc,jc,mc⟩
      cases e with
      |ret=>exact fin fc (.inr jc)
      |normal=>simp[Ba5]at he
      |exit id=>simp[Ba5]at he
      |goto l=>cases he
      |panic c=>cases he
      |outgrown=>cases he
  · have hi2:i=p0.1.length:=by omega
    have hg:Bn (i:Int) (Ac p0.1)=false:=by subst hi2;simp[Bn,Ac,GI.toZ]
    rw[hg]at m4
    refine wpIn_seq (wpIn_mono (Ayn hM hT hI (J:=J i) (hGr i) (an:= .d) (lv:=[0,1,5,21,22,23]) (co:=[]) (Byj gl l a f h s p0.1 i x false) rfl m4 j4 f4) ?_)
    rintro e ac wc ⟨he,σc,Vc,fc,jc,mc⟩
    cases e with
    |exit id=>
      obtain rfl:id=0:=by simpa [Ba5]using he
      exact fin fc (.inl ⟨Vc,by rw[hlen,←hi2];exact jc⟩)
    |ret=>simp[Ba5]at he
    |normal=>simp[Ba5]at he
    |goto l=>cases he
    |panic c=>cases he
    |outgrown=>cases he
abbrev Bhc:List Sh:=[.agg [.lf (.int .i64) none, .lf (.int .i64) none, .lf (.int .i64) none, .lf (.list (.int .i32)) none], .lf .str none]
abbrev Ahq:List Sh:=[.lf (.list (.list (.int .u8))) (some 27), .lf (.int .i64) none]
noncomputable def Bq7:Con:=⟨[.agg [.lf (.int .i64) none, .lf (.int .i64) none, .lf (.int .i64) none, .lf (.list (.int .i32)) none]],[.lf (.int .i64) none],fun x=>Dh x.1 x.2.1 x.2.2.1 x.2.2.2⟩
noncomputable def Btp:Con:=⟨[.lf .str none],[.lf (.vec 16 (.int .i32)) none, .lf (.int .i64) none],Aai⟩
noncomputable def Btr:Con:=⟨[.agg [.lf (.int .i64) none, .lf (.int .i64) none], .lf (.vec 16 (.int .i32)) none, .lf (.list (.int .i32)) none],[.lf (.list (.int .u8)) (some 5), .lf (.int .i64) none],fun x=>Qo x.1 x.2.1 x.2.2.1 x.2.2.2⟩
noncomputable def Bqr:Con:=⟨[.agg [.lf (.int .i64) none, .lf (.int .i64) none, .lf (.int .i64) none, .lf (.list (.int .i32)) none]],[.agg [.lf (.int .i64) none, .lf (.int .i64) none]],fun x=>Afm x.1 x.2.1 x.2.2.1 x.2.2.2⟩
noncomputable def Bba(gl:List (Nat×List Value)):Tab:=⟨[(84,Bq7),(85,Btp),(87,Btr),(88,Bqr)],gl,true⟩
noncomputable def Bq4:List (Nat×ItC):=[(124,⟨24, .list (.int .i32),Bih⟩)]
noncomputable def Bjl:List (Nat×An):=[(86, .d)]
noncomputable abbrev Bw8{R:Type}(gl:List (Nat×List Value)):Inl R:=Afk Tryz.prog (Bba gl) 8 Bjl
noncomputable def Bi2:An:= .loop [2,4,5,7,9] [⟨9,[], .own 27 (.list (.int .u8))⟩] .d
noncomputable def Bwn:An:= .seq .d (.seq .d (.seq .d (.seq .d (.seq .d (.seq (.seq .d (.blk Bi2)) .d)))))
noncomputable def Cgt:Code:=fB Tryz.f39
noncomputable def Byh:Code:=cB (cB (cB (cB (cB Cgt))))
noncomputable def Byk:Code:=cA (cB (cA Byh))
noncomputable def Byu:Code:=cB Byh
def rfA:Code→Code| .rangeFunc _ _ a _=>a|c=>c
def rfB:Code→Code| .rangeFunc _ _ _ b=>b|c=>c
noncomputable def Bpu:K (LTy (shL Ahq)):={n:=Ay5 Tryz.prog Ahq Tryz.f39.results.toList,x:=fun _ _=>none,r:=Ay5 Tryz.prog Ahq Tryz.f39.results.toList}
noncomputable def Bw5(gl:List (Nat×List Value))(s:S):Option (LTy (shL Ahq)):=ex Tryz.prog (Bba gl) (Bw8 gl) 45 Byu .d Bpu s
noncomputable def Bxs(gl:List (Nat×List Value)):K (LTy (shL Ahq)):=⟨Bw5 gl,fun id s=>Cg (Nat.beq id 0) (Bw5 gl s)<|Bpu.x id s,Bpu.r⟩
noncomputable def Bbm(gl:List (Nat×List Value)):List LX→S→Option (LTy (shL Ahq)):=rnd Bi2 (Av8 Tryz.prog (Bba gl) (Bw8 gl) 45 28 (rfA Byk) (rfB Byk) Bi2 (Bxs gl) (.list (.int .i32))) (Bxs gl).n
def Bdh(a f h:Int)(b t:LX)(o:List LB):S:=⟨[(2, .ptr 0 []),(4, .ptr 1 []),(5, .ptr 2 []),(7, .ptr 3 []),(9, .ptr 4 [])],
  [.box 24 (.agg [vi a,vi f,vi h,vw b]), .box 79 .nils, .box 28 (vi 0), .box 136 (.val (.vec 16 (.int .i32)) t), .box 79 (.own 5), .arr 27 (.list (.int .u8)) o],[]⟩
theorem Ch8(gl:List (Nat×List Value))(a f h:Int)(b t:LX)(o:List LB):Bbm gl [] (Bdh a f h b t o)=some (o,(0:Int)):=by kernel_rfl
theorem Cil(gl:List (Nat×List Value))(a f h:Int)(b t:LX)(o:List LB)(x:LX)(xs:List LX):Bbm gl (x::xs) (Bdh a f h b t o)=
    Option.bind (Qo a f t x) fun y=>if(Ay y.2 0)=true then some ([],y.2)else Option.bind (Ek o [y.1]) fun o'=>Bbm gl xs (Bdh a f h b t o'):=by kernel_rfl
theorem Bv1(gl:List (Nat×List Value))(a f h:Int)(b t:LX):∀(xs:List LX) (o:List LB),Bbm gl xs (Bdh a f h b t o)=Ok a f t xs o
  |[],o=>Ch8 gl a f h b t o
  |x::xs,o=>by
    rw[Cil,Ok]
    simp only[Bv1 gl a f h b t xs]
    rfl
theorem Cdf(gl:List (Nat×List Value))(x:LTy (shL Bhc)):Chs Tryz.prog (Bba gl) Bjl Bq4 Tryz.f39 Bwn Bhc Ahq x=Agx x.1 x.2.1 x.2.2.1 x.2.2.2.1 x.2.2.2.2:=by
  refine Eq.trans (b:=Option.bind (Dh x.1 x.2.1 x.2.2.1 x.2.2.2.1) fun e=>if(Ay e 0)=true then some ([],e)else Option.bind (Aai x.2.2.2.2) fun t=>if(Ay t.2 0)=true then some ([],t.2)
    else Option.bind (Al4 x.1 x.2.2.1 x.2.2.2.1) fun xs=>Bbm gl xs (Bdh x.1 x.2.1 x.2.2.1 x.2.2.2.1 t.1 [])) (by kernel_rfl) ?_
  simp only[Bv1]
  rfl
noncomputable def Apw:Con:=⟨Bhc,Ahq,fun x=>Agx x.1 x.2.1 x.2.2.1 x.2.2.2.1 x.2.2.2.2⟩
theorem Bji{gl:List (Nat×List Value)}(hCk:ConOk Tryz.prog gl 84 Bq7)(hTp:ConOk Tryz.prog gl 85 Btp)(hAl:ConOk Tryz.prog gl 101 Biz)(hEn:ConOk Tryz.prog gl 87 Btr)(hSh:ConOk Tryz.prog gl 88 Bqr):
    ConOk Tryz.prog gl 39 Apw:=by
  have hE:∀{f:Nat} {fn:Func},Tryz.prog.funcs[f]? =some fn→(!(fn.name== "runtime.NumGoroutine")&&fn.body.isSome)=true→Ent Tryz.prog f:=by
    intro f fn hf hb
    simp only[Bool.and_eq_true,Bool.not_eq_true']at hb
    obtain⟨c,hc⟩:=Option.isSome_iff_exists.1 hb.2
    exact Ent.mk hf hb.1 hc
  refine Bp6 (T:=Bba gl) (its:=Bq4) (ans:=Bjl) (an:=Bwn) (by kernel_rfl) Tryz.func39 (hE Tryz.func39 (by kernel_rfl)) (.cons hCk (.cons hTp (.cons hEn (.cons hSh .nil)))) (AnsOk.cons (hE Tryz.func86 (by kernel_rfl)) AnsOk.nil) ?_ (by kernel_rfl) (Cdf gl)
  intro p hp
  rcases List.mem_cons.1 hp with rfl|hp
  · exact By2 hAl (hE Tryz.func124 (by kernel_rfl))
  · cases hp
theorem Blj{W W':World}(h:KeepN (fun _=>True) W W'):W.grownBy W' none:=⟨h.gr.os,h.gr.tape,h.gr.output,h.gr.le,fun k hk _=>h.same k hk trivial⟩
theorem Cdp{F:Fence}{n:Nat}{P:Program}{Q:Exit→Act→World→Prop}{a:Act}{w:World}{c:Code}(m:Nat)(I:Nat→Act→World→Prop)(h0:∀a w,¬I 0 a w)
    (hs:∀q a w,I (q+1) a w→c.wpIn F n P (Exit.then (I q) Q) a w) (h:I m a w):(Code.loop c).wpIn F n P Q a w:=by
  refine wpIn_loop_rounds m ?_
  induction m generalizing a w with
  |zero=>exact absurd h (h0 a w)
  |succ m ih=>
    rw[roundsIn_succ]
    refine wpIn_mono (hs m a w h) fun e a' w' hh=>?_
    cases e<;>first|exact ih hh|exact hh
theorem Cme{α:Type}{c:Prop} [Decidable c]{a b y:α}(h:(if c then a else b)=y)(hc:¬c):b=y:=by rw[if_neg hc]at h;exact h
theorem Cgj{A:Reg}{w:World}{v:Value}{k:Kd}{l y:List k.T}{a:Int}(h:Ap A w (.list (.int k)) l [v])(hc:Bo l a (Ac l)=some y):
    ∃(p:Option Addr) (len cap m:Nat),v= .slice p len cap∧a=(m:Int)∧m≤len∧len≤cap∧Ap A w (.list (.int k)) y [.slice (if cap=m then p else p.map (·.add m)) (len-m) (cap-m)]:=by
  obtain⟨v1,c0,e1,h1,h2⟩:=h
  cases e1
  obtain⟨p,len,cap,rfl,g1,g2,g3,g4⟩:=h1
  obtain⟨k1,k2,k3,k4,rfl⟩:=Akl hc
  simp only[ET.size,Nat.mul_one]at g1 g4
  have hll:=h2.len (z:=1) fun x c h=>by rw[show c=_ from h];rfl
  have hln:l.length=len:=by omega
  have hto:(Ac l).toNat=len:=by simp[Ac,hln]
  rw[hto]at k3⊢
  refine⟨p,len,cap,a.toNat,rfl,k1,k3,g2,_,c0.drop a.toNat,rfl,⟨_,_,_,rfl,?_,by omega,fun hp=>?_,fun hcap=>?_⟩,?_⟩
  · simp only[ET.size,List.length_drop];omega
  · split at hp
    · omega
    · rename_i hne
      cases p with
      |none=>have:=g3 rfl;omega
      |some a=>cases hp
  · rw[if_neg (by omega)]
    obtain⟨b,off,arr,T,fr,rfl,e2,e3,e4,e5⟩:=g4 (by omega)
    refine⟨b,off+a.toNat,arr,T,fr,by simp[Addr.add],e2,e3,by simp only[ET.size];omega,fun i hi=>?_⟩
    simp only[ET.size]at hi
    rw[List.getElem?_drop,←e5 (a.toNat+i) (by omega),Nat.add_assoc]
  · have:=Bs.drop (z:=1) (fun x c h=>by rw[show c=_ from h];rfl) a.toNat h2
    rw[Nat.mul_one]at this
    rw[List.take_of_length_le (by omega)]
    exact this
theorem Clx{P:Program}{f:Nat}{gl:List (Nat×List Value)}{F:List UInt8→Option (Int×Int)}(hC:ConOk P gl f ⟨[.lf (.list (.int .u8)) none],[.lf (.int .i64) none, .lf (.int .i64) none],F⟩){A:Reg}{W:World}{v:Value}{s:List UInt8}{r:Int×Int}
    (hv:Ap A W (.list (.int .u8)) s [v]) (hgl:GlOk gl A W) (h:F s=some r):Calls P f #[v] W fun e W'=>e= .returned (.tuple #[.int .i64 r.1, .int .i64 r.2])∧KeepN (fun _=>True) W W':=by
  have hv':Ap (fun _=>True∧True) W (.list (.int .u8)) s [v]:=Ap.step (fun _ _=>⟨trivial,trivial⟩) (fun _ _=>rfl) hv
  refine(hC.ok (fun _=>True) (fun _=>True) W [] [v] [.val (.list (.int .u8)) s] s r rfl rfl (fun i a m _ h=>by simp at h) trivial ⟨v,[],rfl,hv',rfl⟩ (fun p hp=>⟨(hgl p hp).1,trivial,(hgl p hp).2.2⟩) h).mono ?_
  rintro e w' ⟨us,rfl,hk,A1,L1,g1,g2,g3⟩
  obtain⟨ps,its,k1,k2,k3,k4,k5⟩:=g3 ⟨[],[],[]⟩ [] (fun _=>True) rfl (fun _ _=>trivial) (fun _ _ _=>trivial)
  refine⟨?_,hk⟩
  obtain rfl:=Option.some.inj (show some [PV.val (.int .i64) r.1,PV.val (.int .i64) r.2]=some ps from k2)
  obtain⟨_,_,rfl,e1,_,_,rfl,e2,rfl⟩:=k3
  cases(show [_]=[Value.int .i64 r.1]from e1)
  cases(show [_]=[Value.int .i64 r.2]from e2)
  rfl
structure KpF (n₀ Bx:Nat) (A B:World):Prop where
  le:A.heap.size≤B.heap.size
  box:B.heap[Bx]? =A.heap[Bx]?
  old:∀k,k<n₀→B.heap[k]? =A.heap[k]?
def smT(l:List (Int×Int)):Int:=l.foldl (fun s x=>Ad s x.1) 0
def fin(y:Int×Int)(xs:List (Int×Int)):Prop:=(∃x∈xs,x.2≠0)∨y=(smT xs,0)
def Cbl(y:Int×Int)(pre:List (Int×Int)):Prop:=∃p x,pre=p++[x]∧(x.2≠0→y=(0,x.2))
theorem Tryz.Cml:Tryz.f132.ntmps=35:=by kernel_rfl
theorem Tryz.u25:Tryz.prog.underlying 27=some (.slice 5):=by kernel_rfl
theorem Tryz.sz5:SizeIs Tryz.prog 5 1:=SizeIs.mk (by kernel_rfl)
set_option maxHeartbeats 2000000 in
set_option maxRecDepth 100000 in
theorem Cfr(n:Nat)(l Bx n₀:Nat)(v:Value)(b:List UInt8)(y:Int×Int)(J Jx:List (Int×Int)→World→Prop)(gl:List (Nat×List Value))
    (hC:ConOk Tryz.prog gl 133 ⟨[.lf (.list (.int .u8)) none],[.lf (.int .i64) none, .lf (.int .i64) none],Vv⟩)
    (hY:∀pre x W,J pre W→pre.length<FUEL→YieldAt Fence.wide (n-1) Tryz.prog l #[.int .i64 x.1, .int .i64 x.2] W fun e W'=>
      (e= .returned (.bool true)∧J (pre++[x]) W'∧KpF n₀ Bx W W')∨(e= .returned (.bool false)∧Jx (pre++[x]) W'))
    (W0:World) (hJ:AbidesFrom W0.heap.size J) (hbox:W0.heap[Bx]? =some (.cells #[v] 27 (0,0))) (hn:n₀≤W0.heap.size) (hv:Ap (fun k=>k<n₀) W0 (.list (.int .u8)) b [v]) (hgl:GlOk gl (fun k=>k<n₀) W0)
    (h0:J [] W0) (hy:Qw b=some y):
    CallsIn Fence.wide n Tryz.prog 132 #[.func (.yield l) #[] #[], .pointer (some ⟨Bx,0,none⟩)] W0 fun e W'=>(∃v,e= .returned v)∧((∃ys,fin y ys∧J ys W')∨(∃pre,Cbl y pre∧Jx pre W')):=by
  refine callsIn_of_wp Tryz.func132 rfl trivial ?_ rfl
  simp only[Tryz.Cml,List.size_toArray,List.length_cons,List.length_nil,Nat.reduceAdd,Nat.reduceSub,Array.replicate_succ,Array.replicate_zero,List.push_toArray,List.append_toArray,List.nil_append,List.cons_append]
  gi_wp2
  refine Cdp FUEL (fun q a W=>∃(pre:List (Int×Int)) (x:Int) (v2 v4 v5 v6 v7 v8 v9 v10 v11 v12 v13 v14 v15 v16 v17 v18 v19 v20 v21 v22 v23 v24 v25 v26 v27 v28 v29 v30 v31 v32 v33 v34:Value),a={tmps:= #[.func (.yield l) #[] #[], .pointer (some ⟨Bx,0,none⟩),v2, .int .i64 x,v4,v5,v6,v7,v8,v9,v10,v11,v12,v13,v14,v15,v16,v17,v18,v19,v20,v21,v22,v23,v24,v25,v26,v27,v28,v29,v30,v31,v32,v33,v34],defers:=[]}∧Tc b q x=some y∧smT pre=x∧pre.length+q=FUEL∧J pre W∧KpF n₀ Bx W0 W∧W0.heap.size≤W.heap.size) ?_ ?_ ?_
  · rintro a W ⟨pre,x,v2,v4,v5,v6,v7,v8,v9,v10,v11,v12,v13,v14,v15,v16,v17,v18,v19,v20,v21,v22,v23,v24,v25,v26,v27,v28,v29,v30,v31,v32,v33,v34,_,h,_⟩
    cases h
  · rintro q a W ⟨pre,x,v2,v4,v5,v6,v7,v8,v9,v10,v11,v12,v13,v14,v15,v16,v17,v18,v19,v20,v21,v22,v23,v24,v25,v26,v27,v28,v29,v30,v31,v32,v33,v34,rfl,h,hx,hl,hJ1,hk,hs⟩
    simp only[Tc]at h
    obtain⟨s,hcut,h⟩:=Go.Lv.bind_some h
    obtain⟨r,hsz,h⟩:=Go.Lv.bind_some h
    have hvW:Ap (fun k=>k<n₀) W (.list (.int .u8)) b [v]:=Ap.step (fun _ h=>h) (fun k hk'=>hk.old k hk') hv
    obtain⟨p,len,cap,m,rfl,rfl,hm,hlc,hsv⟩:=Cgj (k:= .u8) hvW hcut
    have hc:W.cell? ⟨Bx,0,none⟩=some (.slice p len cap):=by
      have:=hk.box
      simp only[World.cell?,this,hbox]
      rfl
    have hu:=Tryz.u25
    have hz:=Tryz.sz5
    obtain⟨k,e⟩:=r
    have e1:geq e 6=(e==6):=rfl
    have e2:geq e 0=(e==0):=rfl
    have e3:Ad (m:Int) k=RowKit.wrap64 (m+k):=by
      simp only[Ad,GI.ofZ,GI.toZ,Go.Lv.wrap64,RowKit.wrap64]
      exact IntKind.wrap_i64 _
    have e4:Fi (RowKit.wrap64 (m+k)) 4000=decide (4000<RowKit.wrap64 (m+k)):=rfl
    have e5:Ay e 0=(e !=0):=rfl
    rw[e1,e2,e3,e4,e5]at h
    have hp:=h
    have hgW:GlOk gl (fun k=>k<n₀) W:=fun p hp=>⟨Nat.lt_of_lt_of_le (hgl p hp).1 hs,(hgl p hp).2.1,by rw[hk.old _ (hgl p hp).2.1];exact(hgl p hp).2.2⟩
    have hcall:∀v',Ap (fun k=>k<n₀) W (.list (.int .u8)) s [v']→CallsIn Fence.wide (n-1) Tryz.prog 133 #[v'] W fun e0 W'=>e0= .returned (.tuple #[.int .i64 k, .int .i64 e])∧KeepN (fun _=>True) W W':=
      fun v' hv'=>callsIn_wide.2 (Clx hC hv' hgW hsz)
    have hsm:∀z:Int,smT (pre++[(k,z)])=RowKit.wrap64 (m+k):=fun z=>by rw[←e3,←hx];simp[smT]
    have hlt:Bx<W.heap.size:=Nat.lt_of_lt_of_le (Array.getElem?_eq_some_iff.1 hbox).1 hs
    gi_wp2
    all_goals
      refine⟨trivial,(fun h=>nomatch h),(hcall _ (by first|(rw[if_neg (by assumption)]at hsv;exact hsv)|(simpa [*]using hsv))).mono ?_⟩
      rintro e0 W1 ⟨rfl,hk1⟩
      have hJ2:=hJ pre W W1 none hJ1 (Blj hk1) (fun r e=>by cases e)
      have hyl:∀e',YieldAt Fence.wide (n-1) Tryz.prog l #[Value.int IntKind.i64 k,Value.int IntKind.i64 e'] W1 _:=fun e'=>hY pre (k,e') W1 hJ2 (by omega)
      gi_wp2
      · rename_i h6
        rw[if_pos h6]at hp
        refine bodyPost_ret (results_none rfl _ _ _) rfl ?_
        exact⟨⟨_,rfl⟩, .inl ⟨pre, .inr (by rw[hx];cases hp;rfl),hJ2⟩⟩
      · obtain⟨fn,tmps,assign,body,hy1,hR⟩:=hyl 4
        rw[hy1]
        gi_wp2
        refine⟨(fun h=>nomatch h),hR.mono ?_⟩
        rintro e3 W3 (⟨rfl,hJ3,hk3⟩|⟨rfl,hJx3⟩)
        · gi_wp2
          refine bodyPost_ret (results_none rfl _ _ _) rfl ?_
          exact⟨⟨_,rfl⟩, .inl ⟨pre++[(k,4)], .inl ⟨(k,4),by simp,by simp⟩,hJ3⟩⟩
        · gi_wp2
          refine bodyPost_ret (results_none rfl _ _ _) rfl ?_
          refine⟨⟨_,rfl⟩, .inr ⟨pre++[(k,4)],⟨pre,(k,4),rfl,fun hne=>?_⟩,hJx3⟩⟩
          simp at hne
          all_goals simp_all
      · obtain⟨fn,tmps,assign,body,hy1,hR⟩:=hyl 0
        rw[hy1]
        gi_wp2
        refine⟨(fun h=>nomatch h),hR.mono ?_⟩
        rintro e3 W3 (⟨rfl,hJ3,hk3⟩|⟨rfl,hJx3⟩)
        · gi_wp2
          refine⟨pre++[(k,0)],_,_,_,_,_,_,_,_,_,_,_,_,_,_,_,_,_,_,_,_,_,_,_,_,_,_,_,_,_,_,_,_,_,rfl,?_,‹∀z:Int,smT (pre++[(k,z)])=RowKit.wrap64 ((m:Int)+k)› 0,by simp;omega,hJ3,⟨?_,?_,?_⟩,?_⟩
          · simp_all
            exact Cme (by assumption) (by omega)
          · exact Nat.le_trans hk.le (Nat.le_trans hk1.gr.le hk3.le)
          · exact hk3.box.trans ((hk1.same _ ‹Bx<W.heap.size› trivial).trans hk.box)
          · exact fun j hj=>(hk3.old j hj).trans ((hk1.same j (Nat.lt_of_lt_of_le hj (Nat.le_trans hn hs)) trivial).trans (hk.old j hj))
          · exact Nat.le_trans hs (Nat.le_trans hk1.gr.le hk3.le)
        · gi_wp2
          refine bodyPost_ret (results_none rfl _ _ _) rfl ?_
          exact⟨⟨_,rfl⟩, .inr ⟨pre++[(k,0)],⟨pre,(k,0),rfl,fun hne=>absurd rfl hne⟩,hJx3⟩⟩
      · obtain⟨fn,tmps,assign,body,hy1,hR⟩:=hyl e
        rw[hy1]
        gi_wp2
        refine⟨(fun h=>nomatch h),hR.mono ?_⟩
        rintro e3 W3 (⟨rfl,hJ3,hk3⟩|⟨rfl,hJx3⟩)
        · gi_wp2
          rename_i hne
          refine bodyPost_ret (results_none rfl _ _ _) rfl ?_
          exact⟨⟨_,rfl⟩, .inl ⟨pre++[(k,e)], .inl ⟨(k,e),by simp,by simpa using hne⟩,hJ3⟩⟩
        · gi_wp2
          refine bodyPost_ret (results_none rfl _ _ _) rfl ?_
          refine⟨⟨_,rfl⟩, .inr ⟨pre++[(k,e)],⟨pre,(k,e),rfl,fun hne=>?_⟩,hJx3⟩⟩
          simp at hne
          all_goals simp_all
  · exact⟨[],0,_,_,_,_,_,_,_,_,_,_,_,_,_,_,_,_,_,_,_,_,_,_,_,_,_,_,_,_,_,_,_,_,rfl,hy,rfl,by simp,h0,⟨Nat.le_refl _,rfl,fun _ _=>rfl⟩,Nat.le_refl _⟩
theorem Cj0(n Bx n₀:Nat)(v:Value)(b:List UInt8)(y:Int×Int)(gl:List (Nat×List Value))
    (hC:ConOk Tryz.prog gl 133 ⟨[.lf (.list (.int .u8)) none],[.lf (.int .i64) none, .lf (.int .i64) none],Vv⟩)
    (w:World) (hbox:w.heap[Bx]? =some (.cells #[v] 27 (0,0))) (hn:n₀≤w.heap.size) (hv:Ap (fun k=>k<n₀) w (.list (.int .u8)) b [v]) (hgl:GlOk gl (fun k=>k<n₀) w) (hy:Qw b=some y):
    SeqStopsK Fence.wide n Tryz.prog 132 #[.pointer (some ⟨Bx,0,none⟩)] (fun x:Int×Int=> #[.int .i64 x.1, .int .i64 x.2]) (KpF n₀ Bx) (fin y) (Cbl y) FUEL w:=by
  intro l J Jx W hW hJ hJx hY h0
  have hlt:=(Array.getElem?_eq_some_iff.1 hbox).1
  have hb:∀k,k<n₀→W.heap[k]? =w.heap[k]? :=fun k hk=>hW.block k (Nat.lt_of_lt_of_le hk hn)
  exact Cfr n l Bx n₀ v b y J Jx gl hC hY W hJ ((hW.block Bx hlt).trans hbox) (Nat.le_trans hn hW.size) (Ap.step (fun _ h=>h) hb hv)
    (fun p hp=>⟨Nat.lt_of_lt_of_le (hgl p hp).1 hW.size,(hgl p hp).2.1,by rw[hb _ (hgl p hp).2.1];exact(hgl p hp).2.2⟩) h0 hy
theorem Avu{w W:World}{a:Addr}{v:Value}(h:KeepN (fun _=>True) w W)(ha:w.heap.size≤a.block):KeepN (fun _=>True) w (W.setCell a v):=by
  have hb:=(Below.refl w.heap.size W).setCell (p:=a) ha v
  exact⟨fun b hb' _=>(hb.block b hb').trans (h.same b hb' trivial),h.gr.trans ⟨hb.size,hb.os,hb.tape,hb.output⟩⟩
theorem heap_set{W:World}{a:Addr}{v:Value}{k:Nat}(h:k≠a.block):(W.setCell a v).heap[k]? =W.heap[k]? :=
  ((Below.refl (k+1) {W with heap:=W.heap}).block k (by omega)▸(by
    show(W.heap.modify a.block _)[k]? =W.heap[k]?
    rw[Array.getElem?_modify,if_neg (Ne.symm h)]))
theorem Bt0{W:World}{B:Nat}{v:Value}{t:TypeId}(h:W.heap[B]? =some (.cells #[v] t (0,0))):W.cell? ⟨B,0,none⟩=some v∧W.frozen? ⟨B,0,none⟩=false:=by
  constructor<;>simp[World.cell?,World.frozen?,h]
theorem Ba9(W:World)(v:Value)(t:TypeId):(W.alloc (.cells #[v] t)).cell? ⟨W.heap.size,0,none⟩=some v∧(W.alloc (.cells #[v] t)).frozen? ⟨W.heap.size,0,none⟩=false:=Bt0 (World.alloc_heap_new W _)
theorem Ji{W:World}{a:Addr}{v:Value}(o:Obj)(h:W.cell? a=some v):(W.alloc o).cell? a=some v:=cell_kept h (World.grownBy_alloc W o none) (fun r e=>by cases e)
theorem Qn{W:World}{a:Addr}{v:Value}(o:Obj)(h:W.cell? a=some v)(hf:W.frozen? a=false):(W.alloc o).frozen? a=false:=(frozen_kept h (World.grownBy_alloc W o none) (fun r e=>by cases e)).trans hf
theorem Tryz.Cmw:Tryz.f95.ntmps=4:=by kernel_rfl
theorem Tryz.Cm4:Tryz.f46.ntmps=18:=by kernel_rfl
set_option maxHeartbeats 1000000 in
set_option maxRecDepth 100000 in
theorem Cg9(n:Nat)(p:Option Addr)(len cap:Nat)(w:World):
    CallsIn Fence.wide n Tryz.prog 95 #[.slice p len cap] w fun e w'=>e= .returned (.func (.func 132) #[] #[.pointer (some ⟨w.heap.size,0,none⟩)])∧w'=w.alloc (.cells #[.slice p len cap] 27):=by
  refine callsIn_of_wp Tryz.func95 rfl trivial ?_ rfl
  simp only[Tryz.Cmw,List.size_toArray,List.length_cons,List.length_nil,Nat.reduceAdd,Nat.reduceSub,Array.replicate_succ,Array.replicate_zero,List.push_toArray,List.append_toArray,List.nil_append,List.cons_append]
  gi_wp2
  go_ret
  exact⟨rfl,rfl⟩
set_option maxHeartbeats 1000000 in
set_option maxRecDepth 100000 in
theorem Cfi(n:Nat)(h1:3≤n)(p:Option Addr)(len cap:Nat)(b:List UInt8)(y:Int×Int)(gl:List (Nat×List Value))
    (hC:ConOk Tryz.prog gl 133 ⟨[.lf (.list (.int .u8)) none],[.lf (.int .i64) none, .lf (.int .i64) none],Vv⟩)
    (w:World) (hv:Ap (fun k=>k<w.heap.size) w (.list (.int .u8)) b [.slice p len cap]) (hgl:GlOk gl (fun k=>k<w.heap.size) w) (hy:Qw b=some y):
    CallsIn Fence.wide n Tryz.prog 46 #[.slice p len cap] w fun e w'=>e= .returned (.tuple #[.int .i64 y.1, .int .i64 y.2])∧KeepN (fun _=>True) w w':=by
  refine callsIn_of_wp_marks Tryz.func46 rfl trivial ?_ rfl
  simp only[Tryz.Cm4,List.size_toArray,List.length_cons,List.length_nil,Nat.reduceAdd,Nat.reduceSub,Array.replicate_succ,Array.replicate_zero,List.push_toArray,List.append_toArray,List.nil_append,List.cons_append]
  gi_wp2
  refine⟨trivial,(fun h=>nomatch h),(Cg9 (n-1) _ _ _ _).mono ?_⟩
  rintro e w' ⟨rfl,rfl⟩
  gi_wp2
  refine wpIn_rangeFunc_ownG (Kp:=KpF w.heap.size (w.heap.size+1+1+1)) rfl (by omega) (gf:=132) (lb:= #[.pointer (some ⟨w.heap.size+1+1+1,0,none⟩)]) rfl trivial (enters_of Tryz.func132 (by kernel_rfl) rfl)
    (Cj0 (n-1) (w.heap.size+1+1+1) w.heap.size (.slice p len cap) b y gl hC _ ?hbox ?hn ?hv ?hgl hy)
    (fun h k=>⟨Nat.le_trans h.le k.le,k.box.trans h.box,fun j hj=>(k.old j hj).trans (h.old j hj)⟩) ?hKb (Below.refl _ _) (fun _=>rfl)
    (fun pre W=>(∀x∈pre,x.2=0)∧(W.cell? ⟨w.heap.size+1+1,0,none⟩=some (.int .i64 (smT pre))∧W.frozen? ⟨w.heap.size+1+1,0,none⟩=false)∧
      (∃v,W.cell? ⟨w.heap.size,0,none⟩=some v∧W.frozen? ⟨w.heap.size,0,none⟩=false)∧(∃v,W.cell? ⟨w.heap.size+1,0,none⟩=some v∧W.frozen? ⟨w.heap.size+1,0,none⟩=false)∧KeepN (fun _=>True) w W)
    (fun c pre W=>c= .ret∧(∃pre0 x,pre=pre0++[x]∧x.2≠0∧W.cell? ⟨w.heap.size,0,none⟩=some (.int .i64 0)∧W.cell? ⟨w.heap.size+1,0,none⟩=some (.int .i64 x.2))∧KeepN (fun _=>True) w W)
    ?hI ?hIx ?h0
    (fun x=>{tmps:= #[.slice p len cap,undef, .pointer (some ⟨w.heap.size,0,none⟩), .pointer (some ⟨w.heap.size+1,0,none⟩), .pointer (some ⟨w.heap.size+1+1,0,none⟩), .int .i64 x.1, .int .i64 x.2, .slice p len cap, .func (.func 132) #[] #[.pointer (some ⟨w.heap.size+1+1+1,0,none⟩)], .int .i64 x.1, .int .i64 x.2,undef,undef,undef,undef,undef,undef,undef],defers:=[]}) ?assign ?body ?done ?stop
  case assign=>
    intro l x W K hK
    gi_wp2
    exact hK
  case body=>
    rintro l pre x W ⟨hz,⟨hc,hf⟩,⟨v2,hc2,hf2⟩,⟨v3,hc3,hf3⟩,hk⟩ _
    gi_wp2
    · rename_i hx
      refine⟨(KeepsOthers.trans (KeepsOthers.setCell _ _ _) (KeepsOthers.setCell _ _ _)).from _,rfl,⟨pre,x,rfl,by simpa using hx,?_,?_⟩,Avu (Avu hk (Nat.le_refl _)) (Nat.le_succ _)⟩
      · refine(World.cell?_setCell_other _ _ _ _ (by simp)).trans ?_
        exact World.cell?_setCell_same' _ _ _ (by rw[hc2];rfl)
      · refine World.cell?_setCell_same' _ _ _ ?_
        rw[World.cell?_setCell_other W ⟨w.heap.size,0,none⟩ ⟨w.heap.size+1,0,none⟩ _ (by simp),hc3];rfl
    · rename_i hx
      have hx0:x.2=0:=by simpa using hx
      refine⟨(KeepsOthers.setCell _ _ _).from _,⟨((Below.refl 0 W).setCell (p:=⟨w.heap.size+1+1,0,none⟩) (Nat.zero_le _) _).size,heap_set (by simp),fun k hk'=>heap_set (by simp;omega)⟩,?_,⟨?_,by rw[World.frozen?_setCell];exact hf⟩,⟨v2,?_,by rw[World.frozen?_setCell];exact hf2⟩,⟨v3,?_,by rw[World.frozen?_setCell];exact hf3⟩,Avu hk (by simp;omega)⟩
      · intro z hz'
        rcases List.mem_append.1 hz' with h|h
        · exact hz z h
        · simp at h;subst h;exact hx0
      · have e:smT (pre++[x])=RowKit.wrap64 (smT pre+x.1):=by
          simp only[smT,List.foldl_append,List.foldl_cons,List.foldl_nil,Ad,GI.ofZ,GI.toZ,Go.Lv.wrap64,RowKit.wrap64]
          exact IntKind.wrap_i64 _
        rw[e]
        exact World.cell?_setCell_same' _ _ _ (by rw[hc];rfl)
      · exact(World.cell?_setCell_other _ _ _ _ (by simp;try omega)).trans hc2
      · exact(World.cell?_setCell_other _ _ _ _ (by simp)).trans hc3
  case done=>
    rintro D xs W hD hS ⟨hz,⟨hc,hf⟩,⟨v2,hc2,hf2⟩,⟨v3,hc3,hf3⟩,hk⟩ hK
    gi_wp2
    have hy':y=(smT xs,0):=hS.elim (fun⟨x,hx,hne⟩=>absurd (hz x hx) hne) id
    have hlen:w.heap.size+4≤D:=by simp only[World.size_alloc]at hD;omega
    have hK':=((KeepsOthers.setCell W ⟨w.heap.size,0,none⟩ (.int .i64 (smT xs))).trans (KeepsOthers.setCell _ ⟨w.heap.size+1,0,none⟩ (.int .i64 0))).same D _ hK rfl
    have hk2:=Avu (v:= .int .i64 0) (a:=⟨w.heap.size+1,0,none⟩) (Avu (v:= .int .i64 (smT xs)) (a:=⟨w.heap.size,0,none⟩) hk (Nat.le_refl _)) (Nat.le_succ _)
    have d0:((W.setCell ⟨w.heap.size,0,none⟩ (.int .i64 (smT xs))).setCell ⟨w.heap.size+1,0,none⟩ (.int .i64 0)).cell? ⟨w.heap.size,0,none⟩=some (.int .i64 (smT xs)):=
      (World.cell?_setCell_other _ _ _ _ (by simp)).trans (World.cell?_setCell_same' _ _ _ (by rw[hc2];rfl))
    have d1:((W.setCell ⟨w.heap.size,0,none⟩ (.int .i64 (smT xs))).setCell ⟨w.heap.size+1,0,none⟩ (.int .i64 0)).cell? ⟨w.heap.size+1,0,none⟩=some (.int .i64 0):=
      World.cell?_setCell_same' _ _ _ (by rw[World.cell?_setCell_other W ⟨w.heap.size,0,none⟩ ⟨w.heap.size+1,0,none⟩ _ (by simp),hc3];rfl)
    refine⟨by simp, .inl ⟨_,_,rfl,run_takeDeferred hK',?_⟩⟩
    have hg:=grownBy_putObj' ((W.setCell ⟨w.heap.size,0,none⟩ (.int .i64 (smT xs))).setCell ⟨w.heap.size+1,0,none⟩ (.int .i64 0)) D (.deferred none)
    have hr':∀r,some D=some r→∃o:Obj,((W.setCell ⟨w.heap.size,0,none⟩ (.int .i64 (smT xs))).setCell ⟨w.heap.size+1,0,none⟩ (.int .i64 0)).heap[r]? =some o∧o.isCells=false:=fun r e=>by cases e;exact⟨_,hK',rfl⟩
    have hc5:=cell_kept d0 hg hr'
    have hc6:=cell_kept d1 hg hr'
    refine⟨.tuple #[.int .i64 (smT xs), .int .i64 0],?_,by rw[hy'],?_⟩
    · simp[results,Tryz.f46,go_sem,hc5,hc6]
    · refine⟨fun b hb _=>(hg.block b (Nat.lt_of_lt_of_le hb hk2.gr.le) (fun e=>?_)).trans (hk2.same b hb trivial),hk2.gr.trans ⟨hg.size,hg.os,hg.tape,hg.output⟩⟩
      cases e;omega
  case stop=>
    rintro D c pre W hD hS ⟨rfl,⟨pre0,x,rfl,hx,hc2,hc3⟩,hk⟩ hK
    gi_wp2
    obtain⟨p1,x1,he,hy1⟩:=hS
    have hy':y=(0,x.2):=by
      have:=List.append_inj' he rfl
      cases this.2
      exact hy1 hx
    have hlen:w.heap.size+4≤D:=by simp only[World.size_alloc]at hD;omega
    refine⟨by simp, .inl ⟨_,_,rfl,run_takeDeferred hK,?_⟩⟩
    have hg:=grownBy_putObj' W D (.deferred none)
    have hr':∀r,some D=some r→∃o:Obj,W.heap[r]? =some o∧o.isCells=false:=fun r e=>by cases e;exact⟨_,hK,rfl⟩
    have hc5:=cell_kept hc2 hg hr'
    have hc6:=cell_kept hc3 hg hr'
    refine⟨.tuple #[.int .i64 0, .int .i64 x.2],?_,by rw[hy'],?_⟩
    · simp[results,Tryz.f46,go_sem,hc5,hc6]
    · refine⟨fun b hb _=>(hg.block b (Nat.lt_of_lt_of_le hb hk.gr.le) (fun e=>?_)).trans (hk.same b hb trivial),hk.gr.trans ⟨hg.size,hg.os,hg.tape,hg.output⟩⟩
      cases e;omega
  case hbox=>
    have h:=World.alloc_heap_new (((w.alloc (.cells #[.int .i64 0] 3)).alloc (.cells #[.int .i64 0] 28)).alloc (.cells #[.int .i64 0] 3)) (.cells #[.slice p len cap] 27)
    simp only[World.size_alloc]at h
    exact h
  case hn=>simp;omega
  case hI=>
    rintro s A B row ⟨hz,⟨hc,hf⟩,⟨v2,hc2,hf2⟩,⟨v3,hc3,hf3⟩,hk⟩ hg hr
    have hr':∀r,row=some r→∃o:Obj,A.heap[r]? =some o∧o.isCells=false:=fun r e=>(hr r e).2
    refine⟨hz,⟨cell_kept hc hg hr',(frozen_kept hc hg hr').trans hf⟩,⟨v2,cell_kept hc2 hg hr',(frozen_kept hc2 hg hr').trans hf2⟩,⟨v3,cell_kept hc3 hg hr',(frozen_kept hc3 hg hr').trans hf3⟩,?_⟩
    refine⟨fun b hb _=>(hg.block b (Nat.lt_of_lt_of_le hb hk.gr.le) (fun e=>?_)).trans (hk.same b hb trivial),hk.gr.trans ⟨hg.size,hg.os,hg.tape,hg.output⟩⟩
    have:=(hr b e.symm).1
    simp at this
    omega
  case hIx=>
    rintro c s A B row ⟨hc,⟨pre0,x,hs,hx,hc2,hc3⟩,hk⟩ hg hr
    have hr':∀r,row=some r→∃o:Obj,A.heap[r]? =some o∧o.isCells=false:=fun r e=>(hr r e).2
    refine⟨hc,⟨pre0,x,hs,hx,cell_kept hc2 hg hr',cell_kept hc3 hg hr'⟩,?_⟩
    refine⟨fun b hb _=>(hg.block b (Nat.lt_of_lt_of_le hb hk.gr.le) (fun e=>?_)).trans (hk.same b hb trivial),hk.gr.trans ⟨hg.size,hg.os,hg.tape,hg.output⟩⟩
    have:=(hr b e.symm).1
    simp at this
    omega
  case hKb=>
    intro W l o o' hl h _ _
    have hlt:=(Array.getElem?_eq_some_iff.1 h).1
    simp at hl
    have hg:=grownBy_putObj' W l o'
    exact⟨hg.size,hg.block _ (by omega) (fun e=>by cases e;omega),fun k hk=>hg.block k (by omega) (fun e=>by cases e;omega)⟩
  case hgl=>
    intro q hq
    refine⟨by simp;have:=(hgl q hq).1;omega,(hgl q hq).2.1,?_⟩
    have hb:=((((Below.refl w.heap.size w).alloc (Nat.le_refl _) (.cells #[.int .i64 0] 3)).alloc (by simp) (.cells #[.int .i64 0] 28)).alloc (by simp;omega) (.cells #[.int .i64 0] 3)).alloc (by simp;omega) (.cells #[.slice p len cap] 27)
    rw[hb.block _ (hgl q hq).1]
    exact(hgl q hq).2.2
  case hv=>
    have hb:=((((Below.refl w.heap.size w).alloc (Nat.le_refl _) (.cells #[.int .i64 0] 3)).alloc (by simp) (.cells #[.int .i64 0] 28)).alloc (by simp;omega) (.cells #[.int .i64 0] 3)).alloc (by simp;omega) (.cells #[.slice p len cap] 27)
    exact Ap.step (fun _ h=>h) (fun k hk=>hb.block k hk) hv
  case h0=>
    have c0:=Ba9 w (.int .i64 0) 3
    have c1:=Ba9 (w.alloc (.cells #[.int .i64 0] 3)) (.int .i64 0) 28
    have c2:=Ba9 ((w.alloc (.cells #[.int .i64 0] 3)).alloc (.cells #[.int .i64 0] 28)) (.int .i64 0) 3
    simp only[World.size_alloc]at c1 c2
    have hb:=((((Below.refl w.heap.size w).alloc (Nat.le_refl _) (.cells #[.int .i64 0] 3)).alloc (by simp) (.cells #[.int .i64 0] 28)).alloc (by simp;omega) (.cells #[.int .i64 0] 3)).alloc (by simp;omega) (.cells #[.slice p len cap] 27)
    exact⟨by simp,⟨Ji _ c2.1,Qn _ c2.1 c2.2⟩,⟨_,Ji _ (Ji _ (Ji _ c0.1)),Qn _ (Ji _ (Ji _ c0.1)) (Qn _ (Ji _ c0.1) (Qn _ c0.1 c0.2))⟩,
      ⟨_,Ji _ (Ji _ c1.1),Qn _ (Ji _ c1.1) (Qn _ c1.1 c1.2)⟩,⟨fun b hb' _=>hb.block b hb',⟨hb.size,hb.os,hb.tape,hb.output⟩⟩⟩
def Yh:Con:=⟨[.lf (.list (.int .u8)) none],[.lf (.int .i64) none, .lf (.int .i64) none],fun x=>Qw x⟩
theorem Bib{gl:List (Nat×List Value)}(hE:Ent Tryz.prog 46)(hC:ConOk Tryz.prog gl 133 ⟨[.lf (.list (.int .u8)) none],[.lf (.int .i64) none, .lf (.int .i64) none],Vv⟩):ConOk Tryz.prog gl 46 Yh:=by
  refine⟨hE,?_⟩
  intro R N w L0 vs ps x y hargs hlen hit hmob hvs hgl hy
  obtain rfl:=Option.some.inj (show some [PV.val (.list (.int .u8)) x]=some ps from hargs)
  obtain⟨v,_,rfl,h1,rfl⟩:=hvs
  have h2:Ap (fun b=>R b∧N b) w (.list (.int .u8)) x [v]:=h1
  have h3:=Ap.step (B':=fun k=>k<w.heap.size) (fun _ h=>h.1) (fun _ _=>rfl) (Zi h2)
  obtain⟨p,len,cap,rfl⟩:∃p len cap,v= .slice p len cap:=by
    obtain⟨v1,c0,e1,⟨p,len,cap,rfl,_⟩,_⟩:=h2
    cases e1
    exact⟨_,_,_,rfl⟩
  refine(callsIn_wide.1 (Cfi 3 (Nat.le_refl _) p len cap x y gl hC w h3 (fun q hq=>⟨(hgl q hq).1,(hgl q hq).1,(hgl q hq).2.2⟩) hy)).mono ?_
  rintro e w' ⟨rfl,hk⟩
  refine⟨[.int .i64 y.1, .int .i64 y.2],rfl,⟨fun b hb _=>hk.same b hb trivial,hk.gr⟩,fun _=>False,[],fun _ h=>h.elim,?_,?_⟩
  · trivial
  · intro s L B' hl _ _
    refine⟨[.val (.int .i64) y.1, .val (.int .i64) y.2],[],(show s=⟨s.sl,s.it++[],s.st⟩ by simp),rfl,?_,rfl,fun i a m h=>by simp at h⟩
    exact⟨_,_,rfl,rfl,_,_,rfl,rfl,rfl⟩
end Go.Proofs.YtidigmkmfmopgaaGreatDoor
