/- A part of a proof (see the text that ends in Proof). No conditions. -/
import Derived.Test.YtnckeeijjkphaaaGreatDoorVcPA
import Derived.Test.YtnckeeijjkphaaaGreatDoorProg
import Derived.KernelRfl
import Derived.RangeFuncKeeps
import Derived.RangeFuncWrites
import Derived.Shelf.Abstract
import Derived.Test.YtnckeeijjkphaaaGreatDoorVcRA
set_option linter.unusedVariables false
set_option linter.unusedSimpArgs false
namespace Go.Proofs.YtnckeeijjkphaaaGreatDoor
open Go.RowKit Go.Shelf Go Go.Rx Go.Lv Go.Pl
attribute [local go_sem] Oper.semAt_some
noncomputable def xO:Con:=⟨[.lf (.int .i64) none, .lf (.int .i64) none],[.lf (.list (.int .i64)) (some 3), .lf (.int .i64) none],λx=>Uj x.1 x.2⟩
noncomputable def Uq(gl:List (Nat×List Value)):Tab:=⟨[(80,xO)],gl,false⟩
noncomputable abbrev GY{R:Type}(gl:List (Nat×List Value)):sZ R:=GM Tryz.prog (Uq gl) 8 []
noncomputable def Anq:Code:=fB Tryz.f79
noncomputable def Ag2:Code:=cB Anq
noncomputable def Aez:Code:=cB Ag2
noncomputable def R8:Code:=cA (cA (cB Aez))
noncomputable def Agp:Code:=cB (cB R8)
noncomputable def Y0:Code:=cA (cA Agp)
noncomputable def B2:Code:=cB (cB Y0)
noncomputable def Aee:Code:=cA Anq
noncomputable def Af1:Code:=cA Ag2
noncomputable def Aed:Code:=cA Aez
noncomputable def Ago:Code:=cA R8
noncomputable def Aer:Code:=cA (cB R8)
noncomputable def Aem:Code:=cB Agp
noncomputable def Agz:Code:=cA Y0
noncomputable def Afi:Code:=cA (cB Y0)
noncomputable def Agg:Code:=cB B2
noncomputable def Z3:List Oper:=cO (cA (cA B2))
noncomputable def Z0:Code:=cB (cA B2)
noncomputable def pZ:List Oper:=Z3.take 6
noncomputable def aK:Oper:=oAt Z3 6
noncomputable def jR:Oper:=oAt Z3 7
theorem Ait:Tryz.f79.body=some (.seq Aee (.seq Af1 (.seq Aed (.block 0 (.loop (.seq Ago (.seq Aer (.seq (.block 1 (.seq Agz (.seq Afi (.seq (.seq (.region 6 (pZ++aK::[jR]).toArray false) Z0) Agg)))) Aem)))))))):=by kernel_rfl
theorem Arr:Tryz.f79.ntmps=43:=by kernel_rfl
theorem Alw:aK.guard=none:=by kernel_rfl
theorem Ana:aK.dst=some 39:=by kernel_rfl
theorem qy:aK.op= .call ⟨.value (.tmp 33), #[.tmp 38], #[22]⟩:=by kernel_rfl
abbrev Jf(a f h:Int)(b:LX):PV:= .agg [vi a,vi f,vi h,vw b]
abbrev OT(y:Value)(v:PV)(ls:LI)(i x:Int):Slots:=[(0, .cst y),(1, .rptr v),(5,vi x),(21,vl ls),(22,vi (Ac ls)),(23,vi i)]
abbrev VD(lv:List Nat):K (Nat×S):=kC lv []
abbrev Fu(l:Nat):Value:= .func (.yield l) #[] #[]
theorem Apc(gl:List (Nat×List Value))(l:Nat)(a f h:Int)(b:LX):ex Tryz.prog (Uq gl) (GY gl) 43 Aee .d (kC [0,1,3] [⟨3,[], .ro (.int .i64)⟩]) ⟨[(0, .cst (Fu l)),(1, .rptr (Jf a f h b))],[],[]⟩=
    Option.bind (Ik (Bm a 0)) λ_=>Option.bind (Uj h (Bz (Ac b) a)) λp=>some (0,⟨[(0, .cst (Fu l)),(1, .rptr (Jf a f h b)),(3,vl p.1)],[],[]⟩):=by kernel_rfl
theorem Aqn(gl:List (Nat×List Value))(l:Nat)(v:PV)(ls:LI):ex Tryz.prog (Uq gl) (GY gl) 43 Af1 .d (VD [0,1,3,5]) ⟨[(0, .cst (Fu l)),(1, .rptr v),(3,vl ls)],[],[]⟩=some (0,⟨[(0, .cst (Fu l)),(1, .rptr (E6 [] v)),(3,vl ls),(5,vi 0)],[],[]⟩):=by kernel_rfl
theorem Aq5(gl:List (Nat×List Value))(l:Nat)(a f h:Int)(b:LX)(ls:LI):ex Tryz.prog (Uq gl) (GY gl) 43 Aed .d (VD [0,1,5,21,22,23]) ⟨[(0, .cst (Fu l)),(1, .rptr (Jf a f h b)),(3,vl ls),(5,vi 0)],[],[]⟩=
    some (0,⟨OT (Fu l) (Jf a f h b) ls 0 0,[],[]⟩):=by kernel_rfl
theorem Ao7(gl:List (Nat×List Value))(l:Nat)(a f h:Int)(b:LX)(ls:LI)(i x:Int):ex Tryz.prog (Uq gl) (GY gl) 43 Ago .d (VD [0,1,5,21,22,23,24]) ⟨OT (Fu l) (Jf a f h b) ls i x,[],[]⟩=
    some (0,⟨OT (Fu l) (Jf a f h b) ls i x++[(24,vt (Cc i (Ac ls)))],[],[]⟩):=by kernel_rfl
theorem Af9(gl:List (Nat×List Value))(l:Nat)(a f h:Int)(b:LX)(ls:LI)(i x:Int)(t:Bool):ex Tryz.prog (Uq gl) (GY gl) 43 Aer .d (VD [0,1,5,21,22,23]) ⟨OT (Fu l) (Jf a f h b) ls i x++[(24,vt t)],[],[]⟩=
    if t=true then some (0,⟨OT (Fu l) (Jf a f h b) ls i x,[],[]⟩)else some (2,⟨OT (Fu l) (Jf a f h b) ls i x,[],[]⟩):=by kernel_rfl
theorem Aqa(gl:List (Nat×List Value))(l:Nat)(a f h:Int)(b:LX)(ls:LI)(i x:Int):ex Tryz.prog (Uq gl) (GY gl) 43 Agz .d (VD [0,1,5,7,21,22,23]) ⟨OT (Fu l) (Jf a f h b) ls i x,[],[]⟩=
    Option.bind (Aj ls i) λn=>some (0,⟨[(0, .cst (Fu l)),(1, .rptr (Jf a f h b)),(5,vi x),(7,vi n),(21,vl ls),(22,vi (Ac ls)),(23,vi i)],[],[]⟩):=by kernel_rfl
theorem Arc(gl:List (Nat×List Value))(l:Nat)(a f h:Int)(b:LX)(ls:LI)(i x n:Int):ex Tryz.prog (Uq gl) (GY gl) 43 Afi .d (VD [0,1,5,8,21,22,23]) ⟨[(0, .cst (Fu l)),(1, .rptr (Jf a f h b)),(5,vi x),(7,vi n),(21,vl ls),(22,vi (Ac ls)),(23,vi i)],[],[]⟩=
    some (0,⟨[(0, .cst (Fu l)),(1, .rptr (Jf a f h b)),(5,vi x),(8,vi (Ae x (Bd n a))),(21,vl ls),(22,vi (Ac ls)),(23,vi i)],[],[]⟩):=by kernel_rfl
abbrev Agy(y:Value)(v:PV)(ls:LI)(i x z:Int)(p:LX):Slots:=[(0, .cst y),(1, .rptr v),(5,vi x),(8,vi z),(21,vl ls),(22,vi (Ac ls)),(23,vi i),(33, .cst y),(38,vw p)]
theorem Ari(gl:List (Nat×List Value))(l:Nat)(a f h:Int)(b:LX)(ls:LI)(i x z:Int):lO Tryz.prog (Uq gl) (GY gl) 43 (pZ++aK::[jR]).toArray pZ ⟨[(0, .cst (Fu l)),(1, .rptr (Jf a f h b)),(5,vi x),(8,vi z),(21,vl ls),(22,vi (Ac ls)),(23,vi i)],[],[]⟩ (cnP [0,1,5,8,21,22,23,33,38] [] 0)=
    Option.bind (Bw b x z) λp=>some (0,⟨Agy (Fu l) (Jf a f h b) ls i x z p,[],[]⟩):=by kernel_rfl
theorem Ard(gl:List (Nat×List Value))(l:Nat)(a f h:Int)(b:LX)(ls:LI)(i x z:Int)(p:LX)(t:Bool):lO Tryz.prog (Uq gl) (GY gl) 43 (pZ++aK::[jR]).toArray [jR] ⟨Aia (Agy (Fu l) (Jf a f h b) ls i x z p) 39 (vt t),[],[]⟩ (cnP [0,1,5,8,21,22,23,40] [] 0)=
    some (0,⟨[(0, .cst (Fu l)),(1, .rptr (Jf a f h b)),(5,vi x),(8,vi z),(21,vl ls),(22,vi (Ac ls)),(23,vi i),(40,vt (!t))],[],[]⟩):=by kernel_rfl
theorem Aps(gl:List (Nat×List Value))(l:Nat)(a f h:Int)(b:LX)(ls:LI)(i x z:Int)(t:Bool):ex Tryz.prog (Uq gl) (GY gl) 43 Z0 .d (VD [0,1,5,8,21,22,23]) ⟨[(0, .cst (Fu l)),(1, .rptr (Jf a f h b)),(5,vi x),(8,vi z),(21,vl ls),(22,vi (Ac ls)),(23,vi i),(40,vt t)],[],[]⟩=
    if t=true then some (1,⟨[(0, .cst (Fu l)),(1, .rptr (Jf a f h b)),(5,vi x),(8,vi z),(21,vl ls),(22,vi (Ac ls)),(23,vi i)],[],[]⟩)else some (0,⟨[(0, .cst (Fu l)),(1, .rptr (Jf a f h b)),(5,vi x),(8,vi z),(21,vl ls),(22,vi (Ac ls)),(23,vi i)],[],[]⟩):=by kernel_rfl
theorem Apl(gl:List (Nat×List Value))(l:Nat)(a f h:Int)(b:LX)(ls:LI)(i x z:Int):ex Tryz.prog (Uq gl) (GY gl) 43 Agg .d (VD [0,1,5,21,22,23]) ⟨[(0, .cst (Fu l)),(1, .rptr (Jf a f h b)),(5,vi x),(8,vi z),(21,vl ls),(22,vi (Ac ls)),(23,vi i)],[],[]⟩=
    some (0,⟨OT (Fu l) (Jf a f h b) ls i z,[],[]⟩):=by kernel_rfl
theorem Ar0(gl:List (Nat×List Value))(l:Nat)(a f h:Int)(b:LX)(ls:LI)(i x:Int):ex Tryz.prog (Uq gl) (GY gl) 43 Aem .d (VD [0,1,5,21,22,23]) ⟨OT (Fu l) (Jf a f h b) ls i x,[],[]⟩=
    some (0,⟨OT (Fu l) (Jf a f h b) ls (Ae i 1) x,[],[]⟩):=by kernel_rfl
theorem Am1:lO Tryz.prog ⟨[],[],false⟩ (GM Tryz.prog ⟨[],[],false⟩ 8 []) 43 (pZ++aK::[jR]).toArray [jR] ⟨[(39,vt false)],[],[]⟩ (cnP [40] [] 0)=some (0,⟨[(40,vt true)],[],[]⟩):=by kernel_rfl
theorem Alo:ex Tryz.prog ⟨[],[],false⟩ (GM Tryz.prog ⟨[],[],false⟩ 8 []) 43 Z0 .d (VD []) ⟨[(40,vt true)],[],[]⟩=some (1,⟨[],[],[]⟩):=by kernel_rfl
theorem Alg{i:Nat}(h:i<17179869184):Ae (i:Int) 1=((i+1:Nat):Int):=by
  rw[show Ae (i:Int) 1=Go.Lv.wrap64 ((i:Int)+1)from rfl,Go.Lv.Bp (by omega) (by omega)];omega
def zZ:PV->Option (List LX)
  | .agg [.val (.int .i64) a, .val (.int .i64) _, .val (.int .i64) h, .val (.list (.int .i32)) b]=>RG a h b
  |_=>none
theorem Acz{v:PV}{xs:List LX}(h:zZ v=some xs):∃a f r b,v=Jf a f r b/\RG a r b=some xs:=by
  unfold zZ at h;split at h
  · exact⟨_,_,_,_,rfl,h⟩
  · cases h
theorem cL{a:Int}{b:LX}{n:Int}{l:LI}{x:Int}{ps:List LX}(h:Oj a b (n::l) x=some ps):∃p r,Bw b x (Ae x (Bd n a))=some p/\Oj a b l (Ae x (Bd n a))=some r/\ps=p::r:=by
  simp only[Oj]at h;obtain⟨p,h1,h⟩:=Go.Lv.bind_some h;obtain⟨r,h2,h⟩:=Go.Lv.bind_some h;cases h;exact⟨p,r,h1,h2,rfl⟩
theorem iB{a:Int}{b:LX}:∀{l:LI} {x:Int} {ps:List LX},Oj a b l x=some ps->ps.length=l.length
  |[],x,ps,h=>by simp only[Oj,Option.some.injEq]at h;subst h;rfl
  |n::l,x,ps,h=>by
    obtain⟨p,r,_,h2,rfl⟩:=cL h;simp[iB h2]
theorem Aju{gl:List (Nat×List Value)}(hC:ConOk Tryz.prog gl 80 xO)(hE:Ent Tryz.prog 79):ItOk Tryz.prog gl 79 ⟨24, .list (.int .i32),zZ⟩:=by
  refine⟨hE,λm B w b v cells xs hB hb hcell henc hgl hF=>?_⟩;have hF:zZ v=some xs:=hF;obtain⟨a,f,h,s,rfl,hF⟩:=Acz hF;have hM:Tryz.prog.follows .mixedOrders=true:=by kernel_rfl
  have hT:FA Tryz.prog (Uq gl):= .cons hC .nil;have hI:∀{R:Type},EX (R:=R) Tryz.prog (Uq gl).gl (GY gl):=pA hM hT Fa.nil 8;unfold RG at hF;obtain⟨u0,hok,hF⟩:=Go.Lv.bind_some hF;obtain⟨p0,hall,hF⟩:=Go.Lv.bind_some hF;obtain⟨u1,hlim,hF⟩:=Go.Lv.bind_some hF;have hlim:p0.1.length<=17179869184:=by
    unfold Ik at hlim;split at hlim
    · rename_i h;have h':=of_decide_eq_true h;unfold Ac at h';omega
    · cases hlim
  have hlen:=iB hF;intro l J Jx W hk hJ hJx hY h0;refine callsIn_of_wp_marks Tryz.func79 Ait trivial ?_ rfl;have hGr:∀i V X Y,J i V X->KeepN (λ_=>True) X Y->J i (grown V X Y) Y:=λi V X Y h k=>hJ i V X Y h k;have hbW:W.heap[b]? =some (.cells cells.toArray 24 (0,0)):=(hk.same b (hB b hb) trivial).trans hcell;have hm0:MemI gl B W ⟨[(0, .cst (Fu l)),(1, .rptr (Jf a f h s))],[],[]⟩ (lL [Fu l, .pointer (some ⟨b,0,none⟩)]):=by
    refine⟨λk hk'=>Nat.lt_of_lt_of_le (hB k hk') hk.gr.le,rfl,rfl,λp hp=>?_,hgl.keep (λ_ h=>h) (λk hk'=>hk.same k (hB k hk') trivial) hk.gr⟩;rcases List.mem_cons.1 hp with rfl|hp
    · exact(show _/\ _ from⟨rfl,rfl⟩)
    rcases List.mem_cons.1 hp with rfl|hp
    · exact⟨_,cells,rfl,⟨b,0,cells.toArray,_,_,rfl,hb,hbW,λi _=>by simp⟩,Ba.step (λ_ h=>h) (λk hk'=>hk.same k (hB k hk') trivial) (.refl []) henc⟩
    · cases hp
  have ha0:=zB (fn:=Tryz.f79) (vs:=[Fu l, .pointer (some ⟨b,0,none⟩)]) (by kernel_rfl);have e0:(#[Value.func (.yield l) #[] #[]]++ #[Value.pointer (some ⟨b,0,none⟩)]:Array Value)=[Fu l, .pointer (some ⟨b,0,none⟩)].toArray:=by simp
  rw[e0]
  revert ha0
  generalize({tmps:=_,defers:=[]}:Act)=Ba0;rw[Arr];intro ha0;refine nN hM hT hI (J:=J 0) (hGr 0) .d [0,1,3] [⟨3,[], .ro (.int .i64)⟩] ((Apc gl l a f h s).trans (by rw[hok,hall];rfl)) rfl hm0 h0 ha0 λσ1 V1 w1 a1 f1 j1 m1=>?_;refine nN hM hT hI (J:=J 0) (hGr 0) .d [0,1,3,5] [] (Aqn gl l _ p0.1) rfl m1 j1 f1 λσ2 V2 w2 a2 f2 j2 m2=>?_;refine nN hM hT hI (J:=J 0) (hGr 0) .d [0,1,5,21,22,23] [] (Aq5 gl l a f h s p0.1) rfl m2 j2 f2 λσ3 V3 w3 a3 f3 j3 m3=>?_;have fin:∀{σ:Env} {a':Act} {w':World},Fits [] 43 a' σ-> ((∃V,J xs.length V w')\/Jx w')->LeavesInM (wr none) m Tryz.prog Tryz.f79 a'.tmps (λe W'=>(∃v,e= .returned v)/\ ((∃V,J xs.length V W')\/Jx W')) a'.defers .returning w':=by
    intro σ a' w' hf hh;rw[hf.defers];exact⟨_,SP (rs:=[]) (vs:=[]) (by kernel_rfl) hf trivial,⟨_,rfl⟩,hh⟩
  refine wpIn_block (kK (p0.1.length+1) (λq a' w'=>∃(i:Nat) (x:Int) (V:Reg) (σ:Env),q+i=p0.1.length+1/\i<=p0.1.length/\Fits [] 43 a' σ/\J i V w'/\MemI gl V w' ⟨OT (Fu l) (Jf a f h s) p0.1 (i:Int) x,[],[]⟩ σ/\Oj a s (p0.1.drop i) x=some (xs.drop i)) ?_ ?_
    ⟨0,0,V3,σ3,rfl,Nat.zero_le _,f3,j3,m3,hF⟩)
  · rintro a' w' ⟨i,x,V,σ,hq,hi,_⟩
    omega
  rintro q a' w' ⟨i,x,V,σ,hq,hi,hf,hj,hm,hp⟩;refine nN hM hT hI (J:=J i) (hGr i) .d [0,1,5,21,22,23,24] [] (Ao7 gl l a f h s p0.1 i x) rfl hm hj hf λσ4 V4 w4 a4 f4 j4 m4=>?_;by_cases hlt:i<p0.1.length
  · have hg:Cc (i:Int) (Ac p0.1)=true:=by simp[Cc,Ac,GI.toZ];exact hlt
    rw[hg]at m4;refine nN hM hT hI (J:=J i) (hGr i) .d [0,1,5,21,22,23] [] (Af9 gl l a f h s p0.1 i x true) rfl m4 j4 f4 λσ5 V5 w5 a5 f5 j5 m5=>?_;obtain⟨n,hn⟩:∃n,p0.1[i]? =some n:=⟨_,List.getElem?_eq_getElem hlt⟩;have hgn:Go.Lv.Aj p0.1 (i:Int)=some n:=by simp[Go.Lv.Aj,hn]
    have hd:p0.1.drop i=n::p0.1.drop (i+1):=by rw[List.drop_eq_getElem_cons hlt];congr 1;rw[List.getElem?_eq_getElem hlt]at hn;exact Option.some.inj hn
    rw[hd]at hp;obtain⟨p,r,hcut,hp',hxs⟩:=cL hp;have hi':i<xs.length:=by omega
    have hx:xs[i]? =some p:=by
      have:=congrArg List.head? hxs;rw[List.head?_drop]at this;exact this
    have hr:xs.drop (i+1)=r:=by
      have:=congrArg List.tail hxs;rw[List.tail_drop]at this;exact this
    refine wpIn_seq (wpIn_block ?_);refine nN hM hT hI (J:=J i) (hGr i) .d [0,1,5,7,21,22,23] [] ((Aqa gl l a f h s p0.1 i x).trans (by rw[hgn];rfl)) rfl m5 j5 f5 λσ6 V6 w6 a6 f6 j6 m6=>?_;refine nN hM hT hI (J:=J i) (hGr i) .d [0,1,5,8,21,22,23] [] (Arc gl l a f h s p0.1 i x n) rfl m6 j6 f6 λσ7 V7 w7 a7 f7 j7 m7=>?_;refine wpIn_seq (wpIn_seq (wpIn_region_lit ?_));refine T3 (T:=Uq gl) hT hI (J:=J i) (hGr i) [0,1,5,8,21,22,23,33,38] (by kernel_rfl) ((Ari gl l a f h s p0.1 i x (Ae x (Bd n a))).trans (by rw[hcut];rfl)) rfl m7 j7 f7 λσ8 V8 w8 a8 f8 j8 m8=>?_;have v33:σ8 33=Fu l:=by
      have:=m8.val (t:=33) (p:= .cst (Fu l)) (by simp) rfl;exact(show [σ8 33]=[Fu l]/\ _ from this).1|>List.head_eq_of_cons_eq
    have v38:Gl V8 w8 [] (vw p) (σ8 38):=(ZG rfl).1 (m8.val (t:=38) (p:=vw p) (by simp) rfl);refine Amm Alw Ana (by decide) (λc hc=>by rw[qy]at hc;cases hc) (yh qy v33 rfl) (hY i V8 w8 (σ8 38) hi' j8 (λx' hx'=>by rw[hx]at hx';cases hx';exact v38)) ?_ f8;rintro e w9 (⟨rfl,j9,hgr,hsame⟩|⟨rfl,jx⟩)
    · refine⟨_,rfl,λa9 f9=>?_⟩
      have m9:=(m8.round hgr hsame).set (d:=39) (p:=vt true) (v:= .bool true) rfl (show [Value.bool true]=[Value.bool true]from rfl);refine T3 (T:=Uq gl) (l2:=[]) hT hI (J:=J (i+1)) (hGr (i+1)) [0,1,5,8,21,22,23,40] (by kernel_rfl) (Ard gl l a f h s p0.1 i x (Ae x (Bd n a)) p true) rfl m9 j9 f9 λσb Vb wb ab fb jb mb=>?_;refine wpIn_mono (jQ hM hT hI (J:=J (i+1)) (hGr (i+1)) (an:= .d) (lv:=[0,1,5,8,21,22,23]) (co:=[]) (Aps gl l a f h s p0.1 i x (Ae x (Bd n a)) false) rfl mb jb fb) ?_;rintro e ac wc ⟨he,σc,Vc,fc,jc,mc⟩;cases e with
      |normal=>
        refine wpIn_mono (jQ hM hT hI (J:=J (i+1)) (hGr (i+1)) (an:= .d) (lv:=[0,1,5,21,22,23]) (co:=[]) (Apl gl l a f h s p0.1 i x (Ae x (Bd n a))) rfl mc jc fc) ?_;rintro e ad wd ⟨he,σd,Vd,fd,jd,md⟩;cases e with
        |normal=>
          refine wpIn_mono (jQ hM hT hI (J:=J (i+1)) (hGr (i+1)) (an:= .d) (lv:=[0,1,5,21,22,23]) (co:=[]) (Ar0 gl l a f h s p0.1 i (Ae x (Bd n a))) rfl md jd fd) ?_;rintro e ae we ⟨he,σe,Ve,fe,je,me⟩;cases e with
          |normal=>
            have hadd:Ae (i:Int) 1=((i+1:Nat):Int):=Alg (by omega);rw[hadd]at me;exact⟨i+1,_,Ve,σe,by omega,by omega,fe,je,me,by rw[hr];exact hp'⟩
          |ret=>simp[nO]at he
          |exit id=>simp[nO]at he
          |goto l=>cases he
          |panic c=>cases he
          |outgrown=>cases he
        |ret=>simp[nO]at he
        |exit id=>simp[nO]at he
        |goto l=>cases he
        |panic c=>cases he
        |outgrown=>cases he
      |ret=>simp[nO]at he
      |exit id=>simp[nO]at he
      |goto l=>cases he
      |panic c=>cases he
      |outgrown=>cases he
    · refine⟨_,rfl,λa9 f9=>?_⟩
      have hT0:FA Tryz.prog ⟨[],[],false⟩:= .nil;have hI0:∀{R:Type},EX (R:=R) Tryz.prog [] (GM Tryz.prog ⟨[],[],false⟩ 8 []):=pA hM hT0 Fa.nil 8;have m9:MemI [] (λ_=>False) w9 ⟨[(39,vt false)],[],[]⟩ (Ub σ8 39 (.bool false)):=⟨λ_ h=>h.elim,rfl,rfl,(λp hp=>by
        rcases List.mem_cons.1 hp with rfl|hp
        · exact Hu.put rfl (show [Value.bool false]=[Value.bool false]from rfl)
        · cases hp),λp hp=>by cases hp⟩
      refine T3 (T:=⟨[],[],false⟩) (l2:=[]) hT0 hI0 (J:=λ_ W=>Jx W) (λ_ X Y h k=>hJx X Y h k) [40] (by kernel_rfl) Am1 rfl m9 jx f9 λσb Vb wb ab fb jb mb=>?_;refine wpIn_mono (jQ (T:=⟨[],[],false⟩) hM hT0 hI0 (J:=λ_ W=>Jx W) (λ_ X Y h k=>hJx X Y h k) (an:= .d) (lv:=[]) (co:=[]) Alo rfl mb jb fb) ?_;rintro e ac wc ⟨he,σc,Vc,fc,jc,mc⟩;cases e with
      |ret=>exact fin fc (.inr jc)
      |normal=>simp[nO]at he
      |exit id=>simp[nO]at he
      |goto l=>cases he
      |panic c=>cases he
      |outgrown=>cases he
  · have hi2:i=p0.1.length:=by omega
    have hg:Cc (i:Int) (Ac p0.1)=false:=by subst hi2;simp[Cc,Ac,GI.toZ]
    rw[hg]at m4;refine wpIn_seq (wpIn_mono (jQ hM hT hI (J:=J i) (hGr i) (an:= .d) (lv:=[0,1,5,21,22,23]) (co:=[]) (Af9 gl l a f h s p0.1 i x false) rfl m4 j4 f4) ?_);rintro e ac wc ⟨he,σc,Vc,fc,jc,mc⟩;cases e with
    |exit id=>
      obtain rfl:id=0:=by simpa [nO]using he
      exact fin fc (.inl ⟨Vc,by rw[hlen,<-hi2];exact jc⟩)
    |ret=>simp[nO]at he
    |normal=>simp[nO]at he
    |goto l=>cases he
    |panic c=>cases he
    |outgrown=>cases he
abbrev D2:List Sh:=[.agg [.lf (.int .i64) none, .lf (.int .i64) none, .lf (.int .i64) none, .lf (.list (.int .i32)) none], .lf .str none]
abbrev JU:List Sh:=[.lf (.list (.list (.int .u8))) (some 28), .lf (.int .i64) none]
noncomputable def Abw:Con:=⟨[.agg [.lf (.int .i64) none, .lf (.int .i64) none, .lf (.int .i64) none, .lf (.list (.int .i32)) none]],[.lf (.int .i64) none],λx=>Df x.1 x.2.1 x.2.2.1 x.2.2.2⟩
noncomputable def mg:Con:=⟨[.lf .str none],[.lf (.vec 16 (.int .i32)) none, .lf (.int .i64) none],HI⟩
noncomputable def qo:Con:=⟨[.agg [.lf (.int .i64) none, .lf (.int .i64) none], .lf (.vec 16 (.int .i32)) none, .lf (.list (.int .i32)) none],[.lf (.list (.int .u8)) (some 5), .lf (.int .i64) none],λx=>Qe x.1 x.2.1 x.2.2.1 x.2.2.2⟩
noncomputable def Abq:Con:=⟨[.agg [.lf (.int .i64) none, .lf (.int .i64) none, .lf (.int .i64) none, .lf (.list (.int .i32)) none]],[.agg [.lf (.int .i64) none, .lf (.int .i64) none]],λx=>GF x.1 x.2.1 x.2.2.1 x.2.2.2⟩
noncomputable def qG(gl:List (Nat×List Value)):Tab:=⟨[(34,Abw),(31,mg),(44,qo),(45,Abq)],gl,true⟩
noncomputable def Aa1:List (Nat×ItC):=[(79,⟨24, .list (.int .i32),zZ⟩)]
noncomputable def E5:List (Nat×An):=[(43, .d)]
noncomputable abbrev Agb{R:Type}(gl:List (Nat×List Value)):sZ R:=GM Tryz.prog (qG gl) 8 E5
noncomputable def wP:An:= .loop [2,4,5,7,9] [⟨9,[], .own 28 (.list (.int .u8))⟩] .d
noncomputable def Aeu:An:= .seq .d (.seq .d (.seq .d (.seq .d (.seq .d (.seq (.seq .d (.blk wP)) .d)))))
noncomputable def Apr:Code:=fB Tryz.f21
noncomputable def Aeq:Code:=cB (cB (cB (cB (cB Apr))))
noncomputable def Age:Code:=cA (cB (cA Aeq))
noncomputable def Ai2:Code:=cB Aeq
def rfA:Code->Code| .rangeFunc _ _ a _=>a|c=>c
def rfB:Code->Code| .rangeFunc _ _ _ b=>b|c=>c
noncomputable def X8:K (AP (Rt JU)):={n:=kX Tryz.prog JU Tryz.f21.results.toList,x:=λ_ _=>none,r:=kX Tryz.prog JU Tryz.f21.results.toList}
noncomputable def Aex(gl:List (Nat×List Value))(s:S):Option (AP (Rt JU)):=ex Tryz.prog (qG gl) (Agb gl) 45 Ai2 .d X8 s
noncomputable def Agw(gl:List (Nat×List Value)):K (AP (Rt JU)):=⟨Aex gl,λid s=>Cm (Nat.beq id 0) (Aex gl s)<|X8.x id s,X8.r⟩
noncomputable def rH(gl:List (Nat×List Value)):List LX->S->Option (AP (Rt JU)):=rnd wP (iU Tryz.prog (qG gl) (Agb gl) 45 28 (rfA Age) (rfB Age) wP (Agw gl) (.list (.int .i32))) (Agw gl).n
def rC(a f h:Int)(b t:LX)(o:List LB):S:=⟨[(2, .ptr 0 []),(4, .ptr 1 []),(5, .ptr 2 []),(7, .ptr 3 []),(9, .ptr 4 [])],
  [.box 24 (.agg [vi a,vi f,vi h,vw b]), .box 55 .nils, .box 29 (vi 0), .box 71 (.val (.vec 16 (.int .i32)) t), .box 55 (.own 5), .arr 28 (.list (.int .u8)) o],[]⟩
theorem Ap3(gl:List (Nat×List Value))(a f h:Int)(b t:LX)(o:List LB):rH gl [] (rC a f h b t o)=some (o,(0:Int)):=by kernel_rfl
theorem Aqy(gl:List (Nat×List Value))(a f h:Int)(b t:LX)(o:List LB)(x:LX)(xs:List LX):rH gl (x::xs) (rC a f h b t o)=
    Option.bind (Qe a f t x) λy=>if(Bm y.2 0)=true then some ([],y.2)else Option.bind (Db o [y.1]) λo'=>rH gl xs (rC a f h b t o'):=by kernel_rfl
theorem Agx(gl:List (Nat×List Value))(a f h:Int)(b t:LX):∀(xs:List LX) (o:List LB),rH gl xs (rC a f h b t o)=Of a f t xs o
  |[],o=>Ap3 gl a f h b t o
  |x::xs,o=>by
    rw[Aqy,Of];simp only[Agx gl a f h b t xs];rfl
theorem Akg(gl:List (Nat×List Value))(x:AP (Rt D2)):Aqj Tryz.prog (qG gl) E5 Aa1 Tryz.f21 Aeu D2 JU x=IY x.1 x.2.1 x.2.2.1 x.2.2.2.1 x.2.2.2.2:=by
  refine Eq.trans (b:=Option.bind (Df x.1 x.2.1 x.2.2.1 x.2.2.2.1) λe=>if(Bm e 0)=true then some ([],e)else Option.bind (HI x.2.2.2.2) λt=>if(Bm t.2 0)=true then some ([],t.2)
    else Option.bind (RG x.1 x.2.2.1 x.2.2.2.1) λxs=>rH gl xs (rC x.1 x.2.1 x.2.2.1 x.2.2.2.1 t.1 [])) (by kernel_rfl) ?_
  simp only[Agx];rfl
noncomputable def UQ:Con:=⟨D2,JU,λx=>IY x.1 x.2.1 x.2.2.1 x.2.2.2.1 x.2.2.2.2⟩
theorem zI{gl:List (Nat×List Value)}(hCk:ConOk Tryz.prog gl 34 Abw)(hTp:ConOk Tryz.prog gl 31 mg)(hAl:ConOk Tryz.prog gl 80 xO)(hEn:ConOk Tryz.prog gl 44 qo)(hSh:ConOk Tryz.prog gl 45 Abq):
    ConOk Tryz.prog gl 21 UQ:=by
  have hE:∀{f:Nat} {fn:Func},Tryz.prog.funcs[f]? =some fn→(!(fn.name== "runtime.NumGoroutine")&&fn.body.isSome)=true→Ent Tryz.prog f:=by
    intro f fn hf hb;simp only[Bool.and_eq_true,Bool.not_eq_true']at hb;obtain⟨c,hc⟩:=Option.isSome_iff_exists.1 hb.2;exact Ent.mk hf hb.1 hc
  refine vo (T:=qG gl) (its:=Aa1) (ans:=E5) (an:=Aeu) (by kernel_rfl) Tryz.func21 (hE Tryz.func21 (by kernel_rfl)) (.cons hCk (.cons hTp (.cons hEn (.cons hSh .nil)))) (Fa.cons (hE Tryz.func43 (by kernel_rfl)) Fa.nil) ?_ (by kernel_rfl) (Akg gl);intro p hp;rcases List.mem_cons.1 hp with rfl|hp
  · exact Aju hAl (hE Tryz.func79 (by kernel_rfl))
  · cases hp
theorem I5{W W':World}(h:KeepN (λ_=>True) W W'):W.grownBy W' none:=⟨h.gr.os,h.gr.tape,h.gr.output,h.gr.le,λk hk _=>h.same k hk trivial⟩
theorem zm{F:Fence}{n:Nat}{P:Program}{Q:Exit->Act->World->Prop}{a:Act}{w:World}{c:Code}(m:Nat)(I:Nat->Act->World->Prop)(h0:∀a w,¬I 0 a w)
    (hs:∀q a w,I (q+1) a w->c.wpIn F n P (Exit.then (I q) Q) a w) (h:I m a w):(Code.loop c).wpIn F n P Q a w:=by
  refine wpIn_loop_rounds m ?_
  induction m generalizing a w with
  |zero=>exact absurd h (h0 a w)
  |succ m ih=>
    rw[roundsIn_succ];refine wpIn_mono (hs m a w h) λe a' w' hh=>?_;cases e<;>first|exact ih hh|exact hh
theorem Awb{α:Type}{c:Prop} [Decidable c]{a b y:α}(h:(if c then a else b)=y)(hc:¬c):b=y:=by rw[if_neg hc]at h;exact h
theorem Aq0{A:Reg}{w:World}{v:Value}{k:Kd}{l y:List k.T}{a:Int}(h:Ap A w (.list (.int k)) l [v])(hc:Bw l a (Ac l)=some y):
    ∃(p:Option Addr) (len cap m:Nat),v= .slice p len cap/\a=(m:Int)/\m<=len/\len<=cap/\Ap A w (.list (.int k)) y [.slice (if cap=m then p else p.map (·.add m)) (len-m) (cap-m)]:=by
  obtain⟨v1,c0,e1,h1,h2⟩:=h;cases e1;obtain⟨p,len,cap,rfl,g1,g2,g3,g4⟩:=h1;obtain⟨k1,k2,k3,k4,rfl⟩:=OB hc;simp only[ET.size,Nat.mul_one]at g1 g4;have hll:=h2.len (z:=1) λx c h=>by rw[show c=_ from h];rfl
  have hln:l.length=len:=by omega
  have hto:(Ac l).toNat=len:=by simp[Ac,hln]
  rw[hto]at k3⊢;refine⟨p,len,cap,a.toNat,rfl,k1,k3,g2,_,c0.drop a.toNat,rfl,⟨_,_,_,rfl,?_,by omega,λhp=>?_,λhcap=>?_⟩,?_⟩
  · simp only[ET.size,List.length_drop];omega
  · split at hp
    · omega
    · rename_i hne
      cases p with
      |none=>have:=g3 rfl;omega
      |some a=>cases hp
  · rw[if_neg (by omega)]
    obtain⟨b,off,arr,T,fr,rfl,e2,e3,e4,e5⟩:=g4 (by omega);refine⟨b,off+a.toNat,arr,T,fr,by simp[Addr.add],e2,e3,by simp only[ET.size];omega,λi hi=>?_⟩;simp only[ET.size]at hi;rw[List.getElem?_drop,<-e5 (a.toNat+i) (by omega),Nat.add_assoc]
  · have:=Bq.drop (z:=1) (λx c h=>by rw[show c=_ from h];rfl) a.toNat h2
    rw[Nat.mul_one]at this;rw[List.take_of_length_le (by omega)];exact this
theorem Avh{P:Program}{f:Nat}{gl:List (Nat×List Value)}{F:List UInt8->Option (Int×Int)}(hC:ConOk P gl f ⟨[.lf (.list (.int .u8)) none],[.lf (.int .i64) none, .lf (.int .i64) none],F⟩){A:Reg}{W:World}{v:Value}{s:List UInt8}{r:Int×Int}
    (hv:Ap A W (.list (.int .u8)) s [v]) (hgl:GlOk gl A W) (h:F s=some r):Calls P f #[v] W λe W'=>e= .returned (.tuple #[.int .i64 r.1, .int .i64 r.2])/\KeepN (λ_=>True) W W':=by
  have hv':Ap (λ_=>True/\True) W (.list (.int .u8)) s [v]:=Ap.step (λ_ _=>⟨trivial,trivial⟩) (λ_ _=>rfl) hv;refine(hC.ok (λ_=>True) (λ_=>True) W [] [v] [.val (.list (.int .u8)) s] s r rfl rfl (λi a m _ h=>by simp at h) trivial ⟨v,[],rfl,hv',rfl⟩ (λp hp=>⟨(hgl p hp).1,trivial,(hgl p hp).2.2⟩) h).mono ?_;rintro e w' ⟨us,rfl,hk,A1,L1,g1,g2,g3⟩;obtain⟨ps,its,k1,k2,k3,k4,k5⟩:=g3 ⟨[],[],[]⟩ [] (λ_=>True) rfl (λ_ _=>trivial) (λ_ _ _=>trivial);refine⟨?_,hk⟩;obtain rfl:=Option.some.inj (show some [PV.val (.int .i64) r.1,PV.val (.int .i64) r.2]=some ps from k2);obtain⟨_,_,rfl,e1,_,_,rfl,e2,rfl⟩:=k3;cases(show [_]=[Value.int .i64 r.1]from e1);cases(show [_]=[Value.int .i64 r.2]from e2);rfl
structure KpF (n₀ Bx:Nat) (A B:World):Prop where
  le:A.heap.size<=B.heap.size
  box:B.heap[Bx]? =A.heap[Bx]?
  old:∀k,k<n₀->B.heap[k]? =A.heap[k]?
def kr(l:List (Int×Int)):Int:=l.foldl (λs x=>Ae s x.1) 0
def fin(y:Int×Int)(xs:List (Int×Int)):Prop:=(∃x∈xs,x.2≠0)\/y=(kr xs,0)
def Amo(y:Int×Int)(pre:List (Int×Int)):Prop:=∃p x,pre=p++[x]/\ (x.2≠0->y=(0,x.2))
theorem Tryz.Ava:Tryz.f132.ntmps=35:=by kernel_rfl
theorem Tryz.u25:Tryz.prog.underlying 28=some (.slice 5):=by kernel_rfl
theorem Tryz.sz5:Ic Tryz.prog 5 1:=Ic.mk (by kernel_rfl)
set_option maxHeartbeats 2000000 in
set_option maxRecDepth 100000 in
theorem Ap7(n:Nat)(l Bx n₀:Nat)(v:Value)(b:List UInt8)(y:Int×Int)(J Jx:List (Int×Int)->World->Prop)(gl:List (Nat×List Value))
    (hC:ConOk Tryz.prog gl 133 ⟨[.lf (.list (.int .u8)) none],[.lf (.int .i64) none, .lf (.int .i64) none],Ul⟩)
    (hY:∀pre x W,J pre W->pre.length<Ar->YieldAt Fence.wide (n-1) Tryz.prog l #[.int .i64 x.1, .int .i64 x.2] W λe W'=>
      (e= .returned (.bool true)/\J (pre++[x]) W'/\KpF n₀ Bx W W')\/ (e= .returned (.bool false)/\Jx (pre++[x]) W'))
    (W0:World) (hJ:AbidesFrom W0.heap.size J) (Ad9:W0.heap[Bx]? =some (.cells #[v] 28 (0,0))) (hn:n₀<=W0.heap.size) (hv:Ap (λk=>k<n₀) W0 (.list (.int .u8)) b [v]) (hgl:GlOk gl (λk=>k<n₀) W0)
    (h0:J [] W0) (hy:Ux b=some y):
    CallsIn Fence.wide n Tryz.prog 132 #[.func (.yield l) #[] #[], .pointer (some ⟨Bx,0,none⟩)] W0 λe W'=>(∃v,e= .returned v)/\ ((∃ys,fin y ys/\J ys W')\/ (∃pre,Amo y pre/\Jx pre W')):=by
  refine callsIn_of_wp Tryz.func132 rfl trivial ?_ rfl;simp only[Tryz.Ava,List.size_toArray,List.length_cons,List.length_nil,Nat.reduceAdd,Nat.reduceSub,Array.replicate_succ,Array.replicate_zero,List.push_toArray,List.append_toArray,List.nil_append,List.cons_append]
  gi_wp2
  refine zm Ar (λq a W=>∃(pre:List (Int×Int)) (x:Int) (v2 v4 v5 v6 v7 v8 v9 v10 v11 v12 v13 v14 v15 v16 v17 v18 v19 v20 v21 v22 v23 v24 v25 v26 v27 v28 v29 v30 v31 v32 v33 v34:Value),a={tmps:= #[.func (.yield l) #[] #[], .pointer (some ⟨Bx,0,none⟩),v2, .int .i64 x,v4,v5,v6,v7,v8,v9,v10,v11,v12,v13,v14,v15,v16,v17,v18,v19,v20,v21,v22,v23,v24,v25,v26,v27,v28,v29,v30,v31,v32,v33,v34],defers:=[]}/\Sg b q x=some y/\kr pre=x/\pre.length+q=Ar/\J pre W/\KpF n₀ Bx W0 W/\W0.heap.size<=W.heap.size) ?_ ?_ ?_
  · rintro a W ⟨pre,x,v2,v4,v5,v6,v7,v8,v9,v10,v11,v12,v13,v14,v15,v16,v17,v18,v19,v20,v21,v22,v23,v24,v25,v26,v27,v28,v29,v30,v31,v32,v33,v34,_,h,_⟩
    cases h
  · rintro q a W ⟨pre,x,v2,v4,v5,v6,v7,v8,v9,v10,v11,v12,v13,v14,v15,v16,v17,v18,v19,v20,v21,v22,v23,v24,v25,v26,v27,v28,v29,v30,v31,v32,v33,v34,rfl,h,hx,hl,hJ1,hk,hs⟩
    simp only[Sg]at h;obtain⟨s,hcut,h⟩:=Go.Lv.bind_some h;obtain⟨r,hsz,h⟩:=Go.Lv.bind_some h;have hvW:Ap (λk=>k<n₀) W (.list (.int .u8)) b [v]:=Ap.step (λ_ h=>h) (λk hk'=>hk.old k hk') hv;obtain⟨p,len,cap,m,rfl,rfl,hm,hlc,hsv⟩:=Aq0 (k:= .u8) hvW hcut;have hc:W.cell? ⟨Bx,0,none⟩=some (.slice p len cap):=by
      have:=hk.box;simp only[World.cell?,this,Ad9];rfl
    have hu:=Tryz.u25;have hz:=Tryz.sz5;obtain⟨k,e⟩:=r;have e1:geq e 6=(e==6):=rfl;have e2:geq e 0=(e==0):=rfl;have e3:Ae (m:Int) k=RowKit.wrap64 (m+k):=by
      simp only[Ae,GI.ofZ,GI.toZ,Go.Lv.wrap64,RowKit.wrap64];exact IntKind.wrap_i64 _
    have e4:Eu (RowKit.wrap64 (m+k)) 4000=decide (4000<RowKit.wrap64 (m+k)):=rfl;have e5:Bm e 0=(e !=0):=rfl;rw[e1,e2,e3,e4,e5]at h;have hp:=h;have hgW:GlOk gl (λk=>k<n₀) W:=λp hp=>⟨Nat.lt_of_lt_of_le (hgl p hp).1 hs,(hgl p hp).2.1,by rw[hk.old _ (hgl p hp).2.1];exact(hgl p hp).2.2⟩;have hcall:∀v',Ap (λk=>k<n₀) W (.list (.int .u8)) s [v']->CallsIn Fence.wide (n-1) Tryz.prog 133 #[v'] W λe0 W'=>e0= .returned (.tuple #[.int .i64 k, .int .i64 e])/\KeepN (λ_=>True) W W':=
      λv' hv'=>callsIn_wide.2 (Avh hC hv' hgW hsz)
    have hsm:∀z:Int,kr (pre++[(k,z)])=RowKit.wrap64 (m+k):=λz=>by rw[<-e3,<-hx];simp[kr]
    have hlt:Bx<W.heap.size:=Nat.lt_of_lt_of_le (Array.getElem?_eq_some_iff.1 Ad9).1 hs
    gi_wp2
    all_goals
      refine⟨trivial,(λh=>nomatch h),(hcall _ (by first|(rw[if_neg (by assumption)]at hsv;exact hsv)|(simpa [*]using hsv))).mono ?_⟩;rintro e0 W1 ⟨rfl,hk1⟩;have hJ2:=hJ pre W W1 none hJ1 (I5 hk1) (λr e=>by cases e);have hyl:∀e',YieldAt Fence.wide (n-1) Tryz.prog l #[Value.int IntKind.i64 k,Value.int IntKind.i64 e'] W1 _:=λe'=>hY pre (k,e') W1 hJ2 (by omega)
      gi_wp2
      · rename_i h6
        rw[if_pos h6]at hp;refine bodyPost_ret (results_none rfl _ _ _) rfl ?_;exact⟨⟨_,rfl⟩, .inl ⟨pre, .inr (by rw[hx];cases hp;rfl),hJ2⟩⟩
      · obtain⟨fn,tmps,assign,body,hy1,hR⟩:=hyl 4
        rw[hy1]
        gi_wp2
        refine⟨(λh=>nomatch h),hR.mono ?_⟩;rintro e3 W3 (⟨rfl,hJ3,hk3⟩|⟨rfl,hJx3⟩)
        · gi_wp2
          refine bodyPost_ret (results_none rfl _ _ _) rfl ?_;exact⟨⟨_,rfl⟩, .inl ⟨pre++[(k,4)], .inl ⟨(k,4),by simp,by simp⟩,hJ3⟩⟩
        · gi_wp2
          refine bodyPost_ret (results_none rfl _ _ _) rfl ?_;refine⟨⟨_,rfl⟩, .inr ⟨pre++[(k,4)],⟨pre,(k,4),rfl,λhne=>?_⟩,hJx3⟩⟩;simp at hne
          all_goals simp_all
      · obtain⟨fn,tmps,assign,body,hy1,hR⟩:=hyl 0
        rw[hy1]
        gi_wp2
        refine⟨(λh=>nomatch h),hR.mono ?_⟩;rintro e3 W3 (⟨rfl,hJ3,hk3⟩|⟨rfl,hJx3⟩)
        · gi_wp2
          refine⟨pre++[(k,0)],_,_,_,_,_,_,_,_,_,_,_,_,_,_,_,_,_,_,_,_,_,_,_,_,_,_,_,_,_,_,_,_,_,rfl,?_,‹∀z:Int,kr (pre++[(k,z)])=RowKit.wrap64 ((m:Int)+k)› 0,by simp;omega,hJ3,⟨?_,?_,?_⟩,?_⟩
          · simp_all
            exact Awb (by assumption) (by omega)
          · exact Nat.le_trans hk.le (Nat.le_trans hk1.gr.le hk3.le)
          · exact hk3.box.trans ((hk1.same _ ‹Bx<W.heap.size› trivial).trans hk.box)
          · exact λj hj=>(hk3.old j hj).trans ((hk1.same j (Nat.lt_of_lt_of_le hj (Nat.le_trans hn hs)) trivial).trans (hk.old j hj))
          · exact Nat.le_trans hs (Nat.le_trans hk1.gr.le hk3.le)
        · gi_wp2
          refine bodyPost_ret (results_none rfl _ _ _) rfl ?_;exact⟨⟨_,rfl⟩, .inr ⟨pre++[(k,0)],⟨pre,(k,0),rfl,λhne=>absurd rfl hne⟩,hJx3⟩⟩
      · obtain⟨fn,tmps,assign,body,hy1,hR⟩:=hyl e
        rw[hy1]
        gi_wp2
        refine⟨(λh=>nomatch h),hR.mono ?_⟩;rintro e3 W3 (⟨rfl,hJ3,hk3⟩|⟨rfl,hJx3⟩)
        · gi_wp2
          rename_i hne;refine bodyPost_ret (results_none rfl _ _ _) rfl ?_;exact⟨⟨_,rfl⟩, .inl ⟨pre++[(k,e)], .inl ⟨(k,e),by simp,by simpa using hne⟩,hJ3⟩⟩
        · gi_wp2
          refine bodyPost_ret (results_none rfl _ _ _) rfl ?_;refine⟨⟨_,rfl⟩, .inr ⟨pre++[(k,e)],⟨pre,(k,e),rfl,λhne=>?_⟩,hJx3⟩⟩;simp at hne
          all_goals simp_all
  · exact⟨[],0,_,_,_,_,_,_,_,_,_,_,_,_,_,_,_,_,_,_,_,_,_,_,_,_,_,_,_,_,_,_,_,_,rfl,hy,rfl,by simp,h0,⟨Nat.le_refl _,rfl,λ_ _=>rfl⟩,Nat.le_refl _⟩
theorem Atu(n Bx n₀:Nat)(v:Value)(b:List UInt8)(y:Int×Int)(gl:List (Nat×List Value))
    (hC:ConOk Tryz.prog gl 133 ⟨[.lf (.list (.int .u8)) none],[.lf (.int .i64) none, .lf (.int .i64) none],Ul⟩)
    (w:World) (Ad9:w.heap[Bx]? =some (.cells #[v] 28 (0,0))) (hn:n₀<=w.heap.size) (hv:Ap (λk=>k<n₀) w (.list (.int .u8)) b [v]) (hgl:GlOk gl (λk=>k<n₀) w) (hy:Ux b=some y):
    SeqStopsK Fence.wide n Tryz.prog 132 #[.pointer (some ⟨Bx,0,none⟩)] (λx:Int×Int=> #[.int .i64 x.1, .int .i64 x.2]) (KpF n₀ Bx) (fin y) (Amo y) Ar w:=by
  intro l J Jx W hW hJ hJx hY h0;have hlt:=(Array.getElem?_eq_some_iff.1 Ad9).1;have hb:∀k,k<n₀->W.heap[k]? =w.heap[k]? :=λk hk=>hW.block k (Nat.lt_of_lt_of_le hk hn);exact Ap7 n l Bx n₀ v b y J Jx gl hC hY W hJ ((hW.block Bx hlt).trans Ad9) (Nat.le_trans hn hW.size) (Ap.step (λ_ h=>h) hb hv)
    (λp hp=>⟨Nat.lt_of_lt_of_le (hgl p hp).1 hW.size,(hgl p hp).2.1,by rw[hb _ (hgl p hp).2.1];exact(hgl p hp).2.2⟩) h0 hy
theorem eA{w W:World}{a:Addr}{v:Value}(h:KeepN (λ_=>True) w W)(ha:w.heap.size<=a.block):KeepN (λ_=>True) w (W.setCell a v):=by
  have hb:=(Below.refl w.heap.size W).setCell (p:=a) ha v;exact⟨λb hb' _=>(hb.block b hb').trans (h.same b hb' trivial),h.gr.trans ⟨hb.size,hb.os,hb.tape,hb.output⟩⟩
theorem heap_set{W:World}{a:Addr}{v:Value}{k:Nat}(h:k≠a.block):(W.setCell a v).heap[k]? =W.heap[k]? :=
  ((Below.refl (k+1) {W with heap:=W.heap}).block k (by omega)▸(by
    show(W.heap.modify a.block _)[k]? =W.heap[k]?;rw[Array.getElem?_modify,if_neg (Ne.symm h)]))
theorem Ab7{W:World}{B:Nat}{v:Value}{t:TypeId}(h:W.heap[B]? =some (.cells #[v] t (0,0))):W.cell? ⟨B,0,none⟩=some v/\W.frozen? ⟨B,0,none⟩=false:=by
  constructor<;>simp[World.cell?,World.frozen?,h]
theorem oF(W:World)(v:Value)(t:TypeId):(W.alloc (.cells #[v] t)).cell? ⟨W.heap.size,0,none⟩=some v/\ (W.alloc (.cells #[v] t)).frozen? ⟨W.heap.size,0,none⟩=false:=Ab7 (World.alloc_heap_new W _)
theorem Ji{W:World}{a:Addr}{v:Value}(o:Obj)(h:W.cell? a=some v):(W.alloc o).cell? a=some v:=cell_kept h (World.grownBy_alloc W o none) (λr e=>by cases e)
theorem Pv{W:World}{a:Addr}{v:Value}(o:Obj)(h:W.cell? a=some v)(hf:W.frozen? a=false):(W.alloc o).frozen? a=false:=(frozen_kept h (World.grownBy_alloc W o none) (λr e=>by cases e)).trans hf
theorem Tryz.Axl:Tryz.f90.ntmps=4:=by kernel_rfl
theorem Tryz.Axr:Tryz.f52.ntmps=18:=by kernel_rfl
set_option maxHeartbeats 1000000 in
set_option maxRecDepth 100000 in
theorem Apw(n:Nat)(p:Option Addr)(len cap:Nat)(w:World):
    CallsIn Fence.wide n Tryz.prog 90 #[.slice p len cap] w λe w'=>e= .returned (.func (.func 132) #[] #[.pointer (some ⟨w.heap.size,0,none⟩)])/\w'=w.alloc (.cells #[.slice p len cap] 28):=by
  refine callsIn_of_wp Tryz.func90 rfl trivial ?_ rfl;simp only[Tryz.Axl,List.size_toArray,List.length_cons,List.length_nil,Nat.reduceAdd,Nat.reduceSub,Array.replicate_succ,Array.replicate_zero,List.push_toArray,List.append_toArray,List.nil_append,List.cons_append]
  gi_wp2
  go_ret
  exact⟨rfl,rfl⟩
set_option maxHeartbeats 1000000 in
set_option maxRecDepth 100000 in
theorem Akq(n:Nat)(h1:3<=n)(p:Option Addr)(len cap:Nat)(b:List UInt8)(y:Int×Int)(gl:List (Nat×List Value))
    (hC:ConOk Tryz.prog gl 133 ⟨[.lf (.list (.int .u8)) none],[.lf (.int .i64) none, .lf (.int .i64) none],Ul⟩)
    (w:World) (hv:Ap (λk=>k<w.heap.size) w (.list (.int .u8)) b [.slice p len cap]) (hgl:GlOk gl (λk=>k<w.heap.size) w) (hy:Ux b=some y):
    CallsIn Fence.wide n Tryz.prog 52 #[.slice p len cap] w λe w'=>e= .returned (.tuple #[.int .i64 y.1, .int .i64 y.2])/\KeepN (λ_=>True) w w':=by
  refine callsIn_of_wp_marks Tryz.func52 rfl trivial ?_ rfl;simp only[Tryz.Axr,List.size_toArray,List.length_cons,List.length_nil,Nat.reduceAdd,Nat.reduceSub,Array.replicate_succ,Array.replicate_zero,List.push_toArray,List.append_toArray,List.nil_append,List.cons_append]
  gi_wp2
  refine⟨trivial,(λh=>nomatch h),(Apw (n-1) _ _ _ _).mono ?_⟩;rintro e w' ⟨rfl,rfl⟩
  gi_wp2
  refine wpIn_rangeFunc_ownG (Kp:=KpF w.heap.size (w.heap.size+1+1+1)) rfl (by omega) (gf:=132) (lb:= #[.pointer (some ⟨w.heap.size+1+1+1,0,none⟩)]) rfl trivial (enters_of Tryz.func132 (by kernel_rfl) rfl)
    (Atu (n-1) (w.heap.size+1+1+1) w.heap.size (.slice p len cap) b y gl hC _ ?Ad9 ?hn ?hv ?hgl hy)
    (λh k=>⟨Nat.le_trans h.le k.le,k.box.trans h.box,λj hj=>(k.old j hj).trans (h.old j hj)⟩) ?hKb (Below.refl _ _) (λ_=>rfl)
    (λpre W=>(∀x∈pre,x.2=0)/\ (W.cell? ⟨w.heap.size+1+1,0,none⟩=some (.int .i64 (kr pre))/\W.frozen? ⟨w.heap.size+1+1,0,none⟩=false)/\
      (∃v,W.cell? ⟨w.heap.size,0,none⟩=some v/\W.frozen? ⟨w.heap.size,0,none⟩=false)/\ (∃v,W.cell? ⟨w.heap.size+1,0,none⟩=some v/\W.frozen? ⟨w.heap.size+1,0,none⟩=false)/\KeepN (λ_=>True) w W)
    (λc pre W=>c= .ret/\ (∃Ar2 x,pre=Ar2++[x]/\x.2≠0/\W.cell? ⟨w.heap.size,0,none⟩=some (.int .i64 0)/\W.cell? ⟨w.heap.size+1,0,none⟩=some (.int .i64 x.2))/\KeepN (λ_=>True) w W)
    ?hI ?hIx ?h0
    (λx=>{tmps:= #[.slice p len cap,undef, .pointer (some ⟨w.heap.size,0,none⟩), .pointer (some ⟨w.heap.size+1,0,none⟩), .pointer (some ⟨w.heap.size+1+1,0,none⟩), .int .i64 x.1, .int .i64 x.2, .slice p len cap, .func (.func 132) #[] #[.pointer (some ⟨w.heap.size+1+1+1,0,none⟩)], .int .i64 x.1, .int .i64 x.2,undef,undef,undef,undef,undef,undef,undef],defers:=[]}) ?assign ?body ?done ?stop
  case assign=>
    intro l x W K hK
    gi_wp2
    exact hK
  case body=>
    rintro l pre x W ⟨hz,⟨hc,hf⟩,⟨v2,hc2,hf2⟩,⟨v3,hc3,hf3⟩,hk⟩ _
    gi_wp2
    · rename_i hx
      refine⟨(KeepsOthers.trans (KeepsOthers.setCell _ _ _) (KeepsOthers.setCell _ _ _)).from _,rfl,⟨pre,x,rfl,by simpa using hx,?_,?_⟩,eA (eA hk (Nat.le_refl _)) (Nat.le_succ _)⟩
      · refine(World.cell?_setCell_other _ _ _ _ (by simp)).trans ?_
        exact World.cell?_setCell_same' _ _ _ (by rw[hc2];rfl)
      · refine World.cell?_setCell_same' _ _ _ ?_
        rw[World.cell?_setCell_other W ⟨w.heap.size,0,none⟩ ⟨w.heap.size+1,0,none⟩ _ (by simp),hc3];rfl
    · rename_i hx
      have hx0:x.2=0:=by simpa using hx
      refine⟨(KeepsOthers.setCell _ _ _).from _,⟨((Below.refl 0 W).setCell (p:=⟨w.heap.size+1+1,0,none⟩) (Nat.zero_le _) _).size,heap_set (by simp),λk hk'=>heap_set (by simp;omega)⟩,?_,⟨?_,by rw[World.frozen?_setCell];exact hf⟩,⟨v2,?_,by rw[World.frozen?_setCell];exact hf2⟩,⟨v3,?_,by rw[World.frozen?_setCell];exact hf3⟩,eA hk (by simp;omega)⟩
      · intro z hz'
        rcases List.mem_append.1 hz' with h|h
        · exact hz z h
        · simp at h;subst h;exact hx0
      · have e:kr (pre++[x])=RowKit.wrap64 (kr pre+x.1):=by
          simp only[kr,List.foldl_append,List.foldl_cons,List.foldl_nil,Ae,GI.ofZ,GI.toZ,Go.Lv.wrap64,RowKit.wrap64];exact IntKind.wrap_i64 _
        rw[e];exact World.cell?_setCell_same' _ _ _ (by rw[hc];rfl)
      · exact(World.cell?_setCell_other _ _ _ _ (by simp;try omega)).trans hc2
      · exact(World.cell?_setCell_other _ _ _ _ (by simp)).trans hc3
  case done=>
    rintro D xs W hD hS ⟨hz,⟨hc,hf⟩,⟨v2,hc2,hf2⟩,⟨v3,hc3,hf3⟩,hk⟩ hK
    gi_wp2
    have hy':y=(kr xs,0):=hS.elim (λ⟨x,hx,hne⟩=>absurd (hz x hx) hne) id;have hlen:w.heap.size+4<=D:=by simp only[World.size_alloc]at hD;omega
    have hK':=((KeepsOthers.setCell W ⟨w.heap.size,0,none⟩ (.int .i64 (kr xs))).trans (KeepsOthers.setCell _ ⟨w.heap.size+1,0,none⟩ (.int .i64 0))).same D _ hK rfl;have hk2:=eA (v:= .int .i64 0) (a:=⟨w.heap.size+1,0,none⟩) (eA (v:= .int .i64 (kr xs)) (a:=⟨w.heap.size,0,none⟩) hk (Nat.le_refl _)) (Nat.le_succ _);have d0:((W.setCell ⟨w.heap.size,0,none⟩ (.int .i64 (kr xs))).setCell ⟨w.heap.size+1,0,none⟩ (.int .i64 0)).cell? ⟨w.heap.size,0,none⟩=some (.int .i64 (kr xs)):=
      (World.cell?_setCell_other _ _ _ _ (by simp)).trans (World.cell?_setCell_same' _ _ _ (by rw[hc2];rfl))
    have d1:((W.setCell ⟨w.heap.size,0,none⟩ (.int .i64 (kr xs))).setCell ⟨w.heap.size+1,0,none⟩ (.int .i64 0)).cell? ⟨w.heap.size+1,0,none⟩=some (.int .i64 0):=
      World.cell?_setCell_same' _ _ _ (by rw[World.cell?_setCell_other W ⟨w.heap.size,0,none⟩ ⟨w.heap.size+1,0,none⟩ _ (by simp),hc3];rfl)
    refine⟨by simp, .inl ⟨_,_,rfl,run_takeDeferred hK',?_⟩⟩;have hg:=grownBy_putObj' ((W.setCell ⟨w.heap.size,0,none⟩ (.int .i64 (kr xs))).setCell ⟨w.heap.size+1,0,none⟩ (.int .i64 0)) D (.deferred none);have hr':∀r,some D=some r->∃o:Obj,((W.setCell ⟨w.heap.size,0,none⟩ (.int .i64 (kr xs))).setCell ⟨w.heap.size+1,0,none⟩ (.int .i64 0)).heap[r]? =some o/\o.isCells=false:=λr e=>by cases e;exact⟨_,hK',rfl⟩
    have hc5:=cell_kept d0 hg hr';have hc6:=cell_kept d1 hg hr';refine⟨.tuple #[.int .i64 (kr xs), .int .i64 0],?_,by rw[hy'],?_⟩
    · simp[results,Tryz.f52,go_sem,hc5,hc6]
    · refine⟨λb hb _=>(hg.block b (Nat.lt_of_lt_of_le hb hk2.gr.le) (λe=>?_)).trans (hk2.same b hb trivial),hk2.gr.trans ⟨hg.size,hg.os,hg.tape,hg.output⟩⟩
      cases e;omega
  case stop=>
    rintro D c pre W hD hS ⟨rfl,⟨Ar2,x,rfl,hx,hc2,hc3⟩,hk⟩ hK
    gi_wp2
    obtain⟨p1,x1,he,hy1⟩:=hS;have hy':y=(0,x.2):=by
      have:=List.append_inj' he rfl;cases this.2;exact hy1 hx
    have hlen:w.heap.size+4<=D:=by simp only[World.size_alloc]at hD;omega
    refine⟨by simp, .inl ⟨_,_,rfl,run_takeDeferred hK,?_⟩⟩;have hg:=grownBy_putObj' W D (.deferred none);have hr':∀r,some D=some r->∃o:Obj,W.heap[r]? =some o/\o.isCells=false:=λr e=>by cases e;exact⟨_,hK,rfl⟩
    have hc5:=cell_kept hc2 hg hr';have hc6:=cell_kept hc3 hg hr';refine⟨.tuple #[.int .i64 0, .int .i64 x.2],?_,by rw[hy'],?_⟩
    · simp[results,Tryz.f52,go_sem,hc5,hc6]
    · refine⟨λb hb _=>(hg.block b (Nat.lt_of_lt_of_le hb hk.gr.le) (λe=>?_)).trans (hk.same b hb trivial),hk.gr.trans ⟨hg.size,hg.os,hg.tape,hg.output⟩⟩
      cases e;omega
  case Ad9=>
    have h:=World.alloc_heap_new (((w.alloc (.cells #[.int .i64 0] 3)).alloc (.cells #[.int .i64 0] 29)).alloc (.cells #[.int .i64 0] 3)) (.cells #[.slice p len cap] 28);simp only[World.size_alloc]at h;exact h
  case hn=>simp;omega
  case hI=>
    rintro s A B row ⟨hz,⟨hc,hf⟩,⟨v2,hc2,hf2⟩,⟨v3,hc3,hf3⟩,hk⟩ hg hr;have hr':∀r,row=some r->∃o:Obj,A.heap[r]? =some o/\o.isCells=false:=λr e=>(hr r e).2;refine⟨hz,⟨cell_kept hc hg hr',(frozen_kept hc hg hr').trans hf⟩,⟨v2,cell_kept hc2 hg hr',(frozen_kept hc2 hg hr').trans hf2⟩,⟨v3,cell_kept hc3 hg hr',(frozen_kept hc3 hg hr').trans hf3⟩,?_⟩;refine⟨λb hb _=>(hg.block b (Nat.lt_of_lt_of_le hb hk.gr.le) (λe=>?_)).trans (hk.same b hb trivial),hk.gr.trans ⟨hg.size,hg.os,hg.tape,hg.output⟩⟩;have:=(hr b e.symm).1;simp at this;omega
  case hIx=>
    rintro c s A B row ⟨hc,⟨Ar2,x,hs,hx,hc2,hc3⟩,hk⟩ hg hr;have hr':∀r,row=some r->∃o:Obj,A.heap[r]? =some o/\o.isCells=false:=λr e=>(hr r e).2;refine⟨hc,⟨Ar2,x,hs,hx,cell_kept hc2 hg hr',cell_kept hc3 hg hr'⟩,?_⟩;refine⟨λb hb _=>(hg.block b (Nat.lt_of_lt_of_le hb hk.gr.le) (λe=>?_)).trans (hk.same b hb trivial),hk.gr.trans ⟨hg.size,hg.os,hg.tape,hg.output⟩⟩;have:=(hr b e.symm).1;simp at this;omega
  case hKb=>
    intro W l o o' hl h _ _;have hlt:=(Array.getElem?_eq_some_iff.1 h).1;simp at hl;have hg:=grownBy_putObj' W l o';exact⟨hg.size,hg.block _ (by omega) (λe=>by cases e;omega),λk hk=>hg.block k (by omega) (λe=>by cases e;omega)⟩
  case hgl=>
    intro q hq;refine⟨by simp;have:=(hgl q hq).1;omega,(hgl q hq).2.1,?_⟩;have hb:=((((Below.refl w.heap.size w).alloc (Nat.le_refl _) (.cells #[.int .i64 0] 3)).alloc (by simp) (.cells #[.int .i64 0] 29)).alloc (by simp;omega) (.cells #[.int .i64 0] 3)).alloc (by simp;omega) (.cells #[.slice p len cap] 28);rw[hb.block _ (hgl q hq).1];exact(hgl q hq).2.2
  case hv=>
    have hb:=((((Below.refl w.heap.size w).alloc (Nat.le_refl _) (.cells #[.int .i64 0] 3)).alloc (by simp) (.cells #[.int .i64 0] 29)).alloc (by simp;omega) (.cells #[.int .i64 0] 3)).alloc (by simp;omega) (.cells #[.slice p len cap] 28);exact Ap.step (λ_ h=>h) (λk hk=>hb.block k hk) hv
  case h0=>
    have c0:=oF w (.int .i64 0) 3;have c1:=oF (w.alloc (.cells #[.int .i64 0] 3)) (.int .i64 0) 29;have c2:=oF ((w.alloc (.cells #[.int .i64 0] 3)).alloc (.cells #[.int .i64 0] 29)) (.int .i64 0) 3;simp only[World.size_alloc]at c1 c2;have hb:=((((Below.refl w.heap.size w).alloc (Nat.le_refl _) (.cells #[.int .i64 0] 3)).alloc (by simp) (.cells #[.int .i64 0] 29)).alloc (by simp;omega) (.cells #[.int .i64 0] 3)).alloc (by simp;omega) (.cells #[.slice p len cap] 28);exact⟨by simp,⟨Ji _ c2.1,Pv _ c2.1 c2.2⟩,⟨_,Ji _ (Ji _ (Ji _ c0.1)),Pv _ (Ji _ (Ji _ c0.1)) (Pv _ (Ji _ c0.1) (Pv _ c0.1 c0.2))⟩,
      ⟨_,Ji _ (Ji _ c1.1),Pv _ (Ji _ c1.1) (Pv _ c1.1 c1.2)⟩,⟨λb hb' _=>hb.block b hb',⟨hb.size,hb.os,hb.tape,hb.output⟩⟩⟩
def VU:Con:=⟨[.lf (.list (.int .u8)) none],[.lf (.int .i64) none, .lf (.int .i64) none],λx=>Ux x⟩
theorem C2{gl:List (Nat×List Value)}(hE:Ent Tryz.prog 52)(hC:ConOk Tryz.prog gl 133 ⟨[.lf (.list (.int .u8)) none],[.lf (.int .i64) none, .lf (.int .i64) none],Ul⟩):ConOk Tryz.prog gl 52 VU:=by
  refine⟨hE,?_⟩;intro R N w L0 vs ps x y hargs hlen hit tV hvs hgl hy;obtain rfl:=Option.some.inj (show some [PV.val (.list (.int .u8)) x]=some ps from hargs);obtain⟨v,_,rfl,h1,rfl⟩:=hvs;have h2:Ap (λb=>R b/\N b) w (.list (.int .u8)) x [v]:=h1;have h3:=Ap.step (B':=λk=>k<w.heap.size) (λ_ h=>h.1) (λ_ _=>rfl) (Ut h2);obtain⟨p,len,cap,rfl⟩:∃p len cap,v= .slice p len cap:=by
    obtain⟨v1,c0,e1,⟨p,len,cap,rfl,_⟩,_⟩:=h2;cases e1;exact⟨_,_,_,rfl⟩
  refine(callsIn_wide.1 (Akq 3 (Nat.le_refl _) p len cap x y gl hC w h3 (λq hq=>⟨(hgl q hq).1,(hgl q hq).1,(hgl q hq).2.2⟩) hy)).mono ?_;rintro e w' ⟨rfl,hk⟩;refine⟨[.int .i64 y.1, .int .i64 y.2],rfl,⟨λb hb _=>hk.same b hb trivial,hk.gr⟩,λ_=>False,[],λ_ h=>h.elim,?_,?_⟩
  · trivial
  · intro s L B' hl _ _
    refine⟨[.val (.int .i64) y.1, .val (.int .i64) y.2],[],(show s=⟨s.sl,s.it++[],s.st⟩ by simp),rfl,?_,rfl,λi a m h=>by simp at h⟩;exact⟨_,_,rfl,rfl,_,_,rfl,rfl,rfl⟩
abbrev Akc:List Sh:=[.lf .str none, .lf (.list (.cons .str (.cons (.list (.int .u8)) .nil))) none]
abbrev Alb:List Sh:=[.lf (.list (.int .u8)) (some 5), .lf (.int .i64) none]
def Tryz.Ahn:Go.Shelf.Ren:=⟨λ|178=>73|251=>115|252=>116|181=>147|184=>148|290=>149|324=>165|n=>n,λ|130=>204|9=>9|3=>3|75=>138|0=>0|93=>136|91=>134|131=>205|4=>4|37=>28|20=>20|80=>270|5=>5|n=>n,λ|14=>3|n=>n⟩
theorem Tryz.Av3:Go.Proofs.LaysM.n178 Tryz.prog Tryz.Ahn:={
  mixed:=by kernel_rfl
  f178:=Tryz.func73.trans (congrArg some (by kernel_rfl))
  f181:=Tryz.func147.trans (congrArg some (by kernel_rfl))
  f184:=Tryz.func148.trans (congrArg some (by kernel_rfl))
  f251:=Tryz.func115.trans (congrArg some (by kernel_rfl))
  f252:=Tryz.func116.trans (congrArg some (by kernel_rfl))
  f290:=Tryz.func149.trans (congrArg some (by kernel_rfl))
  f324:=Tryz.func165.trans (congrArg some (by kernel_rfl))
  t0:=Tryz.underlying0
  a0:=Tryz.isAgg0
  z0:=Tryz.sizeOf0
  v0:=Tryz.zeroValue0
  t3:=Tryz.underlying3
  a3:=Tryz.isAgg3
  z3:=Tryz.sizeOf3
  v3:=Tryz.zeroValue3
  t4:=Tryz.underlying4
  a4:=Tryz.isAgg4
  z4:=Tryz.sizeOf4
  v4:=Tryz.zeroValue4
  t9:=Tryz.underlying9
  a9:=Tryz.isAgg9
  z9:=Tryz.sizeOf9
  v9:=Tryz.zeroValue9
  t20:=Tryz.underlying20
  a20:=Tryz.isAgg20
  z20:=Tryz.sizeOf20
  v20:=Tryz.zeroValue20
  t37:=Tryz.underlying28
  a37:=Tryz.isAgg28
  z37:=Tryz.sizeOf28
  v37:=Tryz.zeroValue28
  t75:=Tryz.underlying138
  a75:=Tryz.isAgg138
  z75:=Tryz.sizeOf138
  v75:=Tryz.zeroValue138
  t91:=Tryz.underlying134
  a91:=Tryz.isAgg134
  z91:=Tryz.sizeOf134
  v91:=Tryz.zeroValue134
  t93:=Tryz.underlying136
  a93:=Tryz.isAgg136
  z93:=Tryz.sizeOf136
  v93:=Tryz.zeroValue136
  t130:=Tryz.underlying204
  a130:=Tryz.isAgg204
  z130:=Tryz.sizeOf204
  v130:=Tryz.zeroValue204
  t131:=Tryz.underlying205
  a131:=Tryz.isAgg205
  z131:=Tryz.sizeOf205
  v131:=Tryz.zeroValue205
  g14:=by kernel_rfl
  t5:=Tryz.underlying5
  a5:=Tryz.isAgg5
  z5:=Tryz.sizeOf5
  v5:=Tryz.zeroValue5
  t80:=Tryz.underlying270
  a80:=Tryz.isAgg270
  z80:=Tryz.sizeOf270
  v80:=Tryz.zeroValue270
  i0:=by kernel_rfl
  i3:=by kernel_rfl
  i4:=by kernel_rfl
  i5:=by kernel_rfl
  i9:=by kernel_rfl
  i20:=by kernel_rfl
  i37:=by kernel_rfl
  i75:=by kernel_rfl
  i80:=by kernel_rfl
  i91:=by kernel_rfl
  i93:=by kernel_rfl
  i130:=by kernel_rfl
  i131:=by kernel_rfl
  m14:=by kernel_rfl}
def Tryz.Ajw:Go.Shelf.Ren:=⟨λ|180=>74|251=>115|252=>116|181=>147|184=>148|290=>149|324=>165|n=>n,λ|130=>204|37=>28|3=>3|75=>138|0=>0|93=>136|91=>134|131=>205|4=>4|20=>20|5=>5|80=>270|9=>9|n=>n,λ|14=>3|n=>n⟩
theorem Tryz.Asc:Go.Proofs.LaysM.n180 Tryz.prog Tryz.Ajw:={
  mixed:=by kernel_rfl
  f180:=Tryz.func74.trans (congrArg some (by kernel_rfl))
  f181:=Tryz.func147.trans (congrArg some (by kernel_rfl))
  f184:=Tryz.func148.trans (congrArg some (by kernel_rfl))
  f251:=Tryz.func115.trans (congrArg some (by kernel_rfl))
  f252:=Tryz.func116.trans (congrArg some (by kernel_rfl))
  f290:=Tryz.func149.trans (congrArg some (by kernel_rfl))
  f324:=Tryz.func165.trans (congrArg some (by kernel_rfl))
  t0:=Tryz.underlying0
  a0:=Tryz.isAgg0
  z0:=Tryz.sizeOf0
  v0:=Tryz.zeroValue0
  t3:=Tryz.underlying3
  a3:=Tryz.isAgg3
  z3:=Tryz.sizeOf3
  v3:=Tryz.zeroValue3
  t4:=Tryz.underlying4
  a4:=Tryz.isAgg4
  z4:=Tryz.sizeOf4
  v4:=Tryz.zeroValue4
  t20:=Tryz.underlying20
  a20:=Tryz.isAgg20
  z20:=Tryz.sizeOf20
  v20:=Tryz.zeroValue20
  t37:=Tryz.underlying28
  a37:=Tryz.isAgg28
  z37:=Tryz.sizeOf28
  v37:=Tryz.zeroValue28
  t75:=Tryz.underlying138
  a75:=Tryz.isAgg138
  z75:=Tryz.sizeOf138
  v75:=Tryz.zeroValue138
  t91:=Tryz.underlying134
  a91:=Tryz.isAgg134
  z91:=Tryz.sizeOf134
  v91:=Tryz.zeroValue134
  t93:=Tryz.underlying136
  a93:=Tryz.isAgg136
  z93:=Tryz.sizeOf136
  v93:=Tryz.zeroValue136
  t130:=Tryz.underlying204
  a130:=Tryz.isAgg204
  z130:=Tryz.sizeOf204
  v130:=Tryz.zeroValue204
  t131:=Tryz.underlying205
  a131:=Tryz.isAgg205
  z131:=Tryz.sizeOf205
  v131:=Tryz.zeroValue205
  g14:=by kernel_rfl
  t5:=Tryz.underlying5
  a5:=Tryz.isAgg5
  z5:=Tryz.sizeOf5
  v5:=Tryz.zeroValue5
  t9:=Tryz.underlying9
  a9:=Tryz.isAgg9
  z9:=Tryz.sizeOf9
  v9:=Tryz.zeroValue9
  t80:=Tryz.underlying270
  a80:=Tryz.isAgg270
  z80:=Tryz.sizeOf270
  v80:=Tryz.zeroValue270
  i0:=by kernel_rfl
  i3:=by kernel_rfl
  i4:=by kernel_rfl
  i5:=by kernel_rfl
  i9:=by kernel_rfl
  i20:=by kernel_rfl
  i37:=by kernel_rfl
  i75:=by kernel_rfl
  i80:=by kernel_rfl
  i91:=by kernel_rfl
  i93:=by kernel_rfl
  i130:=by kernel_rfl
  i131:=by kernel_rfl
  m14:=by kernel_rfl}
def Tryz.Ag8:Go.Shelf.Ren:=⟨λ|183=>76|n=>n,λ|130=>204|37=>28|0=>0|93=>136|3=>3|5=>5|91=>134|n=>n,λ|n=>n⟩
theorem Tryz.Awg:Go.Proofs.LaysM.n183 Tryz.prog Tryz.Ag8:={
  mixed:=by kernel_rfl
  f183:=Tryz.func76.trans (congrArg some (by kernel_rfl))
  t0:=Tryz.underlying0
  a0:=Tryz.isAgg0
  z0:=Tryz.sizeOf0
  v0:=Tryz.zeroValue0
  t3:=Tryz.underlying3
  a3:=Tryz.isAgg3
  z3:=Tryz.sizeOf3
  v3:=Tryz.zeroValue3
  t37:=Tryz.underlying28
  a37:=Tryz.isAgg28
  z37:=Tryz.sizeOf28
  v37:=Tryz.zeroValue28
  t93:=Tryz.underlying136
  a93:=Tryz.isAgg136
  z93:=Tryz.sizeOf136
  v93:=Tryz.zeroValue136
  t130:=Tryz.underlying204
  a130:=Tryz.isAgg204
  z130:=Tryz.sizeOf204
  v130:=Tryz.zeroValue204
  t5:=Tryz.underlying5
  a5:=Tryz.isAgg5
  z5:=Tryz.sizeOf5
  v5:=Tryz.zeroValue5
  t91:=Tryz.underlying134
  a91:=Tryz.isAgg134
  z91:=Tryz.sizeOf134
  v91:=Tryz.zeroValue134
  i0:=by kernel_rfl
  i3:=by kernel_rfl
  i5:=by kernel_rfl
  i37:=by kernel_rfl
  i91:=by kernel_rfl
  i93:=by kernel_rfl
  i130:=by kernel_rfl}
theorem Tryz.Axf:Tryz.f72.ntmps=17:=by kernel_rfl
theorem Tryz.Axi:Tryz.f37.ntmps=48:=by kernel_rfl
theorem RX{l m r:LB}(h:Db l m=some r):r=l++m/\l.length+m.length<=17179869184:=by
  unfold Db ko at h;split at h
  · cases h;exact⟨rfl,by assumption⟩
  · cases h
theorem Ae0(B b:Nat)(bs l:List UInt8)(w:World)(h:Lib.IsBuffer 136 5 B b (Lib.byteCells bs) w)(hf:bs=[]->w.cell? ⟨b,0,none⟩=some (.slice none 0 0)/\1<=l.length/\l.length<=64)
    (hBw:B<=w.heap.size) (hlim:bs.length+l.length<=140737488355328):
    Calls Tryz.prog 73 #[.pointer (some ⟨b,0,none⟩),sv l] w λe w'=>e= .returned (.tuple #[.int .i64 l.length, .nilIface])/\Lib.IsBuffer 136 5 B b (Lib.byteCells (bs++l)) w'/\Below B w w'/\Rf.kL b w w':=
  Rf.Ahy Tryz.Av3 B b bs l w h hf hBw hlim
theorem Z1{A:Nat->Prop}(B b:Nat)(bs l:List UInt8)(v:Value)(w:World)(h:Lib.IsBuffer 136 5 B b (Lib.byteCells bs) w)(hBw:B<=w.heap.size)(hs:Rf.Src A w l v)(hA:¬A b)(hlim:bs.length+l.length<=140737488355328):
    Calls Tryz.prog 74 #[.pointer (some ⟨b,0,none⟩),v] w λe w'=>e= .returned (.tuple #[.int .i64 l.length, .nilIface])/\Lib.IsBuffer 136 5 B b (Lib.byteCells (bs++l)) w'/\Below B w w'/\Lib.OthersKept 5 (some b) w w':=
  Rf.Ahb Tryz.Asc B b bs l v w h hBw hs hA hlim
theorem Aok(B b:Nat)(bs:List Value)(w:World)(h:Lib.IsBuffer 136 5 B b bs w):
    Calls Tryz.prog 76 #[.pointer (some ⟨b,0,none⟩)] w λe w'=>∃v,e= .returned v/\w'.ownsRow B 5 1 v bs.length bs/\∃n,w'=w.drewN n:=
  Any.Buffer_Bytes Tryz.Awg B b bs w h
theorem qI{l id l':LB}{k:Int}(h:jT l id k=some l'):∃c,l'=l++id++c:=by
  obtain⟨⟨c,e⟩,_,h⟩:=Go.Lv.bind_some h;obtain⟨p,hp,h⟩:=Go.Lv.bind_some h;obtain⟨rfl,_⟩:=RX hp;obtain⟨rfl,_⟩:=RX h;exact⟨c,rfl⟩
set_option maxHeartbeats 2000000 in
set_option maxRecDepth 100000 in
theorem rE(n:Nat)(gl:List (Nat×List Value))(hC:ConOk Tryz.prog gl 47 ⟨[.lf (.int .u64) none, .lf (.int .i64) none],[.lf (.list (.int .u8)) (some 5), .lf (.int .i64) none],λx=>Ln x.1 x.2⟩)
    (B b:Nat) (l id l':LB) (k:Int) (W:World) (h:Lib.IsBuffer 136 5 B b (Lib.byteCells l) W) (hf:l=[]->W.cell? ⟨b,0,none⟩=some (.slice none 0 0)/\1<=id.length/\id.length<=64)
    (hBw:B<=W.heap.size) (hgl:GlOk gl (λ_=>True) W) (hy:jT l id k=some l'):
    CallsIn Fence.wide n Tryz.prog 72 #[sv id, .int .i64 k, .pointer (some ⟨b,0,none⟩)] W λe W'=>e= .returned (.tuple #[])/\Lib.IsBuffer 136 5 B b (Lib.byteCells l') W'/\Below B W W'/\Lib.OthersKept 5 (some b) W W':=by
  obtain⟨⟨c,e⟩,hle,hy⟩:=Go.Lv.bind_some hy;obtain⟨p,hp,hy⟩:=Go.Lv.bind_some hy;obtain⟨rfl,q1⟩:=RX hp;obtain⟨rfl,q2⟩:=RX hy;rw[List.length_append]at q2;refine callsIn_of_wp Tryz.func72 rfl trivial ?_ rfl;simp only[Tryz.Axf,List.size_toArray,List.length_cons,List.length_nil,Nat.reduceAdd,Nat.reduceSub,Array.replicate_succ,Array.replicate_zero,List.push_toArray,List.append_toArray,List.nil_append,List.cons_append];have hz:iv (Ad k:UInt64)= .int .u64 (IntKind.u64.wrap k):=congrArg (Value.int .u64) (GI.toZ_ofZ _);have hcall:=Rf.Aru hC (W:=W) (x:=Ad k) (n:=4) hgl hle;rw[hz]at hcall
  gi_wp2
  refine⟨trivial,(λh=>nomatch h),(callsIn_wide.2 hcall).mono ?_⟩;rintro e1 W1 ⟨v,rfl,hk,hs⟩;have hb1:=Rf.Xl hk;have h1:=Rf.vT h hb1.block;have hlt:=h.lt;have hc1:W1.cell? ⟨b,0,none⟩=W.cell? ⟨b,0,none⟩:=World.cell?_of_block (hb1.block b hlt)
  gi_wp2
  refine⟨trivial,(λh=>nomatch h),(callsIn_wide.2 (Ae0 B b l id W1 h1 (λe=>⟨hc1.trans (hf e).1,(hf e).2⟩) (Nat.le_trans hBw hb1.size) (by omega))).mono ?_⟩;rintro e2 W2 ⟨rfl,h2,hb2,hr2⟩;have hs2:Rf.Src (λk=>W.heap.size<=k/\k<W1.heap.size) W2 c v:=hs.keep λj hj=>hr2 j hj.2 (λe=>absurd hlt (by omega)) λad n c hc e=>by
    rw[hc1]at hc;have:=Rf.Auc h hc;omega
  gi_wp2
  refine⟨trivial,(λh=>nomatch h),(callsIn_wide.2 (Z1 B b (l++id) c v W2 h2 (Nat.le_trans hBw (Nat.le_trans hb1.size hb2.size)) hs2 (λh=>by omega) (by rw[List.length_append];omega))).mono ?_⟩;rintro e3 W3 ⟨rfl,h3,hb3,ho3⟩
  gi_wp2
  go_end0
  exact⟨rfl,h3,((hb1.mono hBw).trans hb2).trans hb3,(((Lib.OthersKept.refl _ _ W).below hb1).trans (Rf.I9 h1 hr2)).trans ho3⟩
theorem jv{gl:List (Nat×List Value)}{w W:World}{B:Nat}(h:GlOk gl (λ_=>True) w)(hB:w.heap.size<=B)(hb:Below B w W):GlOk gl (λ_=>True) W:=
  λp hp=>⟨Nat.lt_of_lt_of_le (h p hp).1 hb.size,trivial,by rw[hb.block _ (Nat.lt_of_lt_of_le (h p hp).1 hB)];exact(h p hp).2.2⟩
set_option maxHeartbeats 4000000 in
set_option maxRecDepth 100000 in
theorem I4(n:Nat)(gl:List (Nat×List Value))(hCk:ConOk Tryz.prog gl 71 ⟨[.lf .str none, .lf (.list (.cons .str (.cons (.list (.int .u8)) .nil))) none],[.lf (.int .i64) none],λx=>GK x.1 x.2⟩)(hSz:ConOk Tryz.prog gl 75 ⟨[.lf (.list (.cons .str (.cons (.list (.int .u8)) .nil))) none],[.lf (.int .i64) none],WN⟩)(hLe:ConOk Tryz.prog gl 47 ⟨[.lf (.int .u64) none, .lf (.int .i64) none],[.lf (.list (.int .u8)) (some 5), .lf (.int .i64) none],λx=>Ln x.1 x.2⟩)
    (w:World) (a:LB) (bl:List (LB×LB×Unit)) (vl:Value) (hv:Ap (λk=>k<w.heap.size) w (.list Rf.CH) bl [vl]) (hgl:GlOk gl (λ_=>True) w) (y:LB×Int) (hy:bC a bl=some y):
    CallsIn Fence.wide n Tryz.prog 37 #[sv a,vl] w λe w'=>∃v,e= .returned (.tuple #[v, .int .i64 y.2])/\KeepN (λ_=>True) w w'/\∃o,(Mob.own 1 5 v (Lib.byteCells y.1)).holds o w'/\∀k,o=some k->w.heap.size<=k/\k<w'.heap.size:=by
  unfold bC at hy;obtain⟨e,hck,hy⟩:=Go.Lv.bind_some hy;have hcall:=Rf.Aq9 (s:=a) hCk hv hgl hck;refine callsIn_of_wp Tryz.func37 rfl trivial ?_ rfl;simp only[Tryz.Axi,List.size_toArray,List.length_cons,List.length_nil,Nat.reduceAdd,Nat.reduceSub,Array.replicate_succ,Array.replicate_zero,List.push_toArray,List.append_toArray,List.nil_append,List.cons_append]
  gi_wp2
  refine⟨trivial,(λh=>nomatch h),(callsIn_wide.2 hcall).mono ?_⟩;rintro e1 w1 ⟨rfl,hk1⟩;have hlim:e=0->bl.length<=20:=λhe=>by
    by_cases hg:Eu (Ac bl) 20=true
    · have h4:GK a bl=some 4:=by unfold GK UF;rw[if_pos hg]
      rw[h4,he]at hck;cases hck
    · have:¬((20:Int)<(bl.length:Int)):=λh=>hg (by simpa [Eu,Ac,GI.toZ]using h)
      omega
  have e5:Bm e 0=(e !=0):=rfl;rw[e5]at hy;by_cases he:e=0
  case neg=>
    rw[if_pos (by simpa using he)]at hy;cases hy
    gi_wp2
    go_ret2
    exact⟨_,rfl,hk1,none,Rf.Agh,λk h=>nomatch h⟩
  have hlim:=hlim he;subst he;rw[if_neg (by simp)]at hy
  gi_wp2
  obtain⟨n1,hsz,hy⟩:=Go.Lv.bind_some hy;obtain⟨f,hf,hy⟩:=Go.Lv.bind_some hy;obtain⟨g,hg,hy⟩:=Go.Lv.bind_some hy;obtain⟨h,hh,hy⟩:=Go.Lv.bind_some hy;cases hy;have hb1:=Rf.Xl hk1;have hI0:=Lib.fresh_isBuffer 136 5 w1;have hc0:(w1.alloc (.cells #[.slice none 0 0, .int .i64 0, .int .i8 0] 136)).cell? ⟨w1.heap.size,0,none⟩=some (.slice none 0 0):=by rw[Lib.cell_of_heap (World.alloc_heap_new w1 _)];rfl
  have hb0:=(Below.refl w1.heap.size w1).alloc (Nat.le_refl _) (.cells #[.slice none 0 0, .int .i64 0, .int .i8 0] 136);generalize(w1.alloc (.cells #[.slice none 0 0, .int .i64 0, .int .i8 0] 136))=W0 at hI0 hc0 hb0⊢;have hbw0:=(hb1.trans (hb0.mono hb1.size));have hv0:Ap (λk=>k<w.heap.size) W0 (.list Rf.CH) bl [vl]:=Ap.step (λ_ h=>h) (λk hk=>hbw0.block k hk) hv;refine⟨trivial,(λh=>nomatch h),(callsIn_wide.2 (Rf.Aqr hSz hv0 (jv hgl (Nat.le_refl _) hbw0) hsz)).mono ?_⟩;rintro e2 W2 ⟨rfl,hk2⟩;have hb2:=Rf.Xl hk2;have hI2:=Rf.vT hI0 hb2.block;have hc2:W2.cell? ⟨w1.heap.size,0,none⟩=some (.slice none 0 0):=(World.cell?_of_block (hb2.block _ hI0.lt)).trans hc0;have hbw2:Below w1.heap.size w1 W2:=hb0.trans (hb2.mono hb0.size);clear hI0 hc0 hb0 hbw0 hv0 hb2 hk2
  gi_wp2
  refine⟨trivial,(λh=>nomatch h),(rE (n-1) gl hLe w1.heap.size w1.heap.size [] [82,73,70,70] f n1 W2 hI2 (λ_=>⟨hc2,by decide,by decide⟩) hbw2.size (jv hgl (Nat.le_refl _) (hb1.trans (hbw2.mono hb1.size))) hf).mono ?_⟩;rintro e3 W3 ⟨rfl,hI3,hb3,ho3⟩;obtain⟨c3,hf3⟩:=qI hf;have hfn:f≠ []:=by rw[hf3];simp
  have Auw:=hbw2.trans hb3;obtain⟨rfl,q1⟩:=RX hg
  gi_wp2
  refine⟨trivial,(λh=>nomatch h),(callsIn_wide.2 (Ae0 _ _ f a W3 hI3 (λe=>absurd e hfn) Auw.size (by omega))).mono ?_⟩;rintro e4 W4 ⟨rfl,hI4,hb4,hr4⟩;have Ayo:=Auw.trans hb4;have hgn:f++a≠ []:=by simp[hfn]
  clear hI2 hc2 hI3 hb3 ho3 hr4 hbw2 Auw hb4 hf3;obtain⟨v1,c0,e1,⟨p,len,cap,rfl,hl1,hl2,hl3,hl4⟩,hall⟩:=(show∃v c0,[vl]=[v]/\Rd _ w 2 v c0/\Bq (Ap _ w Rf.CH) bl c0 from hv);cases e1;have hlen:bl.length=len:=by
    have:=Bq.len (z:=2) (λx c h=>Rf.Atq h) hall;omega
  gi_wp2
  refine zm (bl.length+1) (λq a W=>∃(i:Nat) (l:LB) (z:Int) (x0 x1 x2 x3 x4 x5 x6 x9 x10 x11 x12 x13 x14 x15 x16 x17 x18 x19 x20 x21 x22 x23 x27 x28 x29 x30 x31 x32 x33 x34 x35 x36 x37 x38 x39 x40 x41 x42 x43 x44 x45 x46 x47:Value),a={tmps:= #[x0,x1,x2,x3,x4,x5,x6, .pointer (some ⟨w1.heap.size,0,none⟩), .func (.func 72) #[] #[.pointer (some ⟨w1.heap.size,0,none⟩)],x9,x10,x11,x12,x13,x14,x15,x16,x17,x18,x19,x20,x21,x22,x23, .slice p len cap, .int .i64 len, .int .i64 z,x27,x28,x29,x30,x31,x32,x33,x34,x35,x36,x37,x38,x39,x40,x41,x42,x43,x44,x45,x46,x47],defers:=[]}/\z=(i:Int)/\q+i=bl.length+1/\i<=bl.length/\
    Lib.IsBuffer 136 5 w1.heap.size w1.heap.size (Lib.byteCells l) W/\l≠ []/\Below w1.heap.size w1 W/\oR (bl.drop i) l=some h) ?_ ?_ ?_
  · rintro a W ⟨i,l,z,x0,x1,x2,x3,x4,x5,x6,x9,x10,x11,x12,x13,x14,x15,x16,x17,x18,x19,x20,x21,x22,x23,x27,x28,x29,x30,x31,x32,x33,x34,x35,x36,x37,x38,x39,x40,x41,x42,x43,x44,x45,x46,x47,_,_,hq,hi,_⟩
    omega
  · rintro q a W ⟨i,l,_,x0,x1,x2,x3,x4,x5,x6,x9,x10,x11,x12,x13,x14,x15,x16,x17,x18,x19,x20,x21,x22,x23,x27,x28,x29,x30,x31,x32,x33,x34,x35,x36,x37,x38,x39,x40,x41,x42,x43,x44,x45,x46,x47,rfl,rfl,hq,hi,hI,hl,hb,hr⟩
    by_cases hlt:i<bl.length
    · obtain⟨c,hc⟩:∃c,bl[i]? =some c:=⟨_,List.getElem?_eq_getElem hlt⟩
      have hd:bl.drop i=c::bl.drop (i+1):=by
        rw[List.drop_eq_getElem_cons hlt];rw[List.getElem?_eq_getElem hlt]at hc;rw[Option.some.inj hc]
      rw[hd]at hr;simp only[oR]at hr;obtain⟨l1,r1,hr⟩:=Go.Lv.bind_some hr;obtain⟨l2,r2,hr⟩:=Go.Lv.bind_some hr;obtain⟨z,r3,hr⟩:=Go.Lv.bind_some hr;obtain⟨l3,r4,hr⟩:=Go.Lv.bind_some hr;obtain⟨vd,g1,g2,g3⟩:=Rf.xw hall hc;obtain⟨bk,off,arr,T,fr,rfl,hbk,hheap,hsz2,hcells⟩:=hl4 (by omega);have hsrc:=Rf.Atc g3;obtain⟨pd,_,Aea,rfl,rfl,d2,d3⟩:=id hsrc;have Ayp:Below w.heap.size w W:=hb1.trans (hb.mono hb1.size);have hW:W.heap[bk]? =some (.cells arr T fr):=(Ayp.block _ hbk).trans hheap;have ha0:W.cell? ⟨bk,off+i*2,none⟩=some (sv c.1):=by rw[Lib.cell_of_heap hW,Nat.mul_comm i 2];exact(hcells (2*i) (by omega)).trans g1
      have ha1:W.cell? ⟨bk,off+i*2+1,none⟩=some (.slice pd c.2.1.length Aea):=by rw[Lib.cell_of_heap hW,Nat.mul_comm i 2,Nat.add_assoc];exact(hcells (2*i+1) (by omega)).trans g2
      gi_wp2
      have hIa:=Rf.vT hI (λk hk=>Below.heap_alloc W (.cells #[sv c.1, .slice pd c.2.1.length Aea] 85) k hk);have hka:(W.alloc (.cells #[sv c.1, .slice pd c.2.1.length Aea] 85)).heap[W.heap.size]? =some (.cells #[sv c.1, .slice pd c.2.1.length Aea] 85 (0,0)):=World.alloc_heap_new W _;have hba:=hb.alloc hb.size (.cells #[sv c.1, .slice pd c.2.1.length Aea] 85);have hkb:W.heap.size≠w1.heap.size:=λe=>absurd hI.lt (by omega);refine⟨trivial,(λh=>nomatch h),(rE (n-1) gl hLe _ _ l c.1 l1 _ _ hIa (λe=>absurd e hl) hba.size (jv hgl (Nat.le_refl _) (hb1.trans (hba.mono hb1.size))) r1).mono ?_⟩;rintro e5 W5 ⟨rfl,hI5,hb5,ho5⟩;have hk5:=ho5 _ _ hka (λe=>hkb (Option.some.inj e)) (λc fz e=>by cases e);have c5:W5.cell? ⟨W.heap.size,1,none⟩=some (.slice pd c.2.1.length Aea):=by rw[Lib.cell_of_heap hk5];rfl
      have hb5':=hba.trans hb5;obtain⟨rfl,q2⟩:=RX r2;obtain⟨rfl,q3⟩:=RX r4;obtain⟨c1,hl1⟩:=qI r1
      gi_wp2
      refine⟨trivial,(λh=>nomatch h),(callsIn_wide.2 (Z1 (A:=λk=>k<w.heap.size) _ _ l1 c.2.1 _ W5 hI5 hb5'.size (hsrc.keep λk hk=>(hb1.trans (hb5'.mono hb1.size)).block k hk) (λh=>absurd hb1.size (by omega)) (by omega))).mono ?_⟩;rintro e6 W6 ⟨rfl,hI6,hb6,ho6⟩;have hk6:=ho6 _ _ hk5 (λe=>hkb (Option.some.inj e)) (λc fz e=>by cases e);have c6:W6.cell? ⟨W.heap.size,1,none⟩=some (.slice pd c.2.1.length Aea):=by rw[Lib.cell_of_heap hk6];rfl
      have hb6':=hb5'.trans hb6;clear hIa hka hba hI5 hb5 ho5 hk5 c5 hb5' hb6 ho6 hk6 ha0 ha1 hW;have hbit:bits BinOp.and IntKind.i64 (c.2.1.length:Int) 1=((c.2.1.length %2:Nat):Int):=Rf.Amb c.2.1.length (by omega);obtain⟨m,hm2⟩:∃m:Nat,m=c.2.1.length %2:=⟨_,rfl⟩;rw[<-hm2]at hbit;have Asy:Di (Ac c.2.1) 1=(m:Int):=hbit;rw[Asy]at r3;have hm1:m<=1:=by omega
      obtain rfl:z=List.replicate m 0:=by
        unfold mkI at r3;split at r3
        · cases r3;rfl
        · cases r3
      obtain⟨i0,hi0,hz0,hz1,hz2⟩:=info_parts Tryz.Asc.i5;obtain⟨M,hmk,hms⟩:=Rf.Ac5 (P:=Tryz.prog) (TB:=28) (U8:=5) Tryz.underlying28 hi0 hz0 hz1 hz2 m hm1;clear hm2 Asy r3 hi0 hz0 hz1 hz2
      gi_wp2
      refine⟨trivial,(λh=>nomatch h),(callsIn_wide.2 (Z1 (A:=λk=>k=W6.heap.size) _ _ (l1++c.2.1) (List.replicate m 0) _ _ (Rf.vT hI6 (λk hk=>Below.heap_alloc W6 (.cells M 5) k hk)) (hb6'.alloc hb6'.size (.cells M 5)).size (hms W6) (λe=>absurd hI6.lt (by omega)) (by rw[List.length_append];rw[List.length_append]at q3;omega))).mono ?_⟩;rintro e8 W8 ⟨rfl,hI8,hb8,ho8⟩;have hb8':=(hb6'.alloc hb6'.size (.cells M 5)).trans hb8
      gi_wp2
      exact⟨i+1,l1++c.2.1++List.replicate m 0,_,_,_,_,_,_,_,_,_,_,_,_,_,_,_,_,_,_,_,_,_,_,_,_,_,_,_,_,_,_,_,_,_,_,_,_,_,_,_,_,_,_,_,_,rfl,by omega,by omega,by omega,hI8,by simp[hl1,hl],hb8',hr⟩
    · obtain rfl:i=bl.length:=by omega
      rw[List.drop_length]at hr;obtain rfl:l=h:=Option.some.inj hr
      gi_wp2
      refine⟨trivial,(λh=>nomatch h),(callsIn_wide.2 (Aok _ _ _ W hI)).mono ?_⟩;rintro e9 W9 ⟨v,rfl,hown,n9,rfl⟩
      gi_wp2
      go_ret2
      have hbf:=(hb1.trans (hb.mono hb1.size)).trans (Rf.za _ W n9);obtain⟨o,ho1,ho2⟩:=Rf.Adf hown;exact⟨_,rfl,Rf.Aet hbf,o,ho1,λk hk=>⟨Nat.le_trans hb1.size (ho2 k hk).1,(ho2 k hk).2⟩⟩
  · exact⟨0,f++a,_,_,_,_,_,_,_,_,_,_,_,_,_,_,_,_,_,_,_,_,_,_,_,_,_,_,_,_,_,_,_,_,_,_,_,_,_,_,_,_,_,_,_,_,rfl,rfl,by omega,Nat.zero_le _,hI4,hgn,Ayo,by simpa using hh⟩
noncomputable def aA:Con:=⟨Akc,Alb,λx=>bC x.1 x.2⟩
theorem J3{gl:List (Nat×List Value)}(hE:Ent Tryz.prog 37)(hCk:ConOk Tryz.prog gl 71 ⟨[.lf .str none, .lf (.list (.cons .str (.cons (.list (.int .u8)) .nil))) none],[.lf (.int .i64) none],λx=>GK x.1 x.2⟩)(hSz:ConOk Tryz.prog gl 75 ⟨[.lf (.list (.cons .str (.cons (.list (.int .u8)) .nil))) none],[.lf (.int .i64) none],WN⟩)(hLe:ConOk Tryz.prog gl 47 ⟨[.lf (.int .u64) none, .lf (.int .i64) none],[.lf (.list (.int .u8)) (some 5), .lf (.int .i64) none],λx=>Ln x.1 x.2⟩):ConOk Tryz.prog gl 37 aA:=by
  refine⟨hE,?_⟩;rintro R N w L0 vs ps ⟨a,bl⟩ y hargs hlen hit tV hvs hgl hy;obtain rfl:=Option.some.inj (show some [PV.val .str a,PV.val (.list Rf.CH) bl]=some ps from hargs);obtain⟨v0,_,rfl,h0,v,_,rfl,h1,rfl⟩:=hvs;obtain rfl:v0=sv a:=by cases(show [v0]=[sv a]from h0);rfl
  have h2:Ap (λb=>R b/\N b) w (.list Rf.CH) bl [v]:=h1;have h3:=Ap.step (B':=λk=>k<w.heap.size) (λ_ h=>h.1) (λ_ _=>rfl) (Ut h2);refine(callsIn_wide.1 (I4 3 gl hCk hSz hLe w a bl v h3 (λq hq=>⟨(hgl q hq).1,trivial,(hgl q hq).2.2⟩) y hy)).mono ?_;rintro e w' ⟨u,rfl,hk,o,ho1,ho2⟩;refine⟨[u, .int .i64 y.2],rfl,⟨λb hb _=>hk.same b hb trivial,hk.gr⟩,λ_=>False,[.own 1 5 u (Lib.byteCells y.1)],λ_ h=>h.elim,?_,?_⟩
  · exact⟨o,ho1,λb hb=>⟨λh=>h.elim id λh=>absurd (ho2 b hb).1 (by have:=h.1;omega),(ho2 b hb).2⟩,trivial⟩
  · intro s L B' hl _ _
    refine⟨[.own s.it.length, .val (.int .i64) y.2],[.arr 5 (.int .u8) y.1],rfl,rfl,?_,rfl,λi a m h1 h2=>?_⟩
    · refine⟨_,_,rfl,⟨1,5,u,Lib.byteCells y.1,?_,rfl⟩,_,_,rfl,rfl,rfl⟩
      rw[<-hl];simp
    · cases i with
      |zero=>
        cases h1;cases h2;exact⟨rfl,rfl,Rf.bE y.1⟩
      |succ i=>simp at h1
theorem Tryz.nt5:Tryz.f5.ntmps=51:=by kernel_rfl
set_option maxHeartbeats 4000000 in
set_option maxRecDepth 100000 in
theorem Z6(n:Nat)(gl:List (Nat×List Value))(hF:ConOk Tryz.prog gl 15 ⟨[.lf .str none],[.lf (.list (.int .u8)) (some 5)],Nl⟩)(hI:ConOk Tryz.prog gl 16 ⟨[.lf (.list (.int .u8)) none, .lf .str none, .lf (.int .i64) none],[.lf .bool none],λx=>Ci x.1 x.2.1 x.2.2⟩)(w:World)(hgl:GlOk gl (λ_=>True) w)(y:Bool)(hy:Gw=some y):
    CallsIn Fence.wide n Tryz.prog 5 #[] w λe w'=>e= .returned (.bool y)/\KeepN (λ_=>True) w w':=by
  unfold Gw at hy;obtain⟨b,hb,hy⟩:=Go.Lv.bind_some hy;refine callsIn_of_wp Tryz.func5 rfl trivial ?_ rfl;simp only[Tryz.nt5,List.size_toArray,List.length_cons,List.length_nil,Nat.reduceAdd,Nat.reduceSub,Array.replicate_succ,Array.replicate_zero,List.push_toArray,List.append_toArray,List.nil_append,List.cons_append]
  gi_wp2
  refine⟨trivial,(λh=>nomatch h),(callsIn_wide.2 (Rf.Ap6 hF (W:=w) hgl hb)).mono ?_⟩;rintro e1 w1 ⟨v,o,rfl,hk1,ho1,hn1⟩;have hb1:=Rf.Xl hk1;by_cases h40:b.length<40
  · rw[if_pos (show Cc (Ac b) 40=true from decide_eq_true (by show(b.length:Int)<40;omega))]at hy
    cases hy;obtain⟨p,len,cap,rfl,g1, -⟩:=id ho1;have hlen:len=b.length:=by simpa [Lib.byteCells]using g1.symm
    subst hlen;have h40':(b.length:Int)<40:=by omega
    gi_wp2
    go_ret
    exact⟨rfl,hk1⟩
  rw[if_neg (show ¬Cc (Ac b) 40=true from λe=>by have e:=of_decide_eq_true e;have e:(b.length:Int)<40:=e;omega)]at hy;have h40':¬(b.length:Int)<40:=by omega
  obtain⟨c,hc,hy⟩:=Go.Lv.bind_some hy;obtain⟨x,hx,hy⟩:=Go.Lv.bind_some hy;obtain⟨d,hd,hy⟩:=Go.Lv.bind_some hy;obtain⟨k,cap,arr,fr,rfl,rfl,hcap,hk,hsz,hfr,harr⟩:=Rf.Aaz ho1 (by omega);obtain⟨i0,hi0,hz0,hz1,hz2⟩:=info_parts (show(Tryz.prog.info? 5).map (λi=>(i.zero,i.size,i.bytes))=some (some (Value.int IntKind.u8 0),1,1) by kernel_rfl);have hW0:=(Below.refl w1.heap.size w1).alloc (Nat.le_refl _) (.cells #[] 5);have hkw:k<w1.heap.size:=(hn1 k rfl).2;have hsr:∀j v,(Lib.byteCells b)[j]? =some v-> (w1.alloc (.cells #[] 5)).cell? ((⟨k,0,none⟩:Addr).add j)=some v:=λj v hj=>by
    have hj':j<b.length:=by have:=(List.getElem?_eq_some_iff.1 hj).1;simpa [Lib.byteCells]using this
    rw[Lib.addr_add,Nat.zero_add,Lib.cell_of_heap ((Below.heap_alloc w1 _ k hkw).trans hk),harr j hj'];exact hj
  have Awy:([]:List UInt8).length+b.length<=17179869184:=Rf.Af8 hc;obtain rfl:b=c:=(Rf.Alh hc).symm;have hg0:0<([]:List UInt8).length+b.length:=by rw[List.length_nil];omega
  gi_wp2_with (gi_at_builtin;refine Hid.out ?_)
  refine Lib.hid ?_;refine Rf.Alr _ rfl _ _ 28 5 rfl Tryz.underlying28 hi0 hz0 hz1 hz2 ⟨w1.heap.size,0,none⟩ ⟨k,0,none⟩ [] b 0 b.length 0 cap rfl rfl rfl rfl (λj v h=>by simp[Lib.byteCells]at h) hsr hg0 Awy ?_;intro v2 w2 ho2 hb2 hl2;simp only[List.nil_append]at ho2 hx hd;obtain⟨k2,cap2,Ayq,fr2,e2,rfl,hcap2,hk2,hsz2,hfr2,Asz⟩:=Rf.Aaz ho2 (by omega);obtain rfl:k2=w1.heap.size+1:=by
    have:=Option.some.inj e2;rw[World.size_alloc]at this;exact this.symm
  have hw2:=hW0.trans (hb2.mono hW0.size);have hk2b:w2.heap[k]? =some (.cells arr 5 fr):=(hb2.block k (by rw[World.size_alloc];omega)).trans ((Below.heap_alloc w1 _ k hkw).trans hk);clear hsr e2;have hix:Ah (Ac b) 6=((b.length-6:Nat):Int):=by
    rw[show Ah (Ac b) 6=Go.Lv.wrap64 ((b.length:Int)-6)from rfl,Go.Lv.Bp (by omega) (by omega)];omega
  rw[hix]at hx hd;have hxb:b[b.length-6]? =some x:=by simpa [Go.Lv.Aj]using hx
  have hcell:w2.cell? ⟨w1.heap.size+1,b.length-6,none⟩=some (.int .u8 x.toNat):=by
    rw[Lib.cell_of_heap hk2,Asz _ (by omega)];simp[Lib.byteCells,hxb]
  have Ayr:w2.frozen? ⟨w1.heap.size+1,b.length-6,none⟩=false:=by
    simp only[World.frozen?,hk2,Bool.and_eq_false_iff,decide_eq_false_iff_not];rcases hfr2 with h|h<;>omega
  have hbx:bits BinOp.xor IntKind.u8 (x.toNat:Int) 1=((Rk x 1:UInt8).toNat:Int):=(GI.toZ_ofZ (T:=UInt8) _).symm;obtain⟨g,hg⟩:∃g:UInt8,g=Rk x 1:=⟨_,rfl⟩;rw[<-hg]at hbx hd;clear hg;obtain rfl:d=b.set (b.length-6) g:=by
    unfold Je at hd;rw[if_pos ⟨by omega,by omega⟩,Int.toNat_natCast]at hd;exact(Option.some.inj hd).symm
  clear hd hx hix;obtain⟨hk3,Ays,Awz⟩:=Rf.Aqk hk2 hsz2 Asz (b.length-6) (by omega) g;have hk3b:(w2.setCell ⟨w1.heap.size+1,b.length-6,none⟩ (.int .u8 g.toNat)).heap[k]? =some (.cells arr 5 fr):=(Below.heap_setCell _ _ _ _ (by show k≠w1.heap.size+1;omega)).trans hk2b;have hw3:Below w1.heap.size w1 (w2.setCell ⟨w1.heap.size+1,b.length-6,none⟩ (.int .u8 g.toNat)):=hw2.setCell (p:=⟨w1.heap.size+1,b.length-6,none⟩) (Nat.le_succ _) _;have hk2l:w1.heap.size+1<(w2.setCell ⟨w1.heap.size+1,b.length-6,none⟩ (.int .u8 g.toNat)).heap.size:=Lib.lt_of_heap hk3;obtain⟨t1,ht1,hy⟩:=Go.Lv.bind_some hy
  gi_wp2
  generalize(w2.setCell ⟨w1.heap.size+1,b.length-6,none⟩ (.int .u8 g.toNat))=w3 at hk3 hk3b hw3 hk2l⊢;have kb:∀W,Below w3.heap.size w3 W->W.heap[k]? =some (.cells arr 5 fr):=λW hW=>(hW.block k (by omega)).trans hk3b;have kd:∀W,Below w3.heap.size w3 W->W.heap[w1.heap.size+1]? =some (.cells (Ayq.setIfInBounds (b.length-6) (.int .u8 g.toNat)) 5 fr2):=λW hW=>(hW.block _ hk2l).trans hk3;have gW:∀W,Below w3.heap.size w3 W->GlOk gl (λ_=>True) W:=λW hW p hp=>⟨Nat.lt_of_lt_of_le (hgl p hp).1 (Nat.le_trans hb1.size (Nat.le_trans hw3.size hW.size)),trivial,by
    rw[hW.block _ (Nat.lt_of_lt_of_le (hgl p hp).1 (Nat.le_trans hb1.size hw3.size)),hw3.block _ (Nat.lt_of_lt_of_le (hgl p hp).1 hb1.size),hb1.block _ (hgl p hp).1];exact(hgl p hp).2.2⟩
  have fin:∀W,Below w3.heap.size w3 W->KeepN (λ_=>True) w W:=λW hW=>Rf.Aet (hb1.trans ((hw3.mono hb1.size).trans (hW.mono (Nat.le_trans hb1.size hw3.size))));have eb:∀W,Below w3.heap.size w3 W->Ap (λj=>some k=some j) W (.list (.int .u8)) b [.slice (some ⟨k,0,none⟩) b.length cap]:=λW hW=>by
    have:=Rf.enc_row (kb W hW) hsz harr (Nat.le_refl _) hcap;rwa [List.take_length]at this
  clear hcell Ayr hbx hk2 hk2b hw2;refine⟨trivial,(λh=>nomatch h),(callsIn_wide.2 (Rf.XI hI (eb w3 (Below.refl _ _)) (gW w3 (Below.refl _ _)) ht1)).mono ?_⟩;rintro e3 W1 ⟨rfl,hK1⟩;have hB1:=Rf.Xl hK1;rcases t1 with _|_
  · rw[if_pos (by decide)]at hy
    cases hy
    gi_wp2
    refine⟨trivial,?_⟩
    gi_wp2
    refine⟨trivial,?_⟩
    gi_wp2
    refine⟨trivial,?_⟩
    gi_wp2
    refine⟨trivial,?_⟩
    gi_wp2
    refine⟨trivial,?_⟩
    gi_wp2
    go_ret
    exact⟨rfl,fin W1 hB1⟩
  rw[if_neg (by decide)]at hy;obtain⟨t2,ht2,hy⟩:=Go.Lv.bind_some hy
  gi_wp2
  refine⟨trivial,(λh=>nomatch h),(callsIn_wide.2 (Rf.XI hI (eb W1 hB1) (gW W1 hB1) ht2)).mono ?_⟩;rintro e4 W2 ⟨rfl,hK2⟩;have hB2:=hB1.trans ((Rf.Xl hK2).mono hB1.size);rcases t2 with _|_
  · rw[if_pos (by decide)]at hy
    cases hy
    gi_wp2
    refine⟨trivial,?_⟩
    gi_wp2
    refine⟨trivial,?_⟩
    gi_wp2
    refine⟨trivial,?_⟩
    gi_wp2
    refine⟨trivial,?_⟩
    gi_wp2
    go_ret
    exact⟨rfl,fin W2 hB2⟩
  rw[if_neg (by decide)]at hy;obtain⟨t3,ht3,hy⟩:=Go.Lv.bind_some hy
  gi_wp2
  refine⟨trivial,(λh=>nomatch h),(callsIn_wide.2 (Rf.XI hI (eb W2 hB2) (gW W2 hB2) ht3)).mono ?_⟩;rintro e5 W3 ⟨rfl,hK3⟩;have hB3:=hB2.trans ((Rf.Xl hK3).mono hB2.size);rcases t3 with _|_
  · rw[if_pos (by decide)]at hy
    cases hy
    gi_wp2
    refine⟨trivial,?_⟩
    gi_wp2
    refine⟨trivial,?_⟩
    gi_wp2
    refine⟨trivial,?_⟩
    gi_wp2
    go_ret
    exact⟨rfl,fin W3 hB3⟩
  rw[if_neg (by decide)]at hy;obtain⟨o4,ho4,hy⟩:=Go.Lv.bind_some hy;obtain⟨t4,ht4,hy⟩:=Go.Lv.bind_some hy;have Aw0:=Rf.Af8 ho4;obtain rfl:=Rf.Alh ho4
  gi_wp2_with (gi_at_builtin;refine Hid.out ?_)
  refine Lib.hid ?_;refine Rf.Alr _ rfl _ _ 28 5 rfl Tryz.underlying28 hi0 hz0 hz1 hz2 ⟨k,0,none⟩ ⟨W3.heap.size,0,none⟩ b [0] b.length 1 b.length 1 rfl rfl rfl rfl (Rf.Ap5 ((Below.heap_alloc W3 _ k (Lib.lt_of_heap (kb W3 hB3))).trans (kb W3 hB3)) harr)
    (λj v h=>by rw[Lib.addr_add,Nat.zero_add,Lib.cell_of_heap (World.alloc_heap_new W3 _)];simpa [Lib.byteCells]using h) (by simp) Aw0 ?_
  intro v4 W4 ho5 hb4 hl4;have hA4:=hB3.alloc hB3.size (.cells #[.int .u8 0] 5);have hB4:=hA4.trans (hb4.mono hA4.size)
  gi_wp2
  refine⟨trivial,(λh=>nomatch h),(callsIn_wide.2 (Rf.XI hI (Rf.Aqe ho5) (gW W4 hB4) ht4)).mono ?_⟩;rintro e6 W5 ⟨rfl,hK5⟩;have hB5:=hB4.trans ((Rf.Xl hK5).mono hB4.size);rcases t4 with _|_
  · rw[if_pos (by decide)]at hy
    cases hy
    gi_wp2
    refine⟨trivial,?_⟩
    gi_wp2
    refine⟨trivial,?_⟩
    gi_wp2
    go_ret
    exact⟨rfl,fin W5 hB5⟩
  rw[if_neg (by decide)]at hy;obtain⟨u,hu,hy⟩:=Go.Lv.bind_some hy;obtain⟨t5,ht5,hy⟩:=Go.Lv.bind_some hy;have Aw2:Ah (Ac b) 1=((b.length-1:Nat):Int):=by
    rw[show Ah (Ac b) 1=Go.Lv.wrap64 ((b.length:Int)-1)from rfl,Go.Lv.Bp (by omega) (by omega)];omega
  rw[Aw2]at hu;obtain rfl:u=b.take (b.length-1):=by
    unfold Bw at hu;rw[if_pos ⟨by omega,by omega,by omega⟩]at hu;simpa using(Option.some.inj hu).symm
  clear Aw2 hu
  gi_wp2
  refine⟨trivial,(λh=>nomatch h),(callsIn_wide.2 (Rf.XI hI (Rf.enc_row (kb W5 hB5) hsz harr (n:=b.length-1) (by omega) hcap) (gW W5 hB5) ht5)).mono ?_⟩;rintro e7 W6 ⟨rfl,hK6⟩;have hB6:=hB5.trans ((Rf.Xl hK6).mono hB5.size);rcases t5 with _|_
  · rw[if_pos (by decide)]at hy
    cases hy
    gi_wp2
    refine⟨trivial,?_⟩
    gi_wp2
    go_ret
    exact⟨rfl,fin W6 hB6⟩
  rw[if_neg (by decide)]at hy;have ed:Ap (λj=>some (w1.heap.size+1)=some j) W6 (.list (.int .u8)) (b.set (b.length-6) g) [.slice (some ⟨w1.heap.size+1,0,none⟩) b.length cap2]:=by
    have:=Rf.enc_row (kd W6 hB6) Ays Awz (Nat.le_refl _) (by rw[List.length_set];exact hcap2);rwa [List.take_length,List.length_set]at this
  gi_wp2
  refine⟨trivial,(λh=>nomatch h),(callsIn_wide.2 (Rf.XI hI ed (gW W6 hB6) hy)).mono ?_⟩;rintro e8 W7 ⟨rfl,hK7⟩;have hB7:=hB6.trans ((Rf.Xl hK7).mono hB6.size)
  gi_wp2
  go_ret
  exact⟨rfl,fin W7 hB7⟩
noncomputable def Nt:Con:=⟨[],[.lf .bool none],λ_=>Gw⟩
theorem dK{gl:List (Nat×List Value)}(hE:Ent Tryz.prog 5)(hF:ConOk Tryz.prog gl 15 ⟨[.lf .str none],[.lf (.list (.int .u8)) (some 5)],Nl⟩)(hI:ConOk Tryz.prog gl 16 ⟨[.lf (.list (.int .u8)) none, .lf .str none, .lf (.int .i64) none],[.lf .bool none],λx=>Ci x.1 x.2.1 x.2.2⟩):ConOk Tryz.prog gl 5 Nt:=by
  refine⟨hE,?_⟩;intro R N w L0 vs ps x y hargs hlen hit tV hvs hgl hy;obtain rfl:=Option.some.inj (show some ([]:List PV)=some ps from hargs);obtain rfl:vs=[]:=hvs;have hy:Gw=some y:=by
    dsimp only[Nt]at hy;exact hy
  refine(callsIn_wide.1 (Z6 3 gl hF hI w (λq hq=>⟨(hgl q hq).1,trivial,(hgl q hq).2.2⟩) y hy)).mono ?_;rintro e w' ⟨rfl,hk⟩;refine⟨[.bool y],rfl,⟨λb hb _=>hk.same b hb trivial,hk.gr⟩,λ_=>False,[],λ_ h=>h.elim,trivial,λs L B' hl _ _=>?_⟩;exact⟨[.val .bool y],[],(show s=⟨s.sl,s.it++[],s.st⟩ by simp),rfl,⟨_,_,rfl,rfl,rfl⟩,rfl,λi a m h=>by simp at h⟩
end Go.Proofs.YtnckeeijjkphaaaGreatDoor
