/- A part of a proof (see the text that ends in Proof). No conditions. -/
import Derived.Test.YtaokmgopghpikaaGreatDoorVgPA
import Derived.Test.YtaokmgopghpikaaGreatDoorProg
import Derived.KernelRfl
import Derived.RangeFuncKeeps
import Derived.RangeFuncWrites
import Derived.Shelf.Abstract
import Derived.Test.YtaokmgopghpikaaGreatDoorVgRA
namespace Go
theorem F4{p:Prop}(h:p:=by kernel_rfl):p:=h
end Go
set_option linter.unusedVariables false
set_option linter.unusedSimpArgs false
namespace Go.Proofs.YtaokmgopghpikaaGreatDoor
open Go.RowKit Go.Shelf Go Go.Rx Go.Lv Go.Pl
attribute [local go_sem] Oper.semAt_some
noncomputable def zA:Con:=⟨[.lf (.int .i64) none, .lf (.int .i64) none],[.lf (.list (.int .i64)) (some 3), .lf (.int .i64) none],λx=>Uo x.1 x.2⟩
noncomputable def Uv(gl:List (Nat×List Value)):Tab:=⟨[(141,zA)],gl,false,false⟩
noncomputable abbrev HD{R:Type}(gl:List (Nat×List Value)):sM R:=GP Tryz.prog (Uv gl) 8 []
noncomputable def vZ:Code:=fB Tryz.f140
noncomputable def rM:Code:=cB vZ
noncomputable def pN:Code:=cB rM
noncomputable def gy:Code:=cA (cA (cB pN))
noncomputable def tN:Code:=cB (cB gy)
noncomputable def qm:Code:=cA (cA tN)
noncomputable def H2:Code:=cB (cB qm)
noncomputable def n_:Code:=cA vZ
noncomputable def pS:Code:=cA rM
noncomputable def mg:Code:=cA pN
noncomputable def t?:Code:=cA gy
noncomputable def oo:Code:=cA (cB gy)
noncomputable def oW:Code:=cB tN
noncomputable def rG:Code:=cA qm
noncomputable def qL:Code:=cA (cB qm)
noncomputable def sC:Code:=cB H2
noncomputable def tu:List Oper:=cO (cA (cA H2))
noncomputable def su:Code:=cB (cA H2)
noncomputable def qN:List Oper:=tu.take 6
noncomputable def aB:Oper:=oAt tu 6
noncomputable def jT:Oper:=oAt tu 7
theorem Ag2:Tryz.f140.body=some (.seq n_ (.seq pS (.seq mg (.block 0 (.loop (.seq t? (.seq oo (.seq (.block 1 (.seq rG (.seq qL (.seq (.seq (.region 6 (qN++aB::[jT]).toArray false) su) sC)))) oW)))))))):=F4
theorem Aqe:Tryz.f140.ntmps=43:=F4
theorem Aj5:aB.guard=none:=F4
theorem Alm:aB.dst=some 39:=F4
theorem E_:aB.op= .call ⟨.value (.tmp 33), #[.tmp 38], #[35]⟩:=F4
abbrev Jc(a f h:Int)(b:LX):PV:= .agg [vi a,vi f,vi h,vw b]
abbrev OZ(y:Value)(v:PV)(ls:LI)(i x:Int):Slots:=[(0, .cst y),(1, .rptr v),(5,vi x),(21,vl ls),(22,vi (Ac ls)),(23,vi i)]
abbrev UT(lv:List Nat):K (Nat×S):=kC lv []
abbrev Ft(l:Nat):Value:= .func (.yield l) #[] #[]
theorem Anv(gl:List (Nat×List Value))(l:Nat)(a f h:Int)(b:LX):ex Tryz.prog (Uv gl) (HD gl) 43 n_ .d (kC [0,1,3] [⟨3,[], .ro (.int .i64)⟩]) ⟨[(0, .cst (Ft l)),(1, .rptr (Jc a f h b))],[],[]⟩=
    Option.bind (Hu (Bl a 0)) λ_=>Option.bind (Uo h (Cb (Ac b) a)) λp=>some (0,⟨[(0, .cst (Ft l)),(1, .rptr (Jc a f h b)),(3,vl p.1)],[],[]⟩):=F4
theorem Ao7(gl:List (Nat×List Value))(l:Nat)(v:PV)(ls:LI):ex Tryz.prog (Uv gl) (HD gl) 43 pS .d (UT [0,1,3,5]) ⟨[(0, .cst (Ft l)),(1, .rptr v),(3,vl ls)],[],[]⟩=some (0,⟨[(0, .cst (Ft l)),(1, .rptr (K9 [] v)),(3,vl ls),(5,vi 0)],[],[]⟩):=F4
theorem Aps(gl:List (Nat×List Value))(l:Nat)(a f h:Int)(b:LX)(ls:LI):ex Tryz.prog (Uv gl) (HD gl) 43 mg .d (UT [0,1,5,21,22,23]) ⟨[(0, .cst (Ft l)),(1, .rptr (Jc a f h b)),(3,vl ls),(5,vi 0)],[],[]⟩=
    some (0,⟨OZ (Ft l) (Jc a f h b) ls 0 0,[],[]⟩):=F4
theorem Anq(gl:List (Nat×List Value))(l:Nat)(a f h:Int)(b:LX)(ls:LI)(i x:Int):ex Tryz.prog (Uv gl) (HD gl) 43 t? .d (UT [0,1,5,21,22,23,24]) ⟨OZ (Ft l) (Jc a f h b) ls i x,[],[]⟩=
    some (0,⟨OZ (Ft l) (Jc a f h b) ls i x++[(24,vt (Ci i (Ac ls)))],[],[]⟩):=F4
theorem qA(gl:List (Nat×List Value))(l:Nat)(a f h:Int)(b:LX)(ls:LI)(i x:Int)(t:Bool):ex Tryz.prog (Uv gl) (HD gl) 43 oo .d (UT [0,1,5,21,22,23]) ⟨OZ (Ft l) (Jc a f h b) ls i x++[(24,vt t)],[],[]⟩=
    if t=true then some (0,⟨OZ (Ft l) (Jc a f h b) ls i x,[],[]⟩)else some (2,⟨OZ (Ft l) (Jc a f h b) ls i x,[],[]⟩):=F4
theorem Aov(gl:List (Nat×List Value))(l:Nat)(a f h:Int)(b:LX)(ls:LI)(i x:Int):ex Tryz.prog (Uv gl) (HD gl) 43 rG .d (UT [0,1,5,7,21,22,23]) ⟨OZ (Ft l) (Jc a f h b) ls i x,[],[]⟩=
    Option.bind (Aj ls i) λn=>some (0,⟨[(0, .cst (Ft l)),(1, .rptr (Jc a f h b)),(5,vi x),(7,vi n),(21,vl ls),(22,vi (Ac ls)),(23,vi i)],[],[]⟩):=F4
theorem Apy(gl:List (Nat×List Value))(l:Nat)(a f h:Int)(b:LX)(ls:LI)(i x n:Int):ex Tryz.prog (Uv gl) (HD gl) 43 qL .d (UT [0,1,5,8,21,22,23]) ⟨[(0, .cst (Ft l)),(1, .rptr (Jc a f h b)),(5,vi x),(7,vi n),(21,vl ls),(22,vi (Ac ls)),(23,vi i)],[],[]⟩=
    some (0,⟨[(0, .cst (Ft l)),(1, .rptr (Jc a f h b)),(5,vi x),(8,vi (Ae x (Bd n a))),(21,vl ls),(22,vi (Ac ls)),(23,vi i)],[],[]⟩):=F4
abbrev rC(y:Value)(v:PV)(ls:LI)(i x z:Int)(p:LX):Slots:=[(0, .cst y),(1, .rptr v),(5,vi x),(8,vi z),(21,vl ls),(22,vi (Ac ls)),(23,vi i),(33, .cst y),(38,vw p)]
theorem Ap4(gl:List (Nat×List Value))(l:Nat)(a f h:Int)(b:LX)(ls:LI)(i x z:Int):pK Tryz.prog (Uv gl) (HD gl) 43 (qN++aB::[jT]).toArray qN ⟨[(0, .cst (Ft l)),(1, .rptr (Jc a f h b)),(5,vi x),(8,vi z),(21,vl ls),(22,vi (Ac ls)),(23,vi i)],[],[]⟩ (cnP [0,1,5,8,21,22,23,33,38] [] 0)=
    Option.bind (Ca b x z) λp=>some (0,⟨rC (Ft l) (Jc a f h b) ls i x z p,[],[]⟩):=F4
theorem Apz(gl:List (Nat×List Value))(l:Nat)(a f h:Int)(b:LX)(ls:LI)(i x z:Int)(p:LX)(t:Bool):pK Tryz.prog (Uv gl) (HD gl) 43 (qN++aB::[jT]).toArray [jT] ⟨X2 (rC (Ft l) (Jc a f h b) ls i x z p) 39 (vt t),[],[]⟩ (cnP [0,1,5,8,21,22,23,40] [] 0)=
    some (0,⟨[(0, .cst (Ft l)),(1, .rptr (Jc a f h b)),(5,vi x),(8,vi z),(21,vl ls),(22,vi (Ac ls)),(23,vi i),(40,vt (!t))],[],[]⟩):=F4
theorem Aod(gl:List (Nat×List Value))(l:Nat)(a f h:Int)(b:LX)(ls:LI)(i x z:Int)(t:Bool):ex Tryz.prog (Uv gl) (HD gl) 43 su .d (UT [0,1,5,8,21,22,23]) ⟨[(0, .cst (Ft l)),(1, .rptr (Jc a f h b)),(5,vi x),(8,vi z),(21,vl ls),(22,vi (Ac ls)),(23,vi i),(40,vt t)],[],[]⟩=
    if t=true then some (1,⟨[(0, .cst (Ft l)),(1, .rptr (Jc a f h b)),(5,vi x),(8,vi z),(21,vl ls),(22,vi (Ac ls)),(23,vi i)],[],[]⟩)else some (0,⟨[(0, .cst (Ft l)),(1, .rptr (Jc a f h b)),(5,vi x),(8,vi z),(21,vl ls),(22,vi (Ac ls)),(23,vi i)],[],[]⟩):=F4
theorem An6(gl:List (Nat×List Value))(l:Nat)(a f h:Int)(b:LX)(ls:LI)(i x z:Int):ex Tryz.prog (Uv gl) (HD gl) 43 sC .d (UT [0,1,5,21,22,23]) ⟨[(0, .cst (Ft l)),(1, .rptr (Jc a f h b)),(5,vi x),(8,vi z),(21,vl ls),(22,vi (Ac ls)),(23,vi i)],[],[]⟩=
    some (0,⟨OZ (Ft l) (Jc a f h b) ls i z,[],[]⟩):=F4
theorem Aqm(gl:List (Nat×List Value))(l:Nat)(a f h:Int)(b:LX)(ls:LI)(i x:Int):ex Tryz.prog (Uv gl) (HD gl) 43 oW .d (UT [0,1,5,21,22,23]) ⟨OZ (Ft l) (Jc a f h b) ls i x,[],[]⟩=
    some (0,⟨OZ (Ft l) (Jc a f h b) ls (Ae i 1) x,[],[]⟩):=F4
theorem Ald:pK Tryz.prog ⟨[],[],false,false⟩ (GP Tryz.prog ⟨[],[],false,false⟩ 8 []) 43 (qN++aB::[jT]).toArray [jT] ⟨[(39,vt false)],[],[]⟩ (cnP [40] [] 0)=some (0,⟨[(40,vt true)],[],[]⟩):=F4
theorem Ajz:ex Tryz.prog ⟨[],[],false,false⟩ (GP Tryz.prog ⟨[],[],false,false⟩ 8 []) 43 su .d (UT []) ⟨[(40,vt true)],[],[]⟩=some (1,⟨[],[],[]⟩):=F4
theorem Ajt{i:Nat}(h:i<17179869184):Ae (i:Int) 1=((i+1:Nat):Int):=by
  rw[show Ae (i:Int) 1=Go.Lv.wrap64 ((i:Int)+1)from rfl,Go.Lv.Bq F0 F0];omega
def G4:PV->Option (List LX)
  | .agg [.val (.int .i64) a, .val (.int .i64) _, .val (.int .i64) h, .val (.list (.int .i32)) b]=>RE a h b
  |_=>none
theorem Aau{v:PV}{xs:List LX}(h:G4 v=some xs):∃a f r b,v=Jc a f r b/\RE a r b=some xs:=by
  unfold G4 at h;split at h
  · exact⟨_,_,_,_,rfl,h⟩
  · cases h
theorem Aje{a:Int}{b:LX}{n:Int}{l:LI}{x:Int}{ps:List LX}(h:Oa a b (n::l) x=some ps):∃p r,Ca b x (Ae x (Bd n a))=some p/\Oa a b l (Ae x (Bd n a))=some r/\ps=p::r:=by
  simp only[Oa]at h;obtain⟨p,h1,h⟩:=Go.Lv.bind_some h;obtain⟨r,h2,h⟩:=Go.Lv.bind_some h;cases h;exact⟨p,r,h1,h2,rfl⟩
theorem Amh{a:Int}{b:LX}:∀{l:LI} {x:Int} {ps:List LX},Oa a b l x=some ps->ps.length=l.length
  |[],x,ps,h=>by simp only[Oa,Option.some.injEq]at h;subst h;rfl
  |n::l,x,ps,h=>by
    obtain⟨p,r,_,h2,rfl⟩:=Aje h;simp[Amh h2]
theorem Ah4{gl:List (Nat×List Value)}(hC:ConOk Tryz.prog gl 141 zA)(hE:Ent Tryz.prog 140):ItOk Tryz.prog gl 140 ⟨37, .list (.int .i32),G4⟩:=by
  refine⟨hE,λm B w b v cells xs hB hb hcell henc hgl hF=>?_⟩;have hF:G4 v=some xs:=hF;obtain⟨a,f,h,s,rfl,hF⟩:=Aau hF;have hM:Tryz.prog.follows .mixedOrders=true:=F4
  have hT:FE Tryz.prog (Uv gl):= .cons hC .nil;have hI:∀{R:Type},AB (R:=R) Tryz.prog (Uv gl).gl (HD gl):=pO hM hT i?.nil 8;unfold RE at hF;obtain⟨u0,hok,hF⟩:=Go.Lv.bind_some hF;obtain⟨p0,hall,hF⟩:=Go.Lv.bind_some hF;obtain⟨u1,hlim,hF⟩:=Go.Lv.bind_some hF;have hlim:p0.1.length<=17179869184:=by
    unfold Hu at hlim;split at hlim
    · rename_i h;have h':=of_decide_eq_true h;unfold Ac at h';omega
    · cases hlim
  have hlen:=Amh hF;intro l J Jx W hk hJ hJx hY h0;refine callsIn_of_wp_marks Tryz.func140 Ag2 trivial ?_ rfl;have hGr:∀i V X Y,J i V X->KeepN (λ_=>True) X Y->J i (grown V X Y) Y:=λi V X Y h k=>hJ i V X Y h k;have hbW:W.heap[b]? =some (.cells cells.toArray 37 (0,0)):=(hk.same b (hB b hb) trivial).trans hcell;have hm0:MemI gl B W ⟨[(0, .cst (Ft l)),(1, .rptr (Jc a f h s))],[],[]⟩ (lP [Ft l, .pointer (some ⟨b,0,none⟩)]):=by
    refine⟨λk hk'=>Nat.lt_of_lt_of_le (hB k hk') hk.gr.le,rfl,rfl,λp hp=>?_,hgl.keep (λ_ h=>h) (λk hk'=>hk.same k (hB k hk') trivial) hk.gr⟩;rcases List.mem_cons.1 hp with rfl|hp
    · exact(show _/\ _ from⟨rfl,rfl⟩)
    rcases List.mem_cons.1 hp with rfl|hp
    · exact⟨_,cells,rfl,⟨b,0,cells.toArray,_,_,rfl,hb,hbW,λi _=>by simp⟩,Ba.step (λ_ h=>h) (λk hk'=>hk.same k (hB k hk') trivial) (.refl []) henc⟩
    · cases hp
  have ha0:=C2 (fn:=Tryz.f140) (vs:=[Ft l, .pointer (some ⟨b,0,none⟩)]) F4;have e0:(#[Value.func (.yield l) #[] #[]]++ #[Value.pointer (some ⟨b,0,none⟩)]:Array Value)=[Ft l, .pointer (some ⟨b,0,none⟩)].toArray:=by simp
  rw[e0]
  revert ha0
  generalize({tmps:=_,defers:=[]}:Act)=Baq;rw[Aqe];intro ha0;refine oA hM hT hI (J:=J 0) (hGr 0) .d [0,1,3] [⟨3,[], .ro (.int .i64)⟩] ((Anv gl l a f h s).trans (by rw[hok,hall];rfl)) rfl hm0 h0 ha0 λσ1 V1 w1 a1 f1 j1 m1=>?_;refine oA hM hT hI (J:=J 0) (hGr 0) .d [0,1,3,5] [] (Ao7 gl l _ p0.1) rfl m1 j1 f1 λσ2 V2 w2 a2 f2 j2 m2=>?_;refine oA hM hT hI (J:=J 0) (hGr 0) .d [0,1,5,21,22,23] [] (Aps gl l a f h s p0.1) rfl m2 j2 f2 λσ3 V3 w3 a3 f3 j3 m3=>?_;have fin:∀{σ:Env} {a':Act} {w':World},Fits [] 43 a' σ-> ((∃V,J xs.length V w')\/Jx w')->LeavesInM (wr none) m Tryz.prog Tryz.f140 a'.tmps (λe W'=>(∃v,e= .returned v)/\ ((∃V,J xs.length V W')\/Jx W')) a'.defers .returning w':=by
    intro σ a' w' hf hh;rw[hf.defers];exact⟨_,SN (rs:=[]) (vs:=[]) F4 hf trivial,⟨_,rfl⟩,hh⟩
  refine wpIn_block (kN (p0.1.length+1) (λq a' w'=>∃(i:Nat) (x:Int) (V:Reg) (σ:Env),q+i=p0.1.length+1/\i<=p0.1.length/\Fits [] 43 a' σ/\J i V w'/\MemI gl V w' ⟨OZ (Ft l) (Jc a f h s) p0.1 (i:Int) x,[],[]⟩ σ/\Oa a s (p0.1.drop i) x=some (xs.drop i)) ?_ ?_
    ⟨0,0,V3,σ3,rfl,Nat.zero_le _,f3,j3,m3,hF⟩)
  · rintro a' w' ⟨i,x,V,σ,hq,hi,_⟩
    omega
  rintro q a' w' ⟨i,x,V,σ,hq,hi,hf,hj,hm,hp⟩;refine oA hM hT hI (J:=J i) (hGr i) .d [0,1,5,21,22,23,24] [] (Anq gl l a f h s p0.1 i x) rfl hm hj hf λσ4 V4 w4 a4 f4 j4 m4=>?_;by_cases hlt:i<p0.1.length
  · have hg:Ci (i:Int) (Ac p0.1)=true:=by simp[Ci,Ac,GI.toZ];exact hlt
    rw[hg]at m4;refine oA hM hT hI (J:=J i) (hGr i) .d [0,1,5,21,22,23] [] (qA gl l a f h s p0.1 i x true) rfl m4 j4 f4 λσ5 V5 w5 a5 f5 j5 m5=>?_;obtain⟨n,hn⟩:∃n,p0.1[i]? =some n:=⟨_,List.getElem?_eq_getElem hlt⟩;have hgn:Go.Lv.Aj p0.1 (i:Int)=some n:=by simp[Go.Lv.Aj,hn]
    have hd:p0.1.drop i=n::p0.1.drop (i+1):=by rw[List.drop_eq_getElem_cons hlt];congr 1;rw[List.getElem?_eq_getElem hlt]at hn;exact Option.some.inj hn
    rw[hd]at hp;obtain⟨p,r,hcut,hp',hxs⟩:=Aje hp;have hi':i<xs.length:=F0
    have hx:xs[i]? =some p:=by
      have:=congrArg List.head? hxs;rw[List.head?_drop]at this;exact this
    have hr:xs.drop (i+1)=r:=by
      have:=congrArg List.tail hxs;rw[List.tail_drop]at this;exact this
    refine wpIn_seq (wpIn_block ?_);refine oA hM hT hI (J:=J i) (hGr i) .d [0,1,5,7,21,22,23] [] ((Aov gl l a f h s p0.1 i x).trans (by rw[hgn];rfl)) rfl m5 j5 f5 λσ6 V6 w6 a6 f6 j6 m6=>?_;refine oA hM hT hI (J:=J i) (hGr i) .d [0,1,5,8,21,22,23] [] (Apy gl l a f h s p0.1 i x n) rfl m6 j6 f6 λσ7 V7 w7 a7 f7 j7 m7=>?_;refine wpIn_seq (wpIn_seq (wpIn_region_lit ?_));refine jw (T:=Uv gl) hT hI (J:=J i) (hGr i) [0,1,5,8,21,22,23,33,38] F4 ((Ap4 gl l a f h s p0.1 i x (Ae x (Bd n a))).trans (by rw[hcut];rfl)) rfl m7 j7 f7 λσ8 V8 w8 a8 f8 j8 m8=>?_;have v33:σ8 33=Ft l:=by
      have:=m8.val (t:=33) (p:= .cst (Ft l)) A7 rfl;exact(show [σ8 33]=[Ft l]/\ _ from this).1|>List.head_eq_of_cons_eq
    have v38:Gg V8 w8 [] (vw p) (σ8 38):=(ZB rfl).1 (m8.val (t:=38) (p:=vw p) A7 rfl);refine Akx Aj5 Alm F6 (λc hc=>by rw[E_]at hc;cases hc) (Bdz E_ v33 rfl) (hY i V8 w8 (σ8 38) hi' j8 (λx' hx'=>by rw[hx]at hx';cases hx';exact v38)) ?_ f8;rintro e w9 (⟨rfl,j9,hgr,hsame⟩|⟨rfl,jx⟩)
    · refine⟨_,rfl,λa9 f9=>?_⟩
      have m9:=(m8.round hgr hsame).set (d:=39) (p:=vt true) (v:= .bool true) rfl (show [Value.bool true]=[Value.bool true]from rfl);refine jw (T:=Uv gl) (l2:=[]) hT hI (J:=J (i+1)) (hGr (i+1)) [0,1,5,8,21,22,23,40] F4 (Apz gl l a f h s p0.1 i x (Ae x (Bd n a)) p true) rfl m9 j9 f9 λσb Vb wb ab fb jb mb=>?_;refine wpIn_mono (jS hM hT hI (J:=J (i+1)) (hGr (i+1)) (an:= .d) (lv:=[0,1,5,8,21,22,23]) (co:=[]) (Aod gl l a f h s p0.1 i x (Ae x (Bd n a)) false) rfl mb jb fb) ?_;rintro e ac wc ⟨he,σc,Vc,fc,jc,mc⟩;cases e with
      |normal=>
        refine wpIn_mono (jS hM hT hI (J:=J (i+1)) (hGr (i+1)) (an:= .d) (lv:=[0,1,5,21,22,23]) (co:=[]) (An6 gl l a f h s p0.1 i x (Ae x (Bd n a))) rfl mc jc fc) ?_;rintro e ad wd ⟨he,σd,Vd,fd,jd,md⟩;cases e with
        |normal=>
          refine wpIn_mono (jS hM hT hI (J:=J (i+1)) (hGr (i+1)) (an:= .d) (lv:=[0,1,5,21,22,23]) (co:=[]) (Aqm gl l a f h s p0.1 i (Ae x (Bd n a))) rfl md jd fd) ?_;rintro e ae we ⟨he,σe,Ve,fe,je,me⟩;cases e with
          |normal=>
            have hadd:Ae (i:Int) 1=((i+1:Nat):Int):=Ajt F0;rw[hadd]at me;exact⟨i+1,_,Ve,σe,F0,F0,fe,je,me,by rw[hr];exact hp'⟩
          |ret=>simp[oB]at he
          |exit id=>simp[oB]at he
          |goto l=>cases he
          |panic c=>cases he
          |outgrown=>cases he
        |ret=>simp[oB]at he
        |exit id=>simp[oB]at he
        |goto l=>cases he
        |panic c=>cases he
        |outgrown=>cases he
      |ret=>simp[oB]at he
      |exit id=>simp[oB]at he
      |goto l=>cases he
      |panic c=>cases he
      |outgrown=>cases he
    · refine⟨_,rfl,λa9 f9=>?_⟩
      have hT0:FE Tryz.prog ⟨[],[],false,false⟩:= .nil;have hI0:∀{R:Type},AB (R:=R) Tryz.prog [] (GP Tryz.prog ⟨[],[],false,false⟩ 8 []):=pO hM hT0 i?.nil 8;have m9:MemI [] (λ_=>False) w9 ⟨[(39,vt false)],[],[]⟩ (Sg σ8 39 (.bool false)):=⟨λ_ h=>h.elim,rfl,rfl,(λp hp=>by
        rcases List.mem_cons.1 hp with rfl|hp
        · exact Hf.put rfl (show [Value.bool false]=[Value.bool false]from rfl)
        · cases hp),λp hp=>by cases hp⟩
      refine jw (T:=⟨[],[],false,false⟩) (l2:=[]) hT0 hI0 (J:=λ_ W=>Jx W) (λ_ X Y h k=>hJx X Y h k) [40] F4 Ald rfl m9 jx f9 λσb Vb wb ab fb jb mb=>?_;refine wpIn_mono (jS (T:=⟨[],[],false,false⟩) hM hT0 hI0 (J:=λ_ W=>Jx W) (λ_ X Y h k=>hJx X Y h k) (an:= .d) (lv:=[]) (co:=[]) Ajz rfl mb jb fb) ?_;rintro e ac wc ⟨he,σc,Vc,fc,jc,mc⟩;cases e with
      |ret=>exact fin fc (.inr jc)
      |normal=>simp[oB]at he
      |exit id=>simp[oB]at he
      |goto l=>cases he
      |panic c=>cases he
      |outgrown=>cases he
  · have hi2:i=p0.1.length:=F0
    have hg:Ci (i:Int) (Ac p0.1)=false:=by subst hi2;simp[Ci,Ac,GI.toZ]
    rw[hg]at m4;refine wpIn_seq (wpIn_mono (jS hM hT hI (J:=J i) (hGr i) (an:= .d) (lv:=[0,1,5,21,22,23]) (co:=[]) (qA gl l a f h s p0.1 i x false) rfl m4 j4 f4) ?_);rintro e ac wc ⟨he,σc,Vc,fc,jc,mc⟩;cases e with
    |exit id=>
      obtain rfl:id=0:=by simpa [oB]using he
      exact fin fc (.inl ⟨Vc,by rw[hlen,<-hi2];exact jc⟩)
    |ret=>simp[oB]at he
    |normal=>simp[oB]at he
    |goto l=>cases he
    |panic c=>cases he
    |outgrown=>cases he
abbrev J6:List Sh:=[.agg [.lf (.int .i64) none, .lf (.int .i64) none, .lf (.int .i64) none, .lf (.list (.int .i32)) none], .lf .str none]
abbrev JU:List Sh:=[.lf (.list (.list (.int .u8))) (some 22), .lf (.int .i64) none]
noncomputable def Ak1 :Con:=⟨[.agg [.lf (.int .i64) none, .lf (.int .i64) none, .lf (.int .i64) none, .lf (.list (.int .i32)) none]],[.lf (.int .i64) none],λx=>Dg x.1 x.2.1 x.2.2.1 x.2.2.2⟩
noncomputable def Awt:Con:=⟨[.lf .str none],[.lf (.vec 16 (.int .i32)) none, .lf (.int .i64) none],HK⟩
noncomputable def Agt:Con:=⟨[.agg [.lf (.int .i64) none, .lf (.int .i64) none], .lf (.vec 16 (.int .i32)) none, .lf (.list (.int .i32)) none],[.lf (.list (.int .u8)) (some 5), .lf (.int .i64) none],λx=>Py x.1 x.2.1 x.2.2.1 x.2.2.2⟩
noncomputable def Adn :Con:=⟨[.agg [.lf (.int .i64) none, .lf (.int .i64) none, .lf (.int .i64) none, .lf (.list (.int .i32)) none]],[.agg [.lf (.int .i64) none, .lf (.int .i64) none]],λx=>GJ x.1 x.2.1 x.2.2.1 x.2.2.2⟩
noncomputable def qV(gl:List (Nat×List Value)):Tab:=⟨[(83,Ak1),(80,Awt),(85,Agt),(86,Adn)],gl,true,false⟩
noncomputable def Awe:List (Nat×ItC):=[(140,⟨37, .list (.int .i32),G4⟩)]
noncomputable def K7:List (Nat×An):=[(84, .d)]
noncomputable abbrev rS{R:Type}(gl:List (Nat×List Value)):sM R:=GP Tryz.prog (qV gl) 8 K7
noncomputable def yB:An:= .loop [2,4,5,7,9] [⟨9,[], .own 22 (.list (.int .u8))⟩] .d
noncomputable def p!:An:= .seq .d (.seq .d (.seq .d (.seq .d (.seq .d (.seq (.seq .d (.blk yB)) .d)))))
noncomputable def Aoc:Code:=fB Tryz.f36
noncomputable def o_:Code:=cB (cB (cB (cB (cB Aoc))))
noncomputable def r_:Code:=cA (cB (cA o_))
noncomputable def Ahc:Code:=cB o_
def rfA:Code->Code| .rangeFunc _ _ a _=>a|c=>c
def rfB:Code->Code| .rangeFunc _ _ _ b=>b|c=>c
noncomputable def qj:K (CW (Sj JU)):={n:=kZ Tryz.prog JU Tryz.f36.results.toList,x:=λ_ _=>none,r:=kZ Tryz.prog JU Tryz.f36.results.toList}
noncomputable def pE(gl:List (Nat×List Value))(s:S):Option (CW (Sj JU)):=ex Tryz.prog (qV gl) (rS gl) 45 Ahc .d qj s
noncomputable def uG(gl:List (Nat×List Value)):K (CW (Sj JU)):=⟨pE gl,λid s=>Ch (Nat.beq id 0) (pE gl s)<|qj.x id s,qj.r⟩
noncomputable def sH(gl:List (Nat×List Value)):List LX->S->Option (CW (Sj JU)):=rnd yB (iY Tryz.prog (qV gl) (rS gl) 45 28 (rfA r_) (rfB r_) yB (uG gl) (.list (.int .i32))) (uG gl).n
def rX(a f h:Int)(b t:LX)(o:List LB):S:=⟨[(2, .ptr 0 []),(4, .ptr 1 []),(5, .ptr 2 []),(7, .ptr 3 []),(9, .ptr 4 [])],
  [.box 37 (.agg [vi a,vi f,vi h,vw b]), .box 58 .nils, .box 26 (vi 0), .box 149 (.val (.vec 16 (.int .i32)) t), .box 58 (.own 5), .arr 22 (.list (.int .u8)) o],[]⟩
theorem Aop(gl:List (Nat×List Value))(a f h:Int)(b t:LX)(o:List LB):sH gl [] (rX a f h b t o)=some (o,(0:Int)):=F4
theorem Apj(gl:List (Nat×List Value))(a f h:Int)(b t:LX)(o:List LB)(x:LX)(xs:List LX):sH gl (x::xs) (rX a f h b t o)=
    Option.bind (Py a f t x) λy=>if(Bl y.2 0)=true then some ([],y.2)else Option.bind (Cm o [y.1]) λo'=>sH gl xs (rX a f h b t o'):=F4
theorem r?(gl:List (Nat×List Value))(a f h:Int)(b t:LX):∀(xs:List LX) (o:List LB),sH gl xs (rX a f h b t o)=Nx a f t xs o
  |[],o=>Aop gl a f h b t o
  |x::xs,o=>by
    rw[Apj,Nx];simp only[r? gl a f h b t xs];rfl
theorem Air(gl:List (Nat×List Value))(x:CW (Sj J6)):bZ Tryz.prog (qV gl) K7 Awe Tryz.f36 p! J6 JU x=IY x.1 x.2.1 x.2.2.1 x.2.2.2.1 x.2.2.2.2:=by
  refine Eq.trans (b:=Option.bind (Dg x.1 x.2.1 x.2.2.1 x.2.2.2.1) λe=>if(Bl e 0)=true then some ([],e)else Option.bind (HK x.2.2.2.2) λt=>if(Bl t.2 0)=true then some ([],t.2)
    else Option.bind (RE x.1 x.2.2.1 x.2.2.2.1) λxs=>sH gl xs (rX x.1 x.2.1 x.2.2.1 x.2.2.2.1 t.1 [])) F4 ?_
  simp only[r?];rfl
noncomputable def UO:Con:=⟨J6,JU,λx=>IY x.1 x.2.1 x.2.2.1 x.2.2.2.1 x.2.2.2.2⟩
theorem Ay8{gl:List (Nat×List Value)}(hCk:ConOk Tryz.prog gl 83 Ak1)(hTp:ConOk Tryz.prog gl 80 Awt)(hAl:ConOk Tryz.prog gl 141 zA)(hEn:ConOk Tryz.prog gl 85 Agt)(hSh:ConOk Tryz.prog gl 86 Adn):
    ConOk Tryz.prog gl 36 UO:=by
  have hE:∀{f:Nat} {fn:Func},Tryz.prog.funcs[f]? =some fn→(!(fn.name== "runtime.NumGoroutine")&&fn.body.isSome)=true→Ent Tryz.prog f:=by
    intro f fn hf hb;simp only[Bool.and_eq_true,Bool.not_eq_true']at hb;obtain⟨c,hc⟩:=Option.isSome_iff_exists.1 hb.2;exact Ent.mk hf hb.1 hc
  refine Bc3 (T:=qV gl) (its:=Awe) (ans:=K7) (an:=p!) F4 Tryz.func36 (hE Tryz.func36 F4) (.cons hCk (.cons hTp (.cons hEn (.cons hSh .nil)))) (i?.cons (hE Tryz.func84 F4) i?.nil) ?_ F4 (Air gl);intro p hp;rcases List.mem_cons.1 hp with rfl|hp
  · exact Ah4 hAl (hE Tryz.func140 F4)
  · cases hp
theorem Az5{W W':World}(h:KeepN (λ_=>True) W W'):W.grownBy W' none:=⟨h.gr.os,h.gr.tape,h.gr.output,h.gr.le,λk hk _=>h.same k hk trivial⟩
theorem L!{F:Fence}{n:Nat}{P:Program}{Q:Exit->Act->World->Prop}{a:Act}{w:World}{c:Code}(m:Nat)(I:Nat->Act->World->Prop)(h0:∀a w,¬I 0 a w)
    (hs:∀q a w,I (q+1) a w->c.wpIn F n P (Exit.then (I q) Q) a w) (h:I m a w):(Code.loop c).wpIn F n P Q a w:=by
  refine wpIn_loop_rounds m ?_
  induction m generalizing a w with
  |zero=>exact absurd h (h0 a w)
  |succ m ih=>
    rw[roundsIn_succ];refine wpIn_mono (hs m a w h) λe a' w' hh=>?_;cases e<;>first|exact ih hh|exact hh
theorem Ave{α:Type}{c:Prop} [Decidable c]{a b y:α}(h:(if c then a else b)=y)(hc:¬c):b=y:=by rw[if_neg hc]at h;exact h
theorem Apl{A:Reg}{w:World}{v:Value}{k:Kd}{l y:List k.T}{a:Int}(h:Al A w (.list (.int k)) l [v])(hc:Ca l a (Ac l)=some y):
    ∃(p:Option Addr) (len cap m:Nat),v= .slice p len cap/\a=(m:Int)/\m<=len/\len<=cap/\Al A w (.list (.int k)) y [.slice (if cap=m then p else p.map (·.add m)) (len-m) (cap-m)]:=by
  obtain⟨v1,c0,e1,h1,h2⟩:=h;cases e1;obtain⟨p,len,cap,rfl,g1,g2,g3,g4⟩:=h1;obtain⟨k1,k2,k3,k4,rfl⟩:=OC hc;simp only[ET.size,Nat.mul_one]at g1 g4;have hll:=h2.len (z:=1) λx c h=>by rw[show c=_ from h];rfl
  have hln:l.length=len:=F0
  have hto:(Ac l).toNat=len:=by simp[Ac,hln]
  rw[hto]at k3⊢;refine⟨p,len,cap,a.toNat,rfl,k1,k3,g2,_,c0.drop a.toNat,rfl,⟨_,_,_,rfl,?_,F0,λhp=>?_,λhcap=>?_⟩,?_⟩
  · simp only[ET.size,List.length_drop];omega
  · split at hp
    · omega
    · rename_i hne
      cases p with
      |none=>have:=g3 rfl;omega
      |some a=>cases hp
  · rw[if_neg F0]
    obtain⟨b,off,arr,T,fr,rfl,e2,e3,e4,e5⟩:=g4 F0;refine⟨b,off+a.toNat,arr,T,fr,by simp[Addr.add],e2,e3,by simp only[ET.size];omega,λi hi=>?_⟩;simp only[ET.size]at hi;rw[List.getElem?_drop,<-e5 (a.toNat+i) F0,Nat.add_assoc]
  · have:=Bp.drop (z:=1) (λx c h=>by rw[show c=_ from h];rfl) a.toNat h2
    rw[Nat.mul_one]at this;rw[List.take_of_length_le F0];exact this
theorem Aug{P:Program}{f:Nat}{gl:List (Nat×List Value)}{F:List UInt8->Option (Int×Int)}(hC:ConOk P gl f ⟨[.lf (.list (.int .u8)) none],[.lf (.int .i64) none, .lf (.int .i64) none],F⟩){A:Reg}{W:World}{v:Value}{s:List UInt8}{r:Int×Int}
    (hv:Al A W (.list (.int .u8)) s [v]) (hgl:GlOk gl A W) (h:F s=some r):Calls P f #[v] W λe W'=>e= .returned (.tuple #[.int .i64 r.1, .int .i64 r.2])/\KeepN (λ_=>True) W W':=by
  have hv':Al (λ_=>True/\True) W (.list (.int .u8)) s [v]:=Al.step (λ_ _=>⟨trivial,trivial⟩) (λ_ _=>rfl) hv;refine(hC.ok (λ_=>True) (λ_=>True) W [] [v] [.val (.list (.int .u8)) s] s r rfl rfl (λi a m _ h=>by simp at h) trivial ⟨v,[],rfl,hv',rfl⟩ (λp hp=>⟨(hgl p hp).1,trivial,(hgl p hp).2.2⟩) h).mono ?_;rintro e w' ⟨us,rfl,hk,A1,L1,g1,g2,g3⟩;obtain⟨ps,its,k1,k2,k3,k4,k5⟩:=g3 ⟨[],[],[]⟩ [] (λ_=>True) rfl (λ_ _=>trivial) (λ_ _ _=>trivial);refine⟨?_,hk⟩;obtain rfl:=Option.some.inj (show some [PV.val (.int .i64) r.1,PV.val (.int .i64) r.2]=some ps from k2);obtain⟨_,_,rfl,e1,_,_,rfl,e2,rfl⟩:=k3;cases(show [_]=[Value.int .i64 r.1]from e1);cases(show [_]=[Value.int .i64 r.2]from e2);rfl
structure KpF (n₀ Bx:Nat) (A B:World):Prop where
  le:A.heap.size<=B.heap.size
  box:B.heap[Bx]? =A.heap[Bx]?
  old:∀k,k<n₀->B.heap[k]? =A.heap[k]?
def yx(l:List (Int×Int)):Int:=l.foldl (λs x=>Ae s x.1) 0
def fin(y:Int×Int)(xs:List (Int×Int)):Prop:=(∃x∈xs,x.2≠0)\/y=(yx xs,0)
def vV(y:Int×Int)(pre:List (Int×Int)):Prop:=∃p x,pre=p++[x]/\ (x.2≠0->y=(0,x.2))
theorem Tryz.Au3:Tryz.f192.ntmps=35:=F4
theorem Tryz.u25:Tryz.prog.underlying 22=some (.slice 5):=F4
theorem Tryz.sz5:Hz Tryz.prog 5 1:=Hz.mk F4
set_option maxHeartbeats 2000000 in
set_option maxRecDepth 100000 in
theorem Aos(n:Nat)(l Bx n₀:Nat)(v:Value)(b:List UInt8)(y:Int×Int)(J Jx:List (Int×Int)->World->Prop)(gl:List (Nat×List Value))
    (hC:ConOk Tryz.prog gl 193 ⟨[.lf (.list (.int .u8)) none],[.lf (.int .i64) none, .lf (.int .i64) none],Ur⟩)
    (hY:∀pre x W,J pre W->pre.length<Aq->YieldAt Fence.wide (n-1) Tryz.prog l #[.int .i64 x.1, .int .i64 x.2] W λe W'=>
      (e= .returned (.bool true)/\J (pre++[x]) W'/\KpF n₀ Bx W W')\/ (e= .returned (.bool false)/\Jx (pre++[x]) W'))
    (W0:World) (hJ:AbidesFrom W0.heap.size J) (VO:W0.heap[Bx]? =some (.cells #[v] 22 (0,0))) (hn:n₀<=W0.heap.size) (hv:Al (λk=>k<n₀) W0 (.list (.int .u8)) b [v]) (hgl:GlOk gl (λk=>k<n₀) W0)
    (h0:J [] W0) (hy:Vf b=some y):
    CallsIn Fence.wide n Tryz.prog 192 #[.func (.yield l) #[] #[], .pointer (some ⟨Bx,0,none⟩)] W0 λe W'=>(∃v,e= .returned v)/\ ((∃ys,fin y ys/\J ys W')\/ (∃pre,vV y pre/\Jx pre W')):=by
  refine callsIn_of_wp Tryz.func192 rfl trivial ?_ rfl;simp only[Tryz.Au3,List.size_toArray,List.length_cons,List.length_nil,Nat.reduceAdd,Nat.reduceSub,Array.replicate_succ,Array.replicate_zero,List.push_toArray,List.append_toArray,List.nil_append,List.cons_append]
  gi_wp2
  refine L! Aq (λq a W=>∃(pre:List (Int×Int)) (x:Int) (v2 v4 v5 v6 v7 v8 v9 v10 v11 v12 v13 v14 v15 v16 v17 v18 v19 v20 v21 v22 v23 v24 v25 v26 v27 v28 v29 v30 v31 v32 v33 v34:Value),a={tmps:= #[.func (.yield l) #[] #[], .pointer (some ⟨Bx,0,none⟩),v2, .int .i64 x,v4,v5,v6,v7,v8,v9,v10,v11,v12,v13,v14,v15,v16,v17,v18,v19,v20,v21,v22,v23,v24,v25,v26,v27,v28,v29,v30,v31,v32,v33,v34],defers:=[]}/\Sk b q x=some y/\yx pre=x/\pre.length+q=Aq/\J pre W/\KpF n₀ Bx W0 W/\W0.heap.size<=W.heap.size) ?_ ?_ ?_
  · rintro a W ⟨pre,x,v2,v4,v5,v6,v7,v8,v9,v10,v11,v12,v13,v14,v15,v16,v17,v18,v19,v20,v21,v22,v23,v24,v25,v26,v27,v28,v29,v30,v31,v32,v33,v34,_,h,_⟩
    cases h
  · rintro q a W ⟨pre,x,v2,v4,v5,v6,v7,v8,v9,v10,v11,v12,v13,v14,v15,v16,v17,v18,v19,v20,v21,v22,v23,v24,v25,v26,v27,v28,v29,v30,v31,v32,v33,v34,rfl,h,hx,hl,hJ1,hk,hs⟩
    simp only[Sk]at h;obtain⟨s,hcut,h⟩:=Go.Lv.bind_some h;obtain⟨r,hsz,h⟩:=Go.Lv.bind_some h;have hvW:Al (λk=>k<n₀) W (.list (.int .u8)) b [v]:=Al.step (λ_ h=>h) (λk hk'=>hk.old k hk') hv;obtain⟨p,len,cap,m,rfl,rfl,hm,hlc,hsv⟩:=Apl (k:= .u8) hvW hcut;have hc:W.cell? ⟨Bx,0,none⟩=some (.slice p len cap):=by
      have:=hk.box;simp only[World.cell?,this,VO];rfl
    have hu:=Tryz.u25;have hz:=Tryz.sz5;obtain⟨k,e⟩:=r;have e1:geq e 6=(e==6):=rfl;have e2:geq e 0=(e==0):=rfl;have e3:Ae (m:Int) k=RowKit.wrap64 (m+k):=by
      simp only[Ae,GI.ofZ,GI.toZ,Go.Lv.wrap64,RowKit.wrap64];exact IntKind.wrap_i64 _
    have e4:Dq (RowKit.wrap64 (m+k)) 4000=decide (4000<RowKit.wrap64 (m+k)):=rfl;have e5:Bl e 0=(e !=0):=rfl;rw[e1,e2,e3,e4,e5]at h;have hp:=h;have hgW:GlOk gl (λk=>k<n₀) W:=λp hp=>⟨Nat.lt_of_lt_of_le (hgl p hp).1 hs,(hgl p hp).2.1,by rw[hk.old _ (hgl p hp).2.1];exact(hgl p hp).2.2⟩;have hcall:∀v',Al (λk=>k<n₀) W (.list (.int .u8)) s [v']->CallsIn Fence.wide (n-1) Tryz.prog 193 #[v'] W λe0 W'=>e0= .returned (.tuple #[.int .i64 k, .int .i64 e])/\KeepN (λ_=>True) W W':=
      λv' hv'=>callsIn_wide.2 (Aug hC hv' hgW hsz)
    have hsm:∀z:Int,yx (pre++[(k,z)])=RowKit.wrap64 (m+k):=λz=>by rw[<-e3,<-hx];simp[yx]
    have hlt:Bx<W.heap.size:=Nat.lt_of_lt_of_le (Array.getElem?_eq_some_iff.1 VO).1 hs
    gi_wp2
    all_goals
      refine⟨trivial,(λh=>nomatch h),(hcall _ (by first|(rw[if_neg (by assumption)]at hsv;exact hsv)|(simpa [*]using hsv))).mono ?_⟩;rintro e0 W1 ⟨rfl,hk1⟩;have hJ2:=hJ pre W W1 none hJ1 (Az5 hk1) (λr e=>by cases e);have hyl:∀e',YieldAt Fence.wide (n-1) Tryz.prog l #[Value.int IntKind.i64 k,Value.int IntKind.i64 e'] W1 _:=λe'=>hY pre (k,e') W1 hJ2 F0
      gi_wp2
      · rename_i h6
        rw[if_pos h6]at hp;refine bodyPost_ret (results_none rfl _ _ _) rfl ?_;exact⟨⟨_,rfl⟩, .inl ⟨pre, .inr (by rw[hx];cases hp;rfl),hJ2⟩⟩
      · obtain⟨fn,tmps,assign,body,hy1,hR⟩:=hyl 4
        rw[hy1]
        gi_wp2
        refine⟨(λh=>nomatch h),hR.mono ?_⟩;rintro e3 W3 (⟨rfl,hJ3,hk3⟩|⟨rfl,hJx3⟩)
        · gi_wp2
          refine bodyPost_ret (results_none rfl _ _ _) rfl ?_;exact⟨⟨_,rfl⟩, .inl ⟨pre++[(k,4)], .inl ⟨(k,4),A7,A7⟩,hJ3⟩⟩
        · gi_wp2
          refine bodyPost_ret (results_none rfl _ _ _) rfl ?_;refine⟨⟨_,rfl⟩, .inr ⟨pre++[(k,4)],⟨pre,(k,4),rfl,λhne=>?_⟩,hJx3⟩⟩;simp at hne
          all_goals simp_all
      · obtain⟨fn,tmps,assign,body,hy1,hR⟩:=hyl 0
        rw[hy1]
        gi_wp2
        refine⟨(λh=>nomatch h),hR.mono ?_⟩;rintro e3 W3 (⟨rfl,hJ3,hk3⟩|⟨rfl,hJx3⟩)
        · gi_wp2
          refine⟨pre++[(k,0)],_,_,_,_,_,_,_,_,_,_,_,_,_,_,_,_,_,_,_,_,_,_,_,_,_,_,_,_,_,_,_,_,_,rfl,?_,‹∀z:Int,yx (pre++[(k,z)])=RowKit.wrap64 ((m:Int)+k)› 0,by simp;omega,hJ3,⟨?_,?_,?_⟩,?_⟩
          · simp_all
            exact Ave (by assumption) F0
          · exact Nat.le_trans hk.le (Nat.le_trans hk1.gr.le hk3.le)
          · exact hk3.box.trans ((hk1.same _ ‹Bx<W.heap.size› trivial).trans hk.box)
          · exact λj hj=>(hk3.old j hj).trans ((hk1.same j (Nat.lt_of_lt_of_le hj (Nat.le_trans hn hs)) trivial).trans (hk.old j hj))
          · exact Nat.le_trans hs (Nat.le_trans hk1.gr.le hk3.le)
        · gi_wp2
          refine bodyPost_ret (results_none rfl _ _ _) rfl ?_;exact⟨⟨_,rfl⟩, .inr ⟨pre++[(k,0)],⟨pre,(k,0),rfl,λhne=>absurd rfl hne⟩,hJx3⟩⟩
      · obtain⟨fn,tmps,assign,body,hy1,hR⟩:=hyl e
        rw[hy1]
        gi_wp2
        refine⟨(λh=>nomatch h),hR.mono ?_⟩;rintro e3 W3 (⟨rfl,hJ3,hk3⟩|⟨rfl,hJx3⟩)
        · gi_wp2
          rename_i hne;refine bodyPost_ret (results_none rfl _ _ _) rfl ?_;exact⟨⟨_,rfl⟩, .inl ⟨pre++[(k,e)], .inl ⟨(k,e),A7,by simpa using hne⟩,hJ3⟩⟩
        · gi_wp2
          refine bodyPost_ret (results_none rfl _ _ _) rfl ?_;refine⟨⟨_,rfl⟩, .inr ⟨pre++[(k,e)],⟨pre,(k,e),rfl,λhne=>?_⟩,hJx3⟩⟩;simp at hne
          all_goals simp_all
  · exact⟨[],0,_,_,_,_,_,_,_,_,_,_,_,_,_,_,_,_,_,_,_,_,_,_,_,_,_,_,_,_,_,_,_,_,rfl,hy,rfl,A7,h0,⟨Nat.le_refl _,rfl,λ_ _=>rfl⟩,Nat.le_refl _⟩
theorem Asj(n Bx n₀:Nat)(v:Value)(b:List UInt8)(y:Int×Int)(gl:List (Nat×List Value))
    (hC:ConOk Tryz.prog gl 193 ⟨[.lf (.list (.int .u8)) none],[.lf (.int .i64) none, .lf (.int .i64) none],Ur⟩)
    (w:World) (VO:w.heap[Bx]? =some (.cells #[v] 22 (0,0))) (hn:n₀<=w.heap.size) (hv:Al (λk=>k<n₀) w (.list (.int .u8)) b [v]) (hgl:GlOk gl (λk=>k<n₀) w) (hy:Vf b=some y):
    SeqStopsK Fence.wide n Tryz.prog 192 #[.pointer (some ⟨Bx,0,none⟩)] (λx:Int×Int=> #[.int .i64 x.1, .int .i64 x.2]) (KpF n₀ Bx) (fin y) (vV y) Aq w:=by
  intro l J Jx W hW hJ hJx hY h0;have hlt:=(Array.getElem?_eq_some_iff.1 VO).1;have hb:∀k,k<n₀->W.heap[k]? =w.heap[k]? :=λk hk=>hW.block k (Nat.lt_of_lt_of_le hk hn);exact Aos n l Bx n₀ v b y J Jx gl hC hY W hJ ((hW.block Bx hlt).trans VO) (Nat.le_trans hn hW.size) (Al.step (λ_ h=>h) hb hv)
    (λp hp=>⟨Nat.lt_of_lt_of_le (hgl p hp).1 hW.size,(hgl p hp).2.1,by rw[hb _ (hgl p hp).2.1];exact(hgl p hp).2.2⟩) h0 hy
theorem eD{w W:World}{a:Addr}{v:Value}(h:KeepN (λ_=>True) w W)(ha:w.heap.size<=a.block):KeepN (λ_=>True) w (W.setCell a v):=by
  have hb:=(Below.refl w.heap.size W).setCell (p:=a) ha v;exact⟨λb hb' _=>(hb.block b hb').trans (h.same b hb' trivial),h.gr.trans ⟨hb.size,hb.os,hb.tape,hb.output⟩⟩
theorem heap_set{W:World}{a:Addr}{v:Value}{k:Nat}(h:k≠a.block):(W.setCell a v).heap[k]? =W.heap[k]? :=
  ((Below.refl (k+1) {W with heap:=W.heap}).block k F0▸(by
    show(W.heap.modify a.block _)[k]? =W.heap[k]?;rw[Array.getElem?_modify,if_neg (Ne.symm h)]))
theorem Bd5 {W:World}{B:Nat}{v:Value}{t:TypeId}(h:W.heap[B]? =some (.cells #[v] t (0,0))):W.cell? ⟨B,0,none⟩=some v/\W.frozen? ⟨B,0,none⟩=false:=by
  constructor<;>simp[World.cell?,World.frozen?,h]
theorem oR(W:World)(v:Value)(t:TypeId):(W.alloc (.cells #[v] t)).cell? ⟨W.heap.size,0,none⟩=some v/\ (W.alloc (.cells #[v] t)).frozen? ⟨W.heap.size,0,none⟩=false:=Bd5 (World.alloc_heap_new W _)
theorem Jh{W:World}{a:Addr}{v:Value}(o:Obj)(h:W.cell? a=some v):(W.alloc o).cell? a=some v:=cell_kept h (World.grownBy_alloc W o none) (λr e=>by cases e)
theorem Pm{W:World}{a:Addr}{v:Value}(o:Obj)(h:W.cell? a=some v)(hf:W.frozen? a=false):(W.alloc o).frozen? a=false:=(frozen_kept h (World.grownBy_alloc W o none) (λr e=>by cases e)).trans hf
theorem Tryz.At5:Tryz.f153.ntmps=4:=F4
theorem Tryz.Axd:Tryz.f98.ntmps=18:=F4
set_option maxHeartbeats 1000000 in
set_option maxRecDepth 100000 in
theorem Aoh(n:Nat)(p:Option Addr)(len cap:Nat)(w:World):
    CallsIn Fence.wide n Tryz.prog 153 #[.slice p len cap] w λe w'=>e= .returned (.func (.func 192) #[] #[.pointer (some ⟨w.heap.size,0,none⟩)])/\w'=w.alloc (.cells #[.slice p len cap] 22):=by
  refine callsIn_of_wp Tryz.func153 rfl trivial ?_ rfl;simp only[Tryz.At5,List.size_toArray,List.length_cons,List.length_nil,Nat.reduceAdd,Nat.reduceSub,Array.replicate_succ,Array.replicate_zero,List.push_toArray,List.append_toArray,List.nil_append,List.cons_append]
  gi_wp2
  go_ret
  exact⟨rfl,rfl⟩
set_option maxHeartbeats 1000000 in
set_option maxRecDepth 100000 in
theorem Ai2(n:Nat)(h1:3<=n)(p:Option Addr)(len cap:Nat)(b:List UInt8)(y:Int×Int)(gl:List (Nat×List Value))
    (hC:ConOk Tryz.prog gl 193 ⟨[.lf (.list (.int .u8)) none],[.lf (.int .i64) none, .lf (.int .i64) none],Ur⟩)
    (w:World) (hv:Al (λk=>k<w.heap.size) w (.list (.int .u8)) b [.slice p len cap]) (hgl:GlOk gl (λk=>k<w.heap.size) w) (hy:Vf b=some y):
    CallsIn Fence.wide n Tryz.prog 98 #[.slice p len cap] w λe w'=>e= .returned (.tuple #[.int .i64 y.1, .int .i64 y.2])/\KeepN (λ_=>True) w w':=by
  refine callsIn_of_wp_marks Tryz.func98 rfl trivial ?_ rfl;simp only[Tryz.Axd,List.size_toArray,List.length_cons,List.length_nil,Nat.reduceAdd,Nat.reduceSub,Array.replicate_succ,Array.replicate_zero,List.push_toArray,List.append_toArray,List.nil_append,List.cons_append]
  gi_wp2
  refine⟨trivial,(λh=>nomatch h),(Aoh (n-1) _ _ _ _).mono ?_⟩;rintro e w' ⟨rfl,rfl⟩
  gi_wp2
  refine wpIn_rangeFunc_ownG (Kp:=KpF w.heap.size (w.heap.size+1+1+1)) rfl F0 (gf:=192) (lb:= #[.pointer (some ⟨w.heap.size+1+1+1,0,none⟩)]) rfl trivial (enters_of Tryz.func192 F4 rfl)
    (Asj (n-1) (w.heap.size+1+1+1) w.heap.size (.slice p len cap) b y gl hC _ ?VO ?hn ?hv ?hgl hy)
    (λh k=>⟨Nat.le_trans h.le k.le,k.box.trans h.box,λj hj=>(k.old j hj).trans (h.old j hj)⟩) ?hKb (Below.refl _ _) (λ_=>rfl)
    (λpre W=>(∀x∈pre,x.2=0)/\ (W.cell? ⟨w.heap.size+1+1,0,none⟩=some (.int .i64 (yx pre))/\W.frozen? ⟨w.heap.size+1+1,0,none⟩=false)/\
      (∃v,W.cell? ⟨w.heap.size,0,none⟩=some v/\W.frozen? ⟨w.heap.size,0,none⟩=false)/\ (∃v,W.cell? ⟨w.heap.size+1,0,none⟩=some v/\W.frozen? ⟨w.heap.size+1,0,none⟩=false)/\KeepN (λ_=>True) w W)
    (λc pre W=>c= .ret/\ (∃cK x,pre=cK++[x]/\x.2≠0/\W.cell? ⟨w.heap.size,0,none⟩=some (.int .i64 0)/\W.cell? ⟨w.heap.size+1,0,none⟩=some (.int .i64 x.2))/\KeepN (λ_=>True) w W)
    ?hI ?hIx ?h0
    (λx=>{tmps:= #[.slice p len cap,undef, .pointer (some ⟨w.heap.size,0,none⟩), .pointer (some ⟨w.heap.size+1,0,none⟩), .pointer (some ⟨w.heap.size+1+1,0,none⟩), .int .i64 x.1, .int .i64 x.2, .slice p len cap, .func (.func 192) #[] #[.pointer (some ⟨w.heap.size+1+1+1,0,none⟩)], .int .i64 x.1, .int .i64 x.2,undef,undef,undef,undef,undef,undef,undef],defers:=[]}) ?assign ?body ?done ?stop
  case assign=>
    intro l x W K hK
    gi_wp2
    exact hK
  case body=>
    rintro l pre x W ⟨hz,⟨hc,hf⟩,⟨v2,hc2,hf2⟩,⟨v3,hc3,hf3⟩,hk⟩ _
    gi_wp2
    · rename_i hx
      refine⟨(KeepsOthers.trans (KeepsOthers.setCell _ _ _) (KeepsOthers.setCell _ _ _)).from _,rfl,⟨pre,x,rfl,by simpa using hx,?_,?_⟩,eD (eD hk (Nat.le_refl _)) (Nat.le_succ _)⟩
      · refine(World.cell?_setCell_other _ _ _ _ A7).trans ?_
        exact World.cell?_setCell_same' _ _ _ (by rw[hc2];rfl)
      · refine World.cell?_setCell_same' _ _ _ ?_
        rw[World.cell?_setCell_other W ⟨w.heap.size,0,none⟩ ⟨w.heap.size+1,0,none⟩ _ A7,hc3];rfl
    · rename_i hx
      have hx0:x.2=0:=by simpa using hx
      refine⟨(KeepsOthers.setCell _ _ _).from _,⟨((Below.refl 0 W).setCell (p:=⟨w.heap.size+1+1,0,none⟩) (Nat.zero_le _) _).size,heap_set A7,λk hk'=>heap_set F7⟩,?_,⟨?_,by rw[World.frozen?_setCell];exact hf⟩,⟨v2,?_,by rw[World.frozen?_setCell];exact hf2⟩,⟨v3,?_,by rw[World.frozen?_setCell];exact hf3⟩,eD hk F7⟩
      · intro z hz'
        rcases List.mem_append.1 hz' with h|h
        · exact hz z h
        · simp at h;subst h;exact hx0
      · have e:yx (pre++[x])=RowKit.wrap64 (yx pre+x.1):=by
          simp only[yx,List.foldl_append,List.foldl_cons,List.foldl_nil,Ae,GI.ofZ,GI.toZ,Go.Lv.wrap64,RowKit.wrap64];exact IntKind.wrap_i64 _
        rw[e];exact World.cell?_setCell_same' _ _ _ (by rw[hc];rfl)
      · exact(World.cell?_setCell_other _ _ _ _ (by simp;try omega)).trans hc2
      · exact(World.cell?_setCell_other _ _ _ _ A7).trans hc3
  case done=>
    rintro D xs W hD hS ⟨hz,⟨hc,hf⟩,⟨v2,hc2,hf2⟩,⟨v3,hc3,hf3⟩,hk⟩ hK
    gi_wp2
    have hy':y=(yx xs,0):=hS.elim (λ⟨x,hx,hne⟩=>absurd (hz x hx) hne) id;have hlen:w.heap.size+4<=D:=by simp only[World.size_alloc]at hD;omega
    have hK':=((KeepsOthers.setCell W ⟨w.heap.size,0,none⟩ (.int .i64 (yx xs))).trans (KeepsOthers.setCell _ ⟨w.heap.size+1,0,none⟩ (.int .i64 0))).same D _ hK rfl;have hk2:=eD (v:= .int .i64 0) (a:=⟨w.heap.size+1,0,none⟩) (eD (v:= .int .i64 (yx xs)) (a:=⟨w.heap.size,0,none⟩) hk (Nat.le_refl _)) (Nat.le_succ _);have d0:((W.setCell ⟨w.heap.size,0,none⟩ (.int .i64 (yx xs))).setCell ⟨w.heap.size+1,0,none⟩ (.int .i64 0)).cell? ⟨w.heap.size,0,none⟩=some (.int .i64 (yx xs)):=
      (World.cell?_setCell_other _ _ _ _ A7).trans (World.cell?_setCell_same' _ _ _ (by rw[hc2];rfl))
    have d1:((W.setCell ⟨w.heap.size,0,none⟩ (.int .i64 (yx xs))).setCell ⟨w.heap.size+1,0,none⟩ (.int .i64 0)).cell? ⟨w.heap.size+1,0,none⟩=some (.int .i64 0):=
      World.cell?_setCell_same' _ _ _ (by rw[World.cell?_setCell_other W ⟨w.heap.size,0,none⟩ ⟨w.heap.size+1,0,none⟩ _ A7,hc3];rfl)
    refine⟨A7, .inl ⟨_,_,rfl,run_takeDeferred hK',?_⟩⟩;have hg:=grownBy_putObj' ((W.setCell ⟨w.heap.size,0,none⟩ (.int .i64 (yx xs))).setCell ⟨w.heap.size+1,0,none⟩ (.int .i64 0)) D (.deferred none);have hr':∀r,some D=some r->∃o:Obj,((W.setCell ⟨w.heap.size,0,none⟩ (.int .i64 (yx xs))).setCell ⟨w.heap.size+1,0,none⟩ (.int .i64 0)).heap[r]? =some o/\o.isCells=false:=λr e=>by cases e;exact⟨_,hK',rfl⟩
    have hc5:=cell_kept d0 hg hr';have hc6:=cell_kept d1 hg hr';refine⟨.tuple #[.int .i64 (yx xs), .int .i64 0],?_,by rw[hy'],?_⟩
    · simp[results,Tryz.f98,go_sem,hc5,hc6]
    · refine⟨λb hb _=>(hg.block b (Nat.lt_of_lt_of_le hb hk2.gr.le) (λe=>?_)).trans (hk2.same b hb trivial),hk2.gr.trans ⟨hg.size,hg.os,hg.tape,hg.output⟩⟩
      cases e;omega
  case stop=>
    rintro D c pre W hD hS ⟨rfl,⟨cK,x,rfl,hx,hc2,hc3⟩,hk⟩ hK
    gi_wp2
    obtain⟨p1,x1,he,hy1⟩:=hS;have hy':y=(0,x.2):=by
      have:=List.append_inj' he rfl;cases this.2;exact hy1 hx
    have hlen:w.heap.size+4<=D:=by simp only[World.size_alloc]at hD;omega
    refine⟨A7, .inl ⟨_,_,rfl,run_takeDeferred hK,?_⟩⟩;have hg:=grownBy_putObj' W D (.deferred none);have hr':∀r,some D=some r->∃o:Obj,W.heap[r]? =some o/\o.isCells=false:=λr e=>by cases e;exact⟨_,hK,rfl⟩
    have hc5:=cell_kept hc2 hg hr';have hc6:=cell_kept hc3 hg hr';refine⟨.tuple #[.int .i64 0, .int .i64 x.2],?_,by rw[hy'],?_⟩
    · simp[results,Tryz.f98,go_sem,hc5,hc6]
    · refine⟨λb hb _=>(hg.block b (Nat.lt_of_lt_of_le hb hk.gr.le) (λe=>?_)).trans (hk.same b hb trivial),hk.gr.trans ⟨hg.size,hg.os,hg.tape,hg.output⟩⟩
      cases e;omega
  case VO=>
    have h:=World.alloc_heap_new (((w.alloc (.cells #[.int .i64 0] 3)).alloc (.cells #[.int .i64 0] 26)).alloc (.cells #[.int .i64 0] 3)) (.cells #[.slice p len cap] 22);simp only[World.size_alloc]at h;exact h
  case hn=>simp;omega
  case hI=>
    rintro s A B row ⟨hz,⟨hc,hf⟩,⟨v2,hc2,hf2⟩,⟨v3,hc3,hf3⟩,hk⟩ hg hr;have hr':∀r,row=some r->∃o:Obj,A.heap[r]? =some o/\o.isCells=false:=λr e=>(hr r e).2;refine⟨hz,⟨cell_kept hc hg hr',(frozen_kept hc hg hr').trans hf⟩,⟨v2,cell_kept hc2 hg hr',(frozen_kept hc2 hg hr').trans hf2⟩,⟨v3,cell_kept hc3 hg hr',(frozen_kept hc3 hg hr').trans hf3⟩,?_⟩;refine⟨λb hb _=>(hg.block b (Nat.lt_of_lt_of_le hb hk.gr.le) (λe=>?_)).trans (hk.same b hb trivial),hk.gr.trans ⟨hg.size,hg.os,hg.tape,hg.output⟩⟩;have:=(hr b e.symm).1;simp at this;omega
  case hIx=>
    rintro c s A B row ⟨hc,⟨cK,x,hs,hx,hc2,hc3⟩,hk⟩ hg hr;have hr':∀r,row=some r->∃o:Obj,A.heap[r]? =some o/\o.isCells=false:=λr e=>(hr r e).2;refine⟨hc,⟨cK,x,hs,hx,cell_kept hc2 hg hr',cell_kept hc3 hg hr'⟩,?_⟩;refine⟨λb hb _=>(hg.block b (Nat.lt_of_lt_of_le hb hk.gr.le) (λe=>?_)).trans (hk.same b hb trivial),hk.gr.trans ⟨hg.size,hg.os,hg.tape,hg.output⟩⟩;have:=(hr b e.symm).1;simp at this;omega
  case hKb=>
    intro W l o o' hl h _ _;have hlt:=(Array.getElem?_eq_some_iff.1 h).1;simp at hl;have hg:=grownBy_putObj' W l o';exact⟨hg.size,hg.block _ F0 (λe=>by cases e;omega),λk hk=>hg.block k F0 (λe=>by cases e;omega)⟩
  case hgl=>
    intro q hq;refine⟨by simp;have:=(hgl q hq).1;omega,(hgl q hq).2.1,?_⟩;have hb:=((((Below.refl w.heap.size w).alloc (Nat.le_refl _) (.cells #[.int .i64 0] 3)).alloc A7 (.cells #[.int .i64 0] 26)).alloc F7 (.cells #[.int .i64 0] 3)).alloc F7 (.cells #[.slice p len cap] 22);rw[hb.block _ (hgl q hq).1];exact(hgl q hq).2.2
  case hv=>
    have hb:=((((Below.refl w.heap.size w).alloc (Nat.le_refl _) (.cells #[.int .i64 0] 3)).alloc A7 (.cells #[.int .i64 0] 26)).alloc F7 (.cells #[.int .i64 0] 3)).alloc F7 (.cells #[.slice p len cap] 22);exact Al.step (λ_ h=>h) (λk hk=>hb.block k hk) hv
  case h0=>
    have c0:=oR w (.int .i64 0) 3;have c1:=oR (w.alloc (.cells #[.int .i64 0] 3)) (.int .i64 0) 26;have c2:=oR ((w.alloc (.cells #[.int .i64 0] 3)).alloc (.cells #[.int .i64 0] 26)) (.int .i64 0) 3;simp only[World.size_alloc]at c1 c2;have hb:=((((Below.refl w.heap.size w).alloc (Nat.le_refl _) (.cells #[.int .i64 0] 3)).alloc A7 (.cells #[.int .i64 0] 26)).alloc F7 (.cells #[.int .i64 0] 3)).alloc F7 (.cells #[.slice p len cap] 22);exact⟨A7,⟨Jh _ c2.1,Pm _ c2.1 c2.2⟩,⟨_,Jh _ (Jh _ (Jh _ c0.1)),Pm _ (Jh _ (Jh _ c0.1)) (Pm _ (Jh _ c0.1) (Pm _ c0.1 c0.2))⟩,
      ⟨_,Jh _ (Jh _ c1.1),Pm _ (Jh _ c1.1) (Pm _ c1.1 c1.2)⟩,⟨λb hb' _=>hb.block b hb',⟨hb.size,hb.os,hb.tape,hb.output⟩⟩⟩
def VJ:Con:=⟨[.lf (.list (.int .u8)) none],[.lf (.int .i64) none, .lf (.int .i64) none],λx=>Vf x⟩
theorem Ayl{gl:List (Nat×List Value)}(hE:Ent Tryz.prog 98)(hC:ConOk Tryz.prog gl 193 ⟨[.lf (.list (.int .u8)) none],[.lf (.int .i64) none, .lf (.int .i64) none],Ur⟩):ConOk Tryz.prog gl 98 VJ:=by
  refine⟨hE,?_⟩;intro R N w L0 vs ps x y hargs hlen hit bJ hvs hgl hy;obtain rfl:=Option.some.inj (show some [PV.val (.list (.int .u8)) x]=some ps from hargs);obtain⟨v,_,rfl,h1,rfl⟩:=hvs;have h2:Al (λb=>R b/\N b) w (.list (.int .u8)) x [v]:=h1;have h3:=Al.step (B':=λk=>k<w.heap.size) (λ_ h=>h.1) (λ_ _=>rfl) (Qv h2);obtain⟨p,len,cap,rfl⟩:∃p len cap,v= .slice p len cap:=by
    obtain⟨v1,c0,e1,⟨p,len,cap,rfl,_⟩,_⟩:=h2;cases e1;exact⟨_,_,_,rfl⟩
  refine(callsIn_wide.1 (Ai2 3 (Nat.le_refl _) p len cap x y gl hC w h3 (λq hq=>⟨(hgl q hq).1,(hgl q hq).1,(hgl q hq).2.2⟩) hy)).mono ?_;rintro e w' ⟨rfl,hk⟩;refine⟨[.int .i64 y.1, .int .i64 y.2],rfl,⟨λb hb _=>hk.same b hb trivial,hk.gr⟩,λ_=>False,[],λ_ h=>h.elim,?_,?_⟩
  · trivial
  · intro s L B' hl _ _
    refine⟨[.val (.int .i64) y.1, .val (.int .i64) y.2],[],(show s=⟨s.sl,s.it++[],s.st⟩ by simp),rfl,?_,rfl,λi a m h=>by simp at h⟩;exact⟨_,_,rfl,rfl,_,_,rfl,rfl,rfl⟩
abbrev Ail:List Sh:=[.lf .str none, .lf (.list (.cons .str (.cons (.list (.int .u8)) .nil))) none]
abbrev Ajp:List Sh:=[.lf (.list (.int .u8)) (some 5), .lf (.int .i64) none]
def Tryz.Afq:Go.Shelf.Ren:=⟨λ|178=>224|251=>241|252=>242|181=>249|184=>250|290=>251|324=>253|n=>n,λ|130=>354|9=>9|3=>3|75=>333|0=>0|93=>331|91=>329|131=>116|4=>4|37=>22|20=>20|80=>364|5=>5|n=>n,λ|14=>6|n=>n⟩
theorem Tryz.Au2:Go.Proofs.LaysM.n178 Tryz.prog Tryz.Afq:={
  mixed:=F4
  f178:=Tryz.func224.trans (congrArg some F4)
  f181:=Tryz.func249.trans (congrArg some F4)
  f184:=Tryz.func250.trans (congrArg some F4)
  f251:=Tryz.func241.trans (congrArg some F4)
  f252:=Tryz.func242.trans (congrArg some F4)
  f290:=Tryz.func251.trans (congrArg some F4)
  f324:=Tryz.func253.trans (congrArg some F4)
  t0:=Tryz.underlying0
  a0:=Tryz.isAgg0
  z0:=Tryz.sizeOf0
  v0:=Tryz.zeroValue0
  t3:=Tryz.underlying3
  a3:=Tryz.isAgg3
  z3:=Tryz.sizeOf3
  v3:=Tryz.zeroValue3
  t4:=Tryz.underlying4
  a4:=Tryz.isAgg4
  z4:=Tryz.sizeOf4
  v4:=Tryz.zeroValue4
  t9:=Tryz.underlying9
  a9:=Tryz.isAgg9
  z9:=Tryz.sizeOf9
  v9:=Tryz.zeroValue9
  t20:=Tryz.underlying20
  a20:=Tryz.isAgg20
  z20:=Tryz.sizeOf20
  v20:=Tryz.zeroValue20
  t37:=Tryz.underlying22
  a37:=Tryz.isAgg22
  z37:=Tryz.sizeOf22
  v37:=Tryz.zeroValue22
  t75:=Tryz.underlying333
  a75:=Tryz.isAgg333
  z75:=Tryz.sizeOf333
  v75:=Tryz.zeroValue333
  t91:=Tryz.underlying329
  a91:=Tryz.isAgg329
  z91:=Tryz.sizeOf329
  v91:=Tryz.zeroValue329
  t93:=Tryz.underlying331
  a93:=Tryz.isAgg331
  z93:=Tryz.sizeOf331
  v93:=Tryz.zeroValue331
  t130:=Tryz.underlying354
  a130:=Tryz.isAgg354
  z130:=Tryz.sizeOf354
  v130:=Tryz.zeroValue354
  t131:=Tryz.underlying116
  a131:=Tryz.isAgg116
  z131:=Tryz.sizeOf116
  v131:=Tryz.zeroValue116
  g14:=F4
  t5:=Tryz.underlying5
  a5:=Tryz.isAgg5
  z5:=Tryz.sizeOf5
  v5:=Tryz.zeroValue5
  t80:=Tryz.underlying364
  a80:=Tryz.isAgg364
  z80:=Tryz.sizeOf364
  v80:=Tryz.zeroValue364
  i0:=F4
  i3:=F4
  i4:=F4
  i5:=F4
  i9:=F4
  i20:=F4
  i37:=F4
  i75:=F4
  i80:=F4
  i91:=F4
  i93:=F4
  i130:=F4
  i131:=F4
  m14:=by kernel_rfl}
def Tryz.Ah6:Go.Shelf.Ren:=⟨λ|180=>225|251=>241|252=>242|181=>249|184=>250|290=>251|324=>253|n=>n,λ|130=>354|37=>22|3=>3|75=>333|0=>0|93=>331|91=>329|131=>116|4=>4|20=>20|5=>5|80=>364|9=>9|n=>n,λ|14=>6|n=>n⟩
theorem Tryz.wm:Go.Proofs.LaysM.n180 Tryz.prog Tryz.Ah6:={
  mixed:=F4
  f180:=Tryz.func225.trans (congrArg some F4)
  f181:=Tryz.func249.trans (congrArg some F4)
  f184:=Tryz.func250.trans (congrArg some F4)
  f251:=Tryz.func241.trans (congrArg some F4)
  f252:=Tryz.func242.trans (congrArg some F4)
  f290:=Tryz.func251.trans (congrArg some F4)
  f324:=Tryz.func253.trans (congrArg some F4)
  t0:=Tryz.underlying0
  a0:=Tryz.isAgg0
  z0:=Tryz.sizeOf0
  v0:=Tryz.zeroValue0
  t3:=Tryz.underlying3
  a3:=Tryz.isAgg3
  z3:=Tryz.sizeOf3
  v3:=Tryz.zeroValue3
  t4:=Tryz.underlying4
  a4:=Tryz.isAgg4
  z4:=Tryz.sizeOf4
  v4:=Tryz.zeroValue4
  t20:=Tryz.underlying20
  a20:=Tryz.isAgg20
  z20:=Tryz.sizeOf20
  v20:=Tryz.zeroValue20
  t37:=Tryz.underlying22
  a37:=Tryz.isAgg22
  z37:=Tryz.sizeOf22
  v37:=Tryz.zeroValue22
  t75:=Tryz.underlying333
  a75:=Tryz.isAgg333
  z75:=Tryz.sizeOf333
  v75:=Tryz.zeroValue333
  t91:=Tryz.underlying329
  a91:=Tryz.isAgg329
  z91:=Tryz.sizeOf329
  v91:=Tryz.zeroValue329
  t93:=Tryz.underlying331
  a93:=Tryz.isAgg331
  z93:=Tryz.sizeOf331
  v93:=Tryz.zeroValue331
  t130:=Tryz.underlying354
  a130:=Tryz.isAgg354
  z130:=Tryz.sizeOf354
  v130:=Tryz.zeroValue354
  t131:=Tryz.underlying116
  a131:=Tryz.isAgg116
  z131:=Tryz.sizeOf116
  v131:=Tryz.zeroValue116
  g14:=F4
  t5:=Tryz.underlying5
  a5:=Tryz.isAgg5
  z5:=Tryz.sizeOf5
  v5:=Tryz.zeroValue5
  t9:=Tryz.underlying9
  a9:=Tryz.isAgg9
  z9:=Tryz.sizeOf9
  v9:=Tryz.zeroValue9
  t80:=Tryz.underlying364
  a80:=Tryz.isAgg364
  z80:=Tryz.sizeOf364
  v80:=Tryz.zeroValue364
  i0:=F4
  i3:=F4
  i4:=F4
  i5:=F4
  i9:=F4
  i20:=F4
  i37:=F4
  i75:=F4
  i80:=F4
  i91:=F4
  i93:=F4
  i130:=F4
  i131:=F4
  m14:=by kernel_rfl}
def Tryz.Afb:Go.Shelf.Ren:=⟨λ|183=>227|n=>n,λ|130=>354|37=>22|0=>0|93=>331|3=>3|5=>5|91=>329|n=>n,λ|n=>n⟩
theorem Tryz.Avk:Go.Proofs.LaysM.n183 Tryz.prog Tryz.Afb:={
  mixed:=F4
  f183:=Tryz.func227.trans (congrArg some F4)
  t0:=Tryz.underlying0
  a0:=Tryz.isAgg0
  z0:=Tryz.sizeOf0
  v0:=Tryz.zeroValue0
  t3:=Tryz.underlying3
  a3:=Tryz.isAgg3
  z3:=Tryz.sizeOf3
  v3:=Tryz.zeroValue3
  t37:=Tryz.underlying22
  a37:=Tryz.isAgg22
  z37:=Tryz.sizeOf22
  v37:=Tryz.zeroValue22
  t93:=Tryz.underlying331
  a93:=Tryz.isAgg331
  z93:=Tryz.sizeOf331
  v93:=Tryz.zeroValue331
  t130:=Tryz.underlying354
  a130:=Tryz.isAgg354
  z130:=Tryz.sizeOf354
  v130:=Tryz.zeroValue354
  t5:=Tryz.underlying5
  a5:=Tryz.isAgg5
  z5:=Tryz.sizeOf5
  v5:=Tryz.zeroValue5
  t91:=Tryz.underlying329
  a91:=Tryz.isAgg329
  z91:=Tryz.sizeOf329
  v91:=Tryz.zeroValue329
  i0:=F4
  i3:=F4
  i5:=F4
  i37:=F4
  i91:=F4
  i93:=F4
  i130:=by kernel_rfl}
theorem Tryz.At4:Tryz.f223.ntmps=17:=F4
theorem Tryz.Avc:Tryz.f198.ntmps=48:=F4
theorem RT{l m r:LB}(h:Cm l m=some r):r=l++m/\l.length+m.length<=17179869184:=by
  unfold Cm Q8 at h;split at h
  · cases h;exact⟨rfl,by assumption⟩
  · cases h
theorem mh(B b:Nat)(bs l:List UInt8)(w:World)(h:Lib.IsBuffer 331 5 B b (Lib.byteCells bs) w)(hf:bs=[]->w.cell? ⟨b,0,none⟩=some (.slice none 0 0)/\1<=l.length/\l.length<=64)
    (hBw:B<=w.heap.size) (hlim:bs.length+l.length<=140737488355328):
    Calls Tryz.prog 224 #[.pointer (some ⟨b,0,none⟩),sv l] w λe w'=>e= .returned (.tuple #[.int .i64 l.length, .nilIface])/\Lib.IsBuffer 331 5 B b (Lib.byteCells (bs++l)) w'/\Below B w w'/\Rf.kO b w w':=
  Rf.Af1 Tryz.Au2 B b bs l w h hf hBw hlim
theorem sw{A:Nat->Prop}(B b:Nat)(bs l:List UInt8)(v:Value)(w:World)(h:Lib.IsBuffer 331 5 B b (Lib.byteCells bs) w)(hBw:B<=w.heap.size)(hs:Rf.Src A w l v)(hA:¬A b)(hlim:bs.length+l.length<=140737488355328):
    Calls Tryz.prog 225 #[.pointer (some ⟨b,0,none⟩),v] w λe w'=>e= .returned (.tuple #[.int .i64 l.length, .nilIface])/\Lib.IsBuffer 331 5 B b (Lib.byteCells (bs++l)) w'/\Below B w w'/\Lib.OthersKept 5 (some b) w w':=
  Rf.Afe Tryz.wm B b bs l v w h hBw hs hA hlim
theorem Amz(B b:Nat)(bs:List Value)(w:World)(h:Lib.IsBuffer 331 5 B b bs w):
    Calls Tryz.prog 227 #[.pointer (some ⟨b,0,none⟩)] w λe w'=>∃v,e= .returned v/\w'.ownsRow B 5 1 v bs.length bs/\∃n,w'=w.drewN n:=
  Any.Buffer_Bytes Tryz.Avk B b bs w h
theorem At2{l id l':LB}{k:Int}(h:jW l id k=some l'):∃c,l'=l++id++c:=by
  obtain⟨⟨c,e⟩,_,h⟩:=Go.Lv.bind_some h;obtain⟨p,hp,h⟩:=Go.Lv.bind_some h;obtain⟨rfl,_⟩:=RT hp;obtain⟨rfl,_⟩:=RT h;exact⟨c,rfl⟩
set_option maxHeartbeats 2000000 in
set_option maxRecDepth 100000 in
theorem Atm(n:Nat)(gl:List (Nat×List Value))(hC:ConOk Tryz.prog gl 88 ⟨[.lf (.int .u64) none, .lf (.int .i64) none],[.lf (.list (.int .u8)) (some 5), .lf (.int .i64) none],λx=>Km x.1 x.2⟩)
    (B b:Nat) (l id l':LB) (k:Int) (W:World) (h:Lib.IsBuffer 331 5 B b (Lib.byteCells l) W) (hf:l=[]->W.cell? ⟨b,0,none⟩=some (.slice none 0 0)/\1<=id.length/\id.length<=64)
    (hBw:B<=W.heap.size) (hgl:GlOk gl (λ_=>True) W) (hy:jW l id k=some l'):
    CallsIn Fence.wide n Tryz.prog 223 #[sv id, .int .i64 k, .pointer (some ⟨b,0,none⟩)] W λe W'=>e= .returned (.tuple #[])/\Lib.IsBuffer 331 5 B b (Lib.byteCells l') W'/\Below B W W'/\Lib.OthersKept 5 (some b) W W':=by
  obtain⟨⟨c,e⟩,hle,hy⟩:=Go.Lv.bind_some hy;obtain⟨p,hp,hy⟩:=Go.Lv.bind_some hy;obtain⟨rfl,q1⟩:=RT hp;obtain⟨rfl,q2⟩:=RT hy;rw[List.length_append]at q2;refine callsIn_of_wp Tryz.func223 rfl trivial ?_ rfl;simp only[Tryz.At4,List.size_toArray,List.length_cons,List.length_nil,Nat.reduceAdd,Nat.reduceSub,Array.replicate_succ,Array.replicate_zero,List.push_toArray,List.append_toArray,List.nil_append,List.cons_append];have hz:iv (Ad k:UInt64)= .int .u64 (IntKind.u64.wrap k):=congrArg (Value.int .u64) (GI.toZ_ofZ _);have hcall:=Rf.Aqh hC (W:=W) (x:=Ad k) (n:=4) hgl hle;rw[hz]at hcall
  gi_wp2
  refine⟨trivial,(λh=>nomatch h),(callsIn_wide.2 hcall).mono ?_⟩;rintro e1 W1 ⟨v,rfl,hk,hs⟩;have hb1:=Rf.Up hk;have h1:=Rf.xI h hb1.block;have hlt:=h.lt;have hc1:W1.cell? ⟨b,0,none⟩=W.cell? ⟨b,0,none⟩:=World.cell?_of_block (hb1.block b hlt)
  gi_wp2
  refine⟨trivial,(λh=>nomatch h),(callsIn_wide.2 (mh B b l id W1 h1 (λe=>⟨hc1.trans (hf e).1,(hf e).2⟩) (Nat.le_trans hBw hb1.size) F0)).mono ?_⟩;rintro e2 W2 ⟨rfl,h2,hb2,hr2⟩;have hs2:Rf.Src (λk=>W.heap.size<=k/\k<W1.heap.size) W2 c v:=hs.keep λj hj=>hr2 j hj.2 (λe=>absurd hlt F0) λad n c hc e=>by
    rw[hc1]at hc;have:=Rf.As5 h hc;omega
  gi_wp2
  refine⟨trivial,(λh=>nomatch h),(callsIn_wide.2 (sw B b (l++id) c v W2 h2 (Nat.le_trans hBw (Nat.le_trans hb1.size hb2.size)) hs2 (λh=>by omega) (by rw[List.length_append];omega))).mono ?_⟩;rintro e3 W3 ⟨rfl,h3,hb3,ho3⟩
  gi_wp2
  go_end0
  exact⟨rfl,h3,((hb1.mono hBw).trans hb2).trans hb3,(((Lib.OthersKept.refl _ _ W).below hb1).trans (Rf.Azb h1 hr2)).trans ho3⟩
theorem yu{gl:List (Nat×List Value)}{w W:World}{B:Nat}(h:GlOk gl (λ_=>True) w)(hB:w.heap.size<=B)(hb:Below B w W):GlOk gl (λ_=>True) W:=
  λp hp=>⟨Nat.lt_of_lt_of_le (h p hp).1 hb.size,trivial,by rw[hb.block _ (Nat.lt_of_lt_of_le (h p hp).1 hB)];exact(h p hp).2.2⟩
set_option maxHeartbeats 4000000 in
set_option maxRecDepth 100000 in
theorem Az4(n:Nat)(gl:List (Nat×List Value))(hCk:ConOk Tryz.prog gl 222 ⟨[.lf .str none, .lf (.list (.cons .str (.cons (.list (.int .u8)) .nil))) none],[.lf (.int .i64) none],λx=>GN x.1 x.2⟩)(hSz:ConOk Tryz.prog gl 226 ⟨[.lf (.list (.cons .str (.cons (.list (.int .u8)) .nil))) none],[.lf (.int .i64) none],WB⟩)(hLe:ConOk Tryz.prog gl 88 ⟨[.lf (.int .u64) none, .lf (.int .i64) none],[.lf (.list (.int .u8)) (some 5), .lf (.int .i64) none],λx=>Km x.1 x.2⟩)
    (w:World) (a:LB) (bl:List (LB×LB×Unit)) (vl:Value) (hv:Al (λk=>k<w.heap.size) w (.list Rf.CH) bl [vl]) (hgl:GlOk gl (λ_=>True) w) (y:LB×Int) (hy:aT a bl=some y):
    CallsIn Fence.wide n Tryz.prog 198 #[sv a,vl] w λe w'=>∃v,e= .returned (.tuple #[v, .int .i64 y.2])/\KeepN (λ_=>True) w w'/\∃o,(Mob.own 1 5 v (Lib.byteCells y.1)).holds o w'/\∀k,o=some k->w.heap.size<=k/\k<w'.heap.size:=by
  unfold aT at hy;obtain⟨e,hck,hy⟩:=Go.Lv.bind_some hy;have hcall:=Rf.Apw (s:=a) hCk hv hgl hck;refine callsIn_of_wp Tryz.func198 rfl trivial ?_ rfl;simp only[Tryz.Avc,List.size_toArray,List.length_cons,List.length_nil,Nat.reduceAdd,Nat.reduceSub,Array.replicate_succ,Array.replicate_zero,List.push_toArray,List.append_toArray,List.nil_append,List.cons_append]
  gi_wp2
  refine⟨trivial,(λh=>nomatch h),(callsIn_wide.2 hcall).mono ?_⟩;rintro e1 w1 ⟨rfl,hk1⟩;have hlim:e=0->bl.length<=20:=λhe=>by
    by_cases hg:Dq (Ac bl) 20=true
    · have h4:GN a bl=some 4:=by unfold GN UE;rw[if_pos hg]
      rw[h4,he]at hck;cases hck
    · have:¬((20:Int)<(bl.length:Int)):=λh=>hg (by simpa [Dq,Ac,GI.toZ]using h)
      omega
  have e5:Bl e 0=(e !=0):=rfl;rw[e5]at hy;by_cases he:e=0
  case neg=>
    rw[if_pos (by simpa using he)]at hy;cases hy
    gi_wp2
    go_ret2
    exact⟨_,rfl,hk1,none,Rf.sE,λk h=>nomatch h⟩
  have hlim:=hlim he;subst he;rw[if_neg A7]at hy
  gi_wp2
  obtain⟨n1,hsz,hy⟩:=Go.Lv.bind_some hy;obtain⟨f,hf,hy⟩:=Go.Lv.bind_some hy;obtain⟨g,hg,hy⟩:=Go.Lv.bind_some hy;obtain⟨h,hh,hy⟩:=Go.Lv.bind_some hy;cases hy;have hb1:=Rf.Up hk1;have hI0:=Lib.fresh_isBuffer 331 5 w1;have hc0:(w1.alloc (.cells #[.slice none 0 0, .int .i64 0, .int .i8 0] 331)).cell? ⟨w1.heap.size,0,none⟩=some (.slice none 0 0):=by rw[Lib.cell_of_heap (World.alloc_heap_new w1 _)];rfl
  have hb0:=(Below.refl w1.heap.size w1).alloc (Nat.le_refl _) (.cells #[.slice none 0 0, .int .i64 0, .int .i8 0] 331);generalize(w1.alloc (.cells #[.slice none 0 0, .int .i64 0, .int .i8 0] 331))=W0 at hI0 hc0 hb0⊢;have hbw0:=(hb1.trans (hb0.mono hb1.size));have hv0:Al (λk=>k<w.heap.size) W0 (.list Rf.CH) bl [vl]:=Al.step (λ_ h=>h) (λk hk=>hbw0.block k hk) hv;refine⟨trivial,(λh=>nomatch h),(callsIn_wide.2 (Rf.Apb hSz hv0 (yu hgl (Nat.le_refl _) hbw0) hsz)).mono ?_⟩;rintro e2 W2 ⟨rfl,hk2⟩;have hb2:=Rf.Up hk2;have hI2:=Rf.xI hI0 hb2.block;have hc2:W2.cell? ⟨w1.heap.size,0,none⟩=some (.slice none 0 0):=(World.cell?_of_block (hb2.block _ hI0.lt)).trans hc0;have hbw2:Below w1.heap.size w1 W2:=hb0.trans (hb2.mono hb0.size);clear hI0 hc0 hb0 hbw0 hv0 hb2 hk2
  gi_wp2
  refine⟨trivial,(λh=>nomatch h),(Atm (n-1) gl hLe w1.heap.size w1.heap.size [] [82,73,70,70] f n1 W2 hI2 (λ_=>⟨hc2,F6,F6⟩) hbw2.size (yu hgl (Nat.le_refl _) (hb1.trans (hbw2.mono hb1.size))) hf).mono ?_⟩;rintro e3 W3 ⟨rfl,hI3,hb3,ho3⟩;obtain⟨c3,hf3⟩:=At2 hf;have hfn:f≠ []:=by rw[hf3];simp
  have jK:=hbw2.trans hb3;obtain⟨rfl,q1⟩:=RT hg
  gi_wp2
  refine⟨trivial,(λh=>nomatch h),(callsIn_wide.2 (mh _ _ f a W3 hI3 (λe=>absurd e hfn) jK.size F0)).mono ?_⟩;rintro e4 W4 ⟨rfl,hI4,hb4,hr4⟩;have Ax1:=jK.trans hb4;have hgn:f++a≠ []:=by simp[hfn]
  clear hI2 hc2 hI3 hb3 ho3 hr4 hbw2 jK hb4 hf3;obtain⟨v1,c0,e1,⟨p,len,cap,rfl,hl1,hl2,hl3,hl4⟩,hall⟩:=(show∃v c0,[vl]=[v]/\Rd _ w 2 v c0/\Bp (Al _ w Rf.CH) bl c0 from hv);cases e1;have hlen:bl.length=len:=by
    have:=Bp.len (z:=2) (λx c h=>Rf.Asf h) hall;omega
  gi_wp2
  refine L! (bl.length+1) (λq a W=>∃(i:Nat) (l:LB) (z:Int) (x0 x1 x2 x3 x4 x5 x6 x9 x10 x11 x12 x13 x14 x15 x16 x17 x18 x19 x20 x21 x22 x23 x27 x28 x29 x30 x31 x32 x33 x34 x35 x36 x37 x38 x39 x40 x41 x42 x43 x44 x45 x46 x47:Value),a={tmps:= #[x0,x1,x2,x3,x4,x5,x6, .pointer (some ⟨w1.heap.size,0,none⟩), .func (.func 223) #[] #[.pointer (some ⟨w1.heap.size,0,none⟩)],x9,x10,x11,x12,x13,x14,x15,x16,x17,x18,x19,x20,x21,x22,x23, .slice p len cap, .int .i64 len, .int .i64 z,x27,x28,x29,x30,x31,x32,x33,x34,x35,x36,x37,x38,x39,x40,x41,x42,x43,x44,x45,x46,x47],defers:=[]}/\z=(i:Int)/\q+i=bl.length+1/\i<=bl.length/\
    Lib.IsBuffer 331 5 w1.heap.size w1.heap.size (Lib.byteCells l) W/\l≠ []/\Below w1.heap.size w1 W/\pH (bl.drop i) l=some h) ?_ ?_ ?_
  · rintro a W ⟨i,l,z,x0,x1,x2,x3,x4,x5,x6,x9,x10,x11,x12,x13,x14,x15,x16,x17,x18,x19,x20,x21,x22,x23,x27,x28,x29,x30,x31,x32,x33,x34,x35,x36,x37,x38,x39,x40,x41,x42,x43,x44,x45,x46,x47,_,_,hq,hi,_⟩
    omega
  · rintro q a W ⟨i,l,_,x0,x1,x2,x3,x4,x5,x6,x9,x10,x11,x12,x13,x14,x15,x16,x17,x18,x19,x20,x21,x22,x23,x27,x28,x29,x30,x31,x32,x33,x34,x35,x36,x37,x38,x39,x40,x41,x42,x43,x44,x45,x46,x47,rfl,rfl,hq,hi,hI,hl,hb,hr⟩
    by_cases hlt:i<bl.length
    · obtain⟨c,hc⟩:∃c,bl[i]? =some c:=⟨_,List.getElem?_eq_getElem hlt⟩
      have hd:bl.drop i=c::bl.drop (i+1):=by
        rw[List.drop_eq_getElem_cons hlt];rw[List.getElem?_eq_getElem hlt]at hc;rw[Option.some.inj hc]
      rw[hd]at hr;simp only[pH]at hr;obtain⟨l1,r1,hr⟩:=Go.Lv.bind_some hr;obtain⟨l2,r2,hr⟩:=Go.Lv.bind_some hr;obtain⟨z,r3,hr⟩:=Go.Lv.bind_some hr;obtain⟨l3,r4,hr⟩:=Go.Lv.bind_some hr;obtain⟨vd,g1,g2,g3⟩:=Rf.Atr hall hc;obtain⟨bk,off,arr,T,fr,rfl,hbk,hheap,hsz2,hcells⟩:=hl4 F0;have hsrc:=Rf.vB g3;obtain⟨pd,_,VR,rfl,rfl,d2,d3⟩:=id hsrc;have Ax2:Below w.heap.size w W:=hb1.trans (hb.mono hb1.size);have hW:W.heap[bk]? =some (.cells arr T fr):=(Ax2.block _ hbk).trans hheap;have ha0:W.cell? ⟨bk,off+i*2,none⟩=some (sv c.1):=by rw[Lib.cell_of_heap hW,Nat.mul_comm i 2];exact(hcells (2*i) F0).trans g1
      have ha1:W.cell? ⟨bk,off+i*2+1,none⟩=some (.slice pd c.2.1.length VR):=by rw[Lib.cell_of_heap hW,Nat.mul_comm i 2,Nat.add_assoc];exact(hcells (2*i+1) F0).trans g2
      gi_wp2
      have hIa:=Rf.xI hI (λk hk=>Below.heap_alloc W (.cells #[sv c.1, .slice pd c.2.1.length VR] 300) k hk);have hka:(W.alloc (.cells #[sv c.1, .slice pd c.2.1.length VR] 300)).heap[W.heap.size]? =some (.cells #[sv c.1, .slice pd c.2.1.length VR] 300 (0,0)):=World.alloc_heap_new W _;have hba:=hb.alloc hb.size (.cells #[sv c.1, .slice pd c.2.1.length VR] 300);have hkb:W.heap.size≠w1.heap.size:=λe=>absurd hI.lt F0;refine⟨trivial,(λh=>nomatch h),(Atm (n-1) gl hLe _ _ l c.1 l1 _ _ hIa (λe=>absurd e hl) hba.size (yu hgl (Nat.le_refl _) (hb1.trans (hba.mono hb1.size))) r1).mono ?_⟩;rintro e5 W5 ⟨rfl,hI5,hb5,ho5⟩;have hk5:=ho5 _ _ hka (λe=>hkb (Option.some.inj e)) (λc fz e=>by cases e);have c5:W5.cell? ⟨W.heap.size,1,none⟩=some (.slice pd c.2.1.length VR):=by rw[Lib.cell_of_heap hk5];rfl
      have hb5':=hba.trans hb5;obtain⟨rfl,q2⟩:=RT r2;obtain⟨rfl,q3⟩:=RT r4;obtain⟨c1,hl1⟩:=At2 r1
      gi_wp2
      refine⟨trivial,(λh=>nomatch h),(callsIn_wide.2 (sw (A:=λk=>k<w.heap.size) _ _ l1 c.2.1 _ W5 hI5 hb5'.size (hsrc.keep λk hk=>(hb1.trans (hb5'.mono hb1.size)).block k hk) (λh=>absurd hb1.size F0) F0)).mono ?_⟩;rintro e6 W6 ⟨rfl,hI6,hb6,ho6⟩;have hk6:=ho6 _ _ hk5 (λe=>hkb (Option.some.inj e)) (λc fz e=>by cases e);have c6:W6.cell? ⟨W.heap.size,1,none⟩=some (.slice pd c.2.1.length VR):=by rw[Lib.cell_of_heap hk6];rfl
      have hb6':=hb5'.trans hb6;clear hIa hka hba hI5 hb5 ho5 hk5 c5 hb5' hb6 ho6 hk6 ha0 ha1 hW;have hbit:bits BinOp.and IntKind.i64 (c.2.1.length:Int) 1=((c.2.1.length %2:Nat):Int):=Rf.Akj c.2.1.length F0;obtain⟨m,hm2⟩:∃m:Nat,m=c.2.1.length %2:=⟨_,rfl⟩;rw[<-hm2]at hbit;have y!:Cy (Ac c.2.1) 1=(m:Int):=hbit;rw[y!]at r3;have hm1:m<=1:=F0
      obtain rfl:z=List.replicate m 0:=by
        unfold vg at r3;split at r3
        · cases r3;rfl
        · cases r3
      obtain⟨i0,hi0,hz0,hz1,hz2⟩:=info_parts Tryz.wm.i5;obtain⟨M,hmk,hms⟩:=Rf.Aaz (P:=Tryz.prog) (TB:=22) (U8:=5) Tryz.underlying22 hi0 hz0 hz1 hz2 m hm1;clear hm2 y! r3 hi0 hz0 hz1 hz2
      gi_wp2
      refine⟨trivial,(λh=>nomatch h),(callsIn_wide.2 (sw (A:=λk=>k=W6.heap.size) _ _ (l1++c.2.1) (List.replicate m 0) _ _ (Rf.xI hI6 (λk hk=>Below.heap_alloc W6 (.cells M 5) k hk)) (hb6'.alloc hb6'.size (.cells M 5)).size (hms W6) (λe=>absurd hI6.lt F0) (by rw[List.length_append];rw[List.length_append]at q3;omega))).mono ?_⟩;rintro e8 W8 ⟨rfl,hI8,hb8,ho8⟩;have hb8':=(hb6'.alloc hb6'.size (.cells M 5)).trans hb8
      gi_wp2
      exact⟨i+1,l1++c.2.1++List.replicate m 0,_,_,_,_,_,_,_,_,_,_,_,_,_,_,_,_,_,_,_,_,_,_,_,_,_,_,_,_,_,_,_,_,_,_,_,_,_,_,_,_,_,_,_,_,rfl,F0,F0,F0,hI8,by simp[hl1,hl],hb8',hr⟩
    · obtain rfl:i=bl.length:=F0
      rw[List.drop_length]at hr;obtain rfl:l=h:=Option.some.inj hr
      gi_wp2
      refine⟨trivial,(λh=>nomatch h),(callsIn_wide.2 (Amz _ _ _ W hI)).mono ?_⟩;rintro e9 W9 ⟨v,rfl,hown,n9,rfl⟩
      gi_wp2
      go_ret2
      have hbf:=(hb1.trans (hb.mono hb1.size)).trans (Rf.Ay3 _ W n9);obtain⟨o,ho1,ho2⟩:=Rf.Aa9 hown;exact⟨_,rfl,Rf.jU hbf,o,ho1,λk hk=>⟨Nat.le_trans hb1.size (ho2 k hk).1,(ho2 k hk).2⟩⟩
  · exact⟨0,f++a,_,_,_,_,_,_,_,_,_,_,_,_,_,_,_,_,_,_,_,_,_,_,_,_,_,_,_,_,_,_,_,_,_,_,_,_,_,_,_,_,_,_,_,_,rfl,rfl,F0,Nat.zero_le _,hI4,hgn,Ax1,by simpa using hh⟩
noncomputable def ZU:Con:=⟨Ail,Ajp,λx=>aT x.1 x.2⟩
theorem Azf{gl:List (Nat×List Value)}(hE:Ent Tryz.prog 198)(hCk:ConOk Tryz.prog gl 222 ⟨[.lf .str none, .lf (.list (.cons .str (.cons (.list (.int .u8)) .nil))) none],[.lf (.int .i64) none],λx=>GN x.1 x.2⟩)(hSz:ConOk Tryz.prog gl 226 ⟨[.lf (.list (.cons .str (.cons (.list (.int .u8)) .nil))) none],[.lf (.int .i64) none],WB⟩)(hLe:ConOk Tryz.prog gl 88 ⟨[.lf (.int .u64) none, .lf (.int .i64) none],[.lf (.list (.int .u8)) (some 5), .lf (.int .i64) none],λx=>Km x.1 x.2⟩):ConOk Tryz.prog gl 198 ZU:=by
  refine⟨hE,?_⟩;rintro R N w L0 vs ps ⟨a,bl⟩ y hargs hlen hit bJ hvs hgl hy;obtain rfl:=Option.some.inj (show some [PV.val .str a,PV.val (.list Rf.CH) bl]=some ps from hargs);obtain⟨v0,_,rfl,h0,v,_,rfl,h1,rfl⟩:=hvs;obtain rfl:v0=sv a:=by cases(show [v0]=[sv a]from h0);rfl
  have h2:Al (λb=>R b/\N b) w (.list Rf.CH) bl [v]:=h1;have h3:=Al.step (B':=λk=>k<w.heap.size) (λ_ h=>h.1) (λ_ _=>rfl) (Qv h2);refine(callsIn_wide.1 (Az4 3 gl hCk hSz hLe w a bl v h3 (λq hq=>⟨(hgl q hq).1,trivial,(hgl q hq).2.2⟩) y hy)).mono ?_;rintro e w' ⟨u,rfl,hk,o,ho1,ho2⟩;refine⟨[u, .int .i64 y.2],rfl,⟨λb hb _=>hk.same b hb trivial,hk.gr⟩,λ_=>False,[.own 1 5 u (Lib.byteCells y.1)],λ_ h=>h.elim,?_,?_⟩
  · exact⟨o,ho1,λb hb=>⟨λh=>h.elim id λh=>absurd (ho2 b hb).1 (by have:=h.1;omega),(ho2 b hb).2⟩,trivial⟩
  · intro s L B' hl _ _
    refine⟨[.own s.it.length, .val (.int .i64) y.2],[.arr 5 (.int .u8) y.1],rfl,rfl,?_,rfl,λi a m h1 h2=>?_⟩
    · refine⟨_,_,rfl,⟨1,5,u,Lib.byteCells y.1,?_,rfl⟩,_,_,rfl,rfl,rfl⟩
      rw[<-hl];simp
    · cases i with
      |zero=>
        cases h1;cases h2;exact⟨rfl,rfl,Rf.RU y.1⟩
      |succ i=>simp at h1
theorem Tryz.Aws:Tryz.f27.ntmps=51:=F4
set_option maxHeartbeats 4000000 in
set_option maxRecDepth 100000 in
theorem Bdr(n:Nat)(gl:List (Nat×List Value))(hF:ConOk Tryz.prog gl 68 ⟨[.lf .str none],[.lf (.list (.int .u8)) (some 5)],Nf⟩)(hI:ConOk Tryz.prog gl 69 ⟨[.lf (.list (.int .u8)) none, .lf .str none, .lf (.int .i64) none],[.lf .bool none],λx=>Cn x.1 x.2.1 x.2.2⟩)(w:World)(hgl:GlOk gl (λ_=>True) w)(y:Bool)(hy:Gt=some y):
    CallsIn Fence.wide n Tryz.prog 27 #[] w λe w'=>e= .returned (.bool y)/\KeepN (λ_=>True) w w':=by
  unfold Gt at hy;obtain⟨b,hb,hy⟩:=Go.Lv.bind_some hy;refine callsIn_of_wp Tryz.func27 rfl trivial ?_ rfl;simp only[Tryz.Aws,List.size_toArray,List.length_cons,List.length_nil,Nat.reduceAdd,Nat.reduceSub,Array.replicate_succ,Array.replicate_zero,List.push_toArray,List.append_toArray,List.nil_append,List.cons_append]
  gi_wp2
  refine⟨trivial,(λh=>nomatch h),(callsIn_wide.2 (Rf.Aor hF (W:=w) hgl hb)).mono ?_⟩;rintro e1 w1 ⟨v,o,rfl,hk1,ho1,hn1⟩;have hb1:=Rf.Up hk1;by_cases h40:b.length<40
  · rw[if_pos (show Ci (Ac b) 40=true from decide_eq_true (by show(b.length:Int)<40;omega))]at hy
    cases hy;obtain⟨p,len,cap,rfl,g1, -⟩:=id ho1;have hlen:len=b.length:=by simpa [Lib.byteCells]using g1.symm
    subst hlen;have h40':(b.length:Int)<40:=F0
    gi_wp2
    go_ret
    exact⟨rfl,hk1⟩
  rw[if_neg (show ¬Ci (Ac b) 40=true from λe=>by have e:=of_decide_eq_true e;have e:(b.length:Int)<40:=e;omega)]at hy;have h40':¬(b.length:Int)<40:=F0
  obtain⟨c,hc,hy⟩:=Go.Lv.bind_some hy;obtain⟨x,hx,hy⟩:=Go.Lv.bind_some hy;obtain⟨d,hd,hy⟩:=Go.Lv.bind_some hy;obtain⟨k,cap,arr,fr,rfl,rfl,hcap,hk,hsz,hfr,harr⟩:=Rf.rQ ho1 F0;obtain⟨i0,hi0,hz0,hz1,hz2⟩:=info_parts (show(Tryz.prog.info? 5).map (λi=>(i.zero,i.size,i.bytes))=some (some (Value.int IntKind.u8 0),1,1) by kernel_rfl);have hW0:=(Below.refl w1.heap.size w1).alloc (Nat.le_refl _) (.cells #[] 5);have hkw:k<w1.heap.size:=(hn1 k rfl).2;have hsr:∀j v,(Lib.byteCells b)[j]? =some v-> (w1.alloc (.cells #[] 5)).cell? ((⟨k,0,none⟩:Addr).add j)=some v:=λj v hj=>by
    have hj':j<b.length:=by have:=(List.getElem?_eq_some_iff.1 hj).1;simpa [Lib.byteCells]using this
    rw[Lib.addr_add,Nat.zero_add,Lib.cell_of_heap ((Below.heap_alloc w1 _ k hkw).trans hk),harr j hj'];exact hj
  have Av2:([]:List UInt8).length+b.length<=17179869184:=Rf.rL hc;obtain rfl:b=c:=(Rf.zT hc).symm;have hg0:0<([]:List UInt8).length+b.length:=by rw[List.length_nil];omega
  gi_wp2_with (gi_at_builtin;refine Hid.out ?_)
  refine Lib.hid ?_;refine Rf.fS _ rfl _ _ 22 5 rfl Tryz.underlying22 hi0 hz0 hz1 hz2 ⟨w1.heap.size,0,none⟩ ⟨k,0,none⟩ [] b 0 b.length 0 cap rfl rfl rfl rfl (λj v h=>by simp[Lib.byteCells]at h) hsr hg0 Av2 ?_;intro v2 w2 ho2 hb2 hl2;simp only[List.nil_append]at ho2 hx hd;obtain⟨k2,cap2,jL,fr2,e2,rfl,hcap2,hk2,hsz2,hfr2,Z8⟩:=Rf.rQ ho2 F0;obtain rfl:k2=w1.heap.size+1:=by
    have:=Option.some.inj e2;rw[World.size_alloc]at this;exact this.symm
  have hw2:=hW0.trans (hb2.mono hW0.size);have hk2b:w2.heap[k]? =some (.cells arr 5 fr):=(hb2.block k (by rw[World.size_alloc];omega)).trans ((Below.heap_alloc w1 _ k hkw).trans hk);clear hsr e2;have hix:Ah (Ac b) 6=((b.length-6:Nat):Int):=by
    rw[show Ah (Ac b) 6=Go.Lv.wrap64 ((b.length:Int)-6)from rfl,Go.Lv.Bq F0 F0];omega
  rw[hix]at hx hd;have hxb:b[b.length-6]? =some x:=by simpa [Go.Lv.Aj]using hx
  have hcell:w2.cell? ⟨w1.heap.size+1,b.length-6,none⟩=some (.int .u8 x.toNat):=by
    rw[Lib.cell_of_heap hk2,Z8 _ F0];simp[Lib.byteCells,hxb]
  have jO:w2.frozen? ⟨w1.heap.size+1,b.length-6,none⟩=false:=by
    simp only[World.frozen?,hk2,Bool.and_eq_false_iff,decide_eq_false_iff_not];rcases hfr2 with h|h<;>omega
  have hbx:bits BinOp.xor IntKind.u8 (x.toNat:Int) 1=((Ri x 1:UInt8).toNat:Int):=(GI.toZ_ofZ (T:=UInt8) _).symm;obtain⟨g,hg⟩:∃g:UInt8,g=Ri x 1:=⟨_,rfl⟩;rw[<-hg]at hbx hd;clear hg;obtain rfl:d=b.set (b.length-6) g:=by
    unfold He at hd;rw[if_pos ⟨F0,F0⟩,Int.toNat_natCast]at hd;exact(Option.some.inj hd).symm
  clear hd hx hix;obtain⟨hk3,Ax4,Av3⟩:=Rf.qQ hk2 hsz2 Z8 (b.length-6) F0 g;have hk3b:(w2.setCell ⟨w1.heap.size+1,b.length-6,none⟩ (.int .u8 g.toNat)).heap[k]? =some (.cells arr 5 fr):=(Below.heap_setCell _ _ _ _ (by show k≠w1.heap.size+1;omega)).trans hk2b;have hw3:Below w1.heap.size w1 (w2.setCell ⟨w1.heap.size+1,b.length-6,none⟩ (.int .u8 g.toNat)):=hw2.setCell (p:=⟨w1.heap.size+1,b.length-6,none⟩) (Nat.le_succ _) _;have hk2l:w1.heap.size+1<(w2.setCell ⟨w1.heap.size+1,b.length-6,none⟩ (.int .u8 g.toNat)).heap.size:=Lib.lt_of_heap hk3;obtain⟨t1,ht1,hy⟩:=Go.Lv.bind_some hy
  gi_wp2
  generalize(w2.setCell ⟨w1.heap.size+1,b.length-6,none⟩ (.int .u8 g.toNat))=w3 at hk3 hk3b hw3 hk2l⊢;have kb:∀W,Below w3.heap.size w3 W->W.heap[k]? =some (.cells arr 5 fr):=λW hW=>(hW.block k F0).trans hk3b;have kd:∀W,Below w3.heap.size w3 W->W.heap[w1.heap.size+1]? =some (.cells (jL.setIfInBounds (b.length-6) (.int .u8 g.toNat)) 5 fr2):=λW hW=>(hW.block _ hk2l).trans hk3;have gW:∀W,Below w3.heap.size w3 W->GlOk gl (λ_=>True) W:=λW hW p hp=>⟨Nat.lt_of_lt_of_le (hgl p hp).1 (Nat.le_trans hb1.size (Nat.le_trans hw3.size hW.size)),trivial,by
    rw[hW.block _ (Nat.lt_of_lt_of_le (hgl p hp).1 (Nat.le_trans hb1.size hw3.size)),hw3.block _ (Nat.lt_of_lt_of_le (hgl p hp).1 hb1.size),hb1.block _ (hgl p hp).1];exact(hgl p hp).2.2⟩
  have fin:∀W,Below w3.heap.size w3 W->KeepN (λ_=>True) w W:=λW hW=>Rf.jU (hb1.trans ((hw3.mono hb1.size).trans (hW.mono (Nat.le_trans hb1.size hw3.size))));have eb:∀W,Below w3.heap.size w3 W->Al (λj=>some k=some j) W (.list (.int .u8)) b [.slice (some ⟨k,0,none⟩) b.length cap]:=λW hW=>by
    have:=Rf.enc_row (kb W hW) hsz harr (Nat.le_refl _) hcap;rwa [List.take_length]at this
  clear hcell jO hbx hk2 hk2b hw2;refine⟨trivial,(λh=>nomatch h),(callsIn_wide.2 (Rf.WZ hI (eb w3 (Below.refl _ _)) (gW w3 (Below.refl _ _)) ht1)).mono ?_⟩;rintro e3 W1 ⟨rfl,hK1⟩;have hB1:=Rf.Up hK1;rcases t1 with _|_
  · rw[if_pos F6]at hy
    cases hy
    gi_wp2
    refine⟨trivial,?_⟩
    gi_wp2
    refine⟨trivial,?_⟩
    gi_wp2
    refine⟨trivial,?_⟩
    gi_wp2
    refine⟨trivial,?_⟩
    gi_wp2
    refine⟨trivial,?_⟩
    gi_wp2
    go_ret
    exact⟨rfl,fin W1 hB1⟩
  rw[if_neg F6]at hy;obtain⟨t2,ht2,hy⟩:=Go.Lv.bind_some hy
  gi_wp2
  refine⟨trivial,(λh=>nomatch h),(callsIn_wide.2 (Rf.WZ hI (eb W1 hB1) (gW W1 hB1) ht2)).mono ?_⟩;rintro e4 W2 ⟨rfl,hK2⟩;have hB2:=hB1.trans ((Rf.Up hK2).mono hB1.size);rcases t2 with _|_
  · rw[if_pos F6]at hy
    cases hy
    gi_wp2
    refine⟨trivial,?_⟩
    gi_wp2
    refine⟨trivial,?_⟩
    gi_wp2
    refine⟨trivial,?_⟩
    gi_wp2
    refine⟨trivial,?_⟩
    gi_wp2
    go_ret
    exact⟨rfl,fin W2 hB2⟩
  rw[if_neg F6]at hy;obtain⟨t3,ht3,hy⟩:=Go.Lv.bind_some hy
  gi_wp2
  refine⟨trivial,(λh=>nomatch h),(callsIn_wide.2 (Rf.WZ hI (eb W2 hB2) (gW W2 hB2) ht3)).mono ?_⟩;rintro e5 W3 ⟨rfl,hK3⟩;have hB3:=hB2.trans ((Rf.Up hK3).mono hB2.size);rcases t3 with _|_
  · rw[if_pos F6]at hy
    cases hy
    gi_wp2
    refine⟨trivial,?_⟩
    gi_wp2
    refine⟨trivial,?_⟩
    gi_wp2
    refine⟨trivial,?_⟩
    gi_wp2
    go_ret
    exact⟨rfl,fin W3 hB3⟩
  rw[if_neg F6]at hy;obtain⟨o4,ho4,hy⟩:=Go.Lv.bind_some hy;obtain⟨t4,ht4,hy⟩:=Go.Lv.bind_some hy;have Av4:=Rf.rL ho4;obtain rfl:=Rf.zT ho4
  gi_wp2_with (gi_at_builtin;refine Hid.out ?_)
  refine Lib.hid ?_;refine Rf.fS _ rfl _ _ 22 5 rfl Tryz.underlying22 hi0 hz0 hz1 hz2 ⟨k,0,none⟩ ⟨W3.heap.size,0,none⟩ b [0] b.length 1 b.length 1 rfl rfl rfl rfl (Rf.nu ((Below.heap_alloc W3 _ k (Lib.lt_of_heap (kb W3 hB3))).trans (kb W3 hB3)) harr)
    (λj v h=>by rw[Lib.addr_add,Nat.zero_add,Lib.cell_of_heap (World.alloc_heap_new W3 _)];simpa [Lib.byteCells]using h) A7 Av4 ?_
  intro v4 W4 ho5 hb4 hl4;have hA4:=hB3.alloc hB3.size (.cells #[.int .u8 0] 5);have hB4:=hA4.trans (hb4.mono hA4.size)
  gi_wp2
  refine⟨trivial,(λh=>nomatch h),(callsIn_wide.2 (Rf.WZ hI (Rf.Aoz ho5) (gW W4 hB4) ht4)).mono ?_⟩;rintro e6 W5 ⟨rfl,hK5⟩;have hB5:=hB4.trans ((Rf.Up hK5).mono hB4.size);rcases t4 with _|_
  · rw[if_pos F6]at hy
    cases hy
    gi_wp2
    refine⟨trivial,?_⟩
    gi_wp2
    refine⟨trivial,?_⟩
    gi_wp2
    go_ret
    exact⟨rfl,fin W5 hB5⟩
  rw[if_neg F6]at hy;obtain⟨u,hu,hy⟩:=Go.Lv.bind_some hy;obtain⟨t5,ht5,hy⟩:=Go.Lv.bind_some hy;have zF:Ah (Ac b) 1=((b.length-1:Nat):Int):=by
    rw[show Ah (Ac b) 1=Go.Lv.wrap64 ((b.length:Int)-1)from rfl,Go.Lv.Bq F0 F0];omega
  rw[zF]at hu;obtain rfl:u=b.take (b.length-1):=by
    unfold Ca at hu;rw[if_pos ⟨F0,F0,F0⟩]at hu;simpa using(Option.some.inj hu).symm
  clear zF hu
  gi_wp2
  refine⟨trivial,(λh=>nomatch h),(callsIn_wide.2 (Rf.WZ hI (Rf.enc_row (kb W5 hB5) hsz harr (n:=b.length-1) F0 hcap) (gW W5 hB5) ht5)).mono ?_⟩;rintro e7 W6 ⟨rfl,hK6⟩;have hB6:=hB5.trans ((Rf.Up hK6).mono hB5.size);rcases t5 with _|_
  · rw[if_pos F6]at hy
    cases hy
    gi_wp2
    refine⟨trivial,?_⟩
    gi_wp2
    go_ret
    exact⟨rfl,fin W6 hB6⟩
  rw[if_neg F6]at hy;have ed:Al (λj=>some (w1.heap.size+1)=some j) W6 (.list (.int .u8)) (b.set (b.length-6) g) [.slice (some ⟨w1.heap.size+1,0,none⟩) b.length cap2]:=by
    have:=Rf.enc_row (kd W6 hB6) Ax4 Av3 (Nat.le_refl _) (by rw[List.length_set];exact hcap2);rwa [List.take_length,List.length_set]at this
  gi_wp2
  refine⟨trivial,(λh=>nomatch h),(callsIn_wide.2 (Rf.WZ hI ed (gW W6 hB6) hy)).mono ?_⟩;rintro e8 W7 ⟨rfl,hK7⟩;have hB7:=hB6.trans ((Rf.Up hK7).mono hB6.size)
  gi_wp2
  go_ret
  exact⟨rfl,fin W7 hB7⟩
noncomputable def Nq:Con:=⟨[],[.lf .bool none],λ_=>Gt⟩
theorem Bb3{gl:List (Nat×List Value)}(hE:Ent Tryz.prog 27)(hF:ConOk Tryz.prog gl 68 ⟨[.lf .str none],[.lf (.list (.int .u8)) (some 5)],Nf⟩)(hI:ConOk Tryz.prog gl 69 ⟨[.lf (.list (.int .u8)) none, .lf .str none, .lf (.int .i64) none],[.lf .bool none],λx=>Cn x.1 x.2.1 x.2.2⟩):ConOk Tryz.prog gl 27 Nq:=by
  refine⟨hE,?_⟩;intro R N w L0 vs ps x y hargs hlen hit bJ hvs hgl hy;obtain rfl:=Option.some.inj (show some ([]:List PV)=some ps from hargs);obtain rfl:vs=[]:=hvs;have hy:Gt=some y:=by
    dsimp only[Nq]at hy;exact hy
  refine(callsIn_wide.1 (Bdr 3 gl hF hI w (λq hq=>⟨(hgl q hq).1,trivial,(hgl q hq).2.2⟩) y hy)).mono ?_;rintro e w' ⟨rfl,hk⟩;refine⟨[.bool y],rfl,⟨λb hb _=>hk.same b hb trivial,hk.gr⟩,λ_=>False,[],λ_ h=>h.elim,trivial,λs L B' hl _ _=>?_⟩;exact⟨[.val .bool y],[],(show s=⟨s.sl,s.it++[],s.st⟩ by simp),rfl,⟨_,_,rfl,rfl,rfl⟩,rfl,λi a m h=>by simp at h⟩
def Tryz.Aip:Go.Shelf.Ren:=⟨λ|14=>74|15=>126|n=>n,λ|26=>58|22=>22|3=>3|4=>4|0=>0|9=>9|20=>20|5=>5|n=>n,λ|n=>n⟩
theorem Tryz.Aw4:Go.Proofs.SlLaysJ.n14 Tryz.prog Tryz.Aip:={
  mixed:=F4
  f14:=Tryz.func74.trans (congrArg some F4)
  f15:=Tryz.func126.trans (congrArg some F4)
  t0:=Tryz.underlying0
  a0:=Tryz.isAgg0
  z0:=Tryz.sizeOf0
  v0:=Tryz.zeroValue0
  t3:=Tryz.underlying3
  a3:=Tryz.isAgg3
  z3:=Tryz.sizeOf3
  v3:=Tryz.zeroValue3
  t4:=Tryz.underlying4
  a4:=Tryz.isAgg4
  z4:=Tryz.sizeOf4
  v4:=Tryz.zeroValue4
  t9:=Tryz.underlying9
  a9:=Tryz.isAgg9
  z9:=Tryz.sizeOf9
  v9:=Tryz.zeroValue9
  t20:=Tryz.underlying20
  a20:=Tryz.isAgg20
  z20:=Tryz.sizeOf20
  v20:=Tryz.zeroValue20
  t22:=Tryz.underlying22
  a22:=Tryz.isAgg22
  z22:=Tryz.sizeOf22
  v22:=Tryz.zeroValue22
  t26:=Tryz.underlying58
  a26:=Tryz.isAgg58
  z26:=Tryz.sizeOf58
  v26:=Tryz.zeroValue58
  t5:=Tryz.underlying5
  z5:=Tryz.sizeOf5
  i5:=by kernel_rfl}
theorem Tryz.Aw8:Tryz.f30.ntmps=34:=F4
theorem Ac8(b n c:Nat)(vs:List Value)(ls:List (List UInt8))(w:World)(hn:ls.length=n)(h2:2<=n)(hP:Lib.PartsAt w ⟨b,0,none⟩ vs ls)(hcap:n<=c)(hn47:n<=1000)(hlen:Lib.lens ls<=140737488355328):
    Calls Tryz.prog 74 #[.slice (some ⟨b,0,none⟩) n c, .slice none 0 0] w λe w'=>∃v',e= .returned v'/\Lib.FreshBytes w.heap.size w' v' (Lib.join ls [])/\Below w.heap.size w w':=
  Any.bytes_Join_many Tryz.Aw4 b 0 n c vs ls (.slice none 0 0) [] w hn h2 hP hcap ⟨none,0,rfl,λ_=>rfl,λa h=>nomatch h⟩ F0 (by simpa using hlen)
theorem Agu{x:Int}{s:LB}(h:Ng x=some s):s.length=4:=by
  have key:∀(q:Nat) (a:Int) (b r:LB),Gk x q a b=some r->r.length=b.length:=by
    intro q
    induction q with
    |zero=>intro a b r h;cases h
    |succ q ih=>
      intro a b r h;rw[Gk,Rv]at h;split at h
      · obtain⟨_,_,h⟩:=Go.Lv.bind_some h
        obtain⟨_,_,h⟩:=Go.Lv.bind_some h;obtain⟨g,hg,h⟩:=Go.Lv.bind_some h;rw[ih _ _ _ h];unfold He at hg;split at hg
        · cases hg;simp
        · cases hg
      · cases h;rfl
  rw[Ng,Yn]at h;obtain⟨b,hb,h⟩:=Go.Lv.bind_some h;obtain⟨_,_,h⟩:=Go.Lv.bind_some h;rw[key _ _ _ _ h];cases hb;rfl
set_option maxHeartbeats 4000000 in
set_option maxRecDepth 100000 in
theorem Asa(n:Nat)(gl:List (Nat×List Value))(hS:ConOk Tryz.prog gl 73 ⟨[.lf (.int .i64) none],[.lf (.list (.int .u8)) (some 5)],Ng⟩)(w:World)(v:Value)(body:LB)(foot:Bool)(hv:Al (λk=>k<w.heap.size) w (.list (.int .u8)) body [v])(hgl:GlOk gl (λ_=>True) w)(y:LB×Int)(hy:Sp body foot=some y):
    CallsIn Fence.wide n Tryz.prog 30 #[v, .bool foot] w λe w'=>∃u,e= .returned (.tuple #[u, .int .i64 y.2])/\KeepN (λ_=>True) w w'/\Al (λk=>w.heap.size<=k/\k<w'.heap.size) w' (.list (.int .u8)) y.1 [u]:=by
  unfold Sp at hy;obtain⟨s,hs,hy⟩:=Go.Lv.bind_some hy;obtain⟨m,hm,hy⟩:=Go.Lv.bind_some hy;have Av8:([4,0,0]:List UInt8).length+s.length<=17179869184:=Rf.rL hm;obtain rfl:=Rf.zT hm;have hsrc:=Rf.vB hv;obtain⟨p0,Ba4,cap0,rfl,iE,hcap0,_⟩:=id hsrc;subst iE;obtain⟨i0,hi0,hz0,hz1,hz2⟩:=info_parts (show(Tryz.prog.info? 5).map (λi=>(i.zero,i.size,i.bytes))=some (some (Value.int IntKind.u8 0),1,1) by kernel_rfl);refine callsIn_of_wp Tryz.func30 rfl trivial ?_ rfl;simp only[Tryz.Aw8,List.size_toArray,List.length_cons,List.length_nil,Nat.reduceAdd,Nat.reduceSub,Array.replicate_succ,Array.replicate_zero,List.push_toArray,List.append_toArray,List.nil_append,List.cons_append];have hs4:=Agu hs;have hW0:=(Below.refl w.heap.size w).alloc (Nat.le_refl _) (.cells #[.int .u8 4, .int .u8 0, .int .u8 0] 5);have gW0:GlOk gl (λ_=>True) (w.alloc (.cells #[.int .u8 4, .int .u8 0, .int .u8 0] 5)):=λq hq=>⟨Nat.lt_of_lt_of_le (hgl q hq).1 hW0.size,trivial,by rw[hW0.block _ (hgl q hq).1];exact(hgl q hq).2.2⟩;have hz0k:(w.alloc (.cells #[.int .u8 4, .int .u8 0, .int .u8 0] 5)).heap[w.heap.size]? =some (.cells #[.int .u8 4, .int .u8 0, .int .u8 0] 5 (0,0)):=World.alloc_heap_new w _;have hz0s:(w.alloc (.cells #[.int .u8 4, .int .u8 0, .int .u8 0] 5)).heap.size=w.heap.size+1:=World.size_alloc w _
  gi_wp2
  generalize(w.alloc (.cells #[.int .u8 4, .int .u8 0, .int .u8 0] 5))=W0 at*
  refine⟨trivial,(λh=>nomatch h),(callsIn_wide.2 (Rf.Anh hS gW0 hs)).mono ?_⟩;rintro e1 W1 ⟨v1,o,rfl,hk1,ho1,hn1⟩;have hb1:=Rf.Up hk1;obtain⟨k,cap,arr,fr,rfl,rfl,hcap,hk,hsz,hfr,harr⟩:=Rf.rQ ho1 F0;have hw1:=hW0.trans (hb1.mono hW0.size);have hz1k:W1.heap[w.heap.size]? =some (.cells #[.int .u8 4, .int .u8 0, .int .u8 0] 5 (0,0)):=(hb1.block _ F0).trans hz0k
  gi_wp2_with (gi_at_builtin;refine Hid.out ?_)
  refine Lib.hid ?_;refine Rf.fS _ rfl _ _ 22 5 rfl Tryz.underlying22 hi0 hz0 hz1 hz2 ⟨w.heap.size,0,none⟩ ⟨k,0,none⟩ [4,0,0] s 3 4 3 cap rfl rfl rfl hs4.symm (Rf.nu (l:=[4,0,0]) hz1k (λi hi=>by
    rcases(show i=0\/i=1\/i=2 by simp at hi;omega)with rfl|rfl|rfl<;>rfl)) (Rf.nu hk harr) F7 Av8 ?_
  intro v2 W2 ho2 hb2 hl2;obtain⟨k2,cap2,jL,fr2,e2,rfl,hcap2,hk2,hsz2,hfr2,Z8⟩:=Rf.rQ ho2 A7;obtain rfl:W1.heap.size=k2:=Option.some.inj e2;have hw2:=hw1.trans (hb2.mono hw1.size);clear e2 hm hs;have hIk:(W2.alloc (.cells #[.int .u8 73, .int .u8 68, .int .u8 51] 5)).heap[W2.heap.size]? =some (.cells #[.int .u8 73, .int .u8 68, .int .u8 51] 5 (0,0)):=World.alloc_heap_new W2 _;have hIs:(W2.alloc (.cells #[.int .u8 73, .int .u8 68, .int .u8 51] 5)).heap.size=W2.heap.size+1:=World.size_alloc W2 _;have hI2:∀j,j<W2.heap.size-> (W2.alloc (.cells #[.int .u8 73, .int .u8 68, .int .u8 51] 5)).heap[j]? =W2.heap[j]? :=λj hj=>Below.heap_alloc W2 _ j hj;have hw3:=hw2.alloc hw2.size (.cells #[.int .u8 73, .int .u8 68, .int .u8 51] 5)
  gi_wp2
  generalize(W2.alloc (.cells #[.int .u8 73, .int .u8 68, .int .u8 51] 5))=W3 at*
  obtain⟨W4,fr4,hc4,hk4,hs4',hb4⟩:=Rf.Afp Tryz.underlying22 Tryz.underlying5 hIk 3 3;rw[hc4];have hw4:=hw3.trans (hb4.mono hw2.size);have h2k:∀j,j<W2.heap.size->W4.heap[j]? =W2.heap[j]? :=λj hj=>(hb4.block j hj).trans (hI2 j hj);have hs7:([4,0,0]++s:List UInt8).length=7:=by simp[hs4]
  have hb0:∀j,j<w.heap.size->W4.heap[j]? =w.heap[j]? :=λj hj=>hw4.block j hj;cases foot with
  |false=>
    rw[if_neg A7]at hy;obtain⟨out,hout,hy⟩:=Go.Lv.bind_some hy;have hlim:([73,68,51]++([4,0,0]++s):List UInt8).length+body.length<=17179869184:=Rf.rL hout;obtain rfl:=Rf.zT hout;have h5k:=World.alloc_heap_new W4 (.cells #[.slice (some ⟨W2.heap.size,0,none⟩) 3 3, .slice (some ⟨W1.heap.size,0,none⟩) 7 cap2, .slice p0 body.length cap0] 22);have h5s:=World.size_alloc W4 (.cells #[.slice (some ⟨W2.heap.size,0,none⟩) 3 3, .slice (some ⟨W1.heap.size,0,none⟩) 7 cap2, .slice p0 body.length cap0] 22);have h5b:∀j,j<W4.heap.size-> (W4.alloc (.cells #[.slice (some ⟨W2.heap.size,0,none⟩) 3 3, .slice (some ⟨W1.heap.size,0,none⟩) 7 cap2, .slice p0 body.length cap0] 22)).heap[j]? =W4.heap[j]? :=λj hj=>Below.heap_alloc W4 _ j hj;have hw5:=hw4.alloc hw4.size (.cells #[.slice (some ⟨W2.heap.size,0,none⟩) 3 3, .slice (some ⟨W1.heap.size,0,none⟩) 7 cap2, .slice p0 body.length cap0] 22)
    gi_wp2
    generalize(W4.alloc (.cells #[.slice (some ⟨W2.heap.size,0,none⟩) 3 3, .slice (some ⟨W1.heap.size,0,none⟩) 7 cap2, .slice p0 body.length cap0] 22))=W5 at*
    have g0:Lib.HoldsBytes W5 (.slice (some ⟨W2.heap.size,0,none⟩) 3 3) [73,68,51]:=Rf.KT (l:=[73,68,51]) ((h5b _ F0).trans hk4) (λi hi=>by
      rcases(show i=0\/i=1\/i=2 by simp at hi;omega)with rfl|rfl|rfl<;>rfl)
    have g1:Lib.HoldsBytes W5 (.slice (some ⟨W1.heap.size,0,none⟩) 7 cap2) ([4,0,0]++s):=by
      have:=Rf.KT (cap:=cap2) ((h5b _ F0).trans ((h2k _ hl2).trans hk2)) Z8;rwa [hs7]at this
    have g2:Lib.HoldsBytes W5 (.slice p0 body.length cap0) body:=Rf.Acu (hsrc.keep λj hj=>(h5b j (by have:=hw4.size;omega)).trans (hb0 j hj));have hP:Lib.PartsAt W5 ⟨W4.heap.size,0,none⟩ [.slice (some ⟨W2.heap.size,0,none⟩) 3 3, .slice (some ⟨W1.heap.size,0,none⟩) 7 cap2, .slice p0 body.length cap0] [[73,68,51],[4,0,0]++s,body]:=Rf.Aeq h5k rfl (λi v hv=>by
      rw[<-Array.getElem?_toList];exact hv) (λi v l hv hl=>by
      have hi:=(List.getElem?_eq_some_iff.1 hv).1;rcases(show i=0\/i=1\/i=2 by simp at hi;omega)with rfl|rfl|rfl<;>(cases hv;cases hl;assumption))
    rw[hs4',hIs]at hP;have hj:Lib.join [[73,68,51],[4,0,0]++s,body] []=([73,68,51]++([4,0,0]++s))++body:=by simp[Lib.join,List.intercalate]
    have hJ:=Ac8 _ 3 3 _ _ W5 rfl F0 hP F0 F0 (by simp[Lib.lens,hs4];simp[hs4]at hlim;omega);rw[hj]at hJ;clear hj hP g0 g1 g2;generalize([73,68,51]++([4,0,0]++s))++body=out at*
    refine⟨trivial,(λh=>nomatch h),(callsIn_wide.2 hJ).mono ?_⟩;rintro e6 W6 ⟨v6,rfl,hf6,hb6⟩;have hw6:=hw5.trans (hb6.mono hw5.size);have he6:=Rf.Adb hf6;obtain⟨g,Ax5,zs,rfl, -⟩:=hf6;by_cases h4:4000<out.length
    · rw[if_pos (show Dq (Ac out) 4000=true from decide_eq_true (by show(4000:Int)<(out.length:Int);omega))]at hy
      cases hy;have h4':(4000:Int)<(out.length:Int):=F0
      gi_wp2
      go_ret2
      exact⟨_,rfl,Rf.jU hw6,_,[],rfl,Rd.nil,rfl⟩
    · rw[if_neg (show ¬Dq (Ac out) 4000=true from λe=>by have e:=of_decide_eq_true e;have e:(4000:Int)<(out.length:Int):=e;omega)]at hy
      cases hy;have h4':¬(4000:Int)<(out.length:Int):=F0
      gi_wp2
      go_ret2
      exact⟨_,rfl,Rf.jU hw6,Al.step (λ_ h=>⟨Nat.le_trans hw5.size h.1,h.2⟩) (λ_ _=>rfl) he6⟩
  |true=>
    rw[if_pos rfl]at hy;obtain⟨m,hm,hy⟩:=Go.Lv.bind_some hy;obtain⟨out,hout,hy⟩:=Go.Lv.bind_some hy;have hlim:=Rf.rL hout;obtain rfl:=Rf.zT hout;obtain rfl:m=([4,0,0]++s).set 2 16:=by
      unfold He at hm;rw[if_pos ⟨F0,by simp;omega⟩]at hm;exact(Option.some.inj hm).symm
    have h4m:W4.heap[W1.heap.size]? =some (.cells jL 5 fr2):=(h2k _ hl2).trans hk2;have hcell:W4.cell? ⟨W1.heap.size,2,none⟩=some (.int .u8 0):=by
      rw[Lib.cell_of_heap h4m,Z8 2 A7];rfl
    have jO:W4.frozen? ⟨W1.heap.size,2,none⟩=false:=by
      simp only[World.frozen?,h4m,Bool.and_eq_false_iff,decide_eq_false_iff_not];rcases hfr2 with h|h
      · omega
      · simp only[hs7]at hcap2;omega
    have h5:=Rf.qQ h4m hsz2 Z8 2 A7 16;rw[show(Value.int IntKind.u8 ((16:UInt8).toNat:Int))= .int .u8 16 from rfl]at h5;have h5b:∀j,j≠W1.heap.size-> (W4.setCell ⟨W1.heap.size,2,none⟩ (.int .u8 16)).heap[j]? =W4.heap[j]? :=λj hj=>Below.heap_setCell _ _ _ _ hj;have hw5:Below w.heap.size w (W4.setCell ⟨W1.heap.size,2,none⟩ (.int .u8 16)):=hw4.setCell (p:=⟨W1.heap.size,2,none⟩) hw1.size _;have h5s:(W4.setCell ⟨W1.heap.size,2,none⟩ (.int .u8 16)).heap.size=W4.heap.size:=by simp
    have hlt:W1.heap.size<W2.heap.size:=hl2;have hge:w.heap.size<=W1.heap.size:=hw1.size
    gi_wp2
    clear hcell jO;generalize(W4.setCell ⟨W1.heap.size,2,none⟩ (.int .u8 16))=W5 at*
    obtain⟨h5m, -,h5a⟩:=h5;have h6k:=World.alloc_heap_new W5 (.cells #[.slice (some ⟨W2.heap.size,0,none⟩) 3 3, .slice (some ⟨W1.heap.size,0,none⟩) 7 cap2, .slice p0 body.length cap0] 22);have h6s:=World.size_alloc W5 (.cells #[.slice (some ⟨W2.heap.size,0,none⟩) 3 3, .slice (some ⟨W1.heap.size,0,none⟩) 7 cap2, .slice p0 body.length cap0] 22);have h6b:∀j,j<W5.heap.size-> (W5.alloc (.cells #[.slice (some ⟨W2.heap.size,0,none⟩) 3 3, .slice (some ⟨W1.heap.size,0,none⟩) 7 cap2, .slice p0 body.length cap0] 22)).heap[j]? =W5.heap[j]? :=λj hj=>Below.heap_alloc W5 _ j hj;have hw6:=hw5.alloc hw5.size (.cells #[.slice (some ⟨W2.heap.size,0,none⟩) 3 3, .slice (some ⟨W1.heap.size,0,none⟩) 7 cap2, .slice p0 body.length cap0] 22);generalize(W5.alloc (.cells #[.slice (some ⟨W2.heap.size,0,none⟩) 3 3, .slice (some ⟨W1.heap.size,0,none⟩) 7 cap2, .slice p0 body.length cap0] 22))=W6 at*
    have h7k:=World.alloc_heap_new W6 (.cells #[.int .u8 51, .int .u8 68, .int .u8 73] 5);have h7s:=World.size_alloc W6 (.cells #[.int .u8 51, .int .u8 68, .int .u8 73] 5);have h7b:∀j,j<W6.heap.size-> (W6.alloc (.cells #[.int .u8 51, .int .u8 68, .int .u8 73] 5)).heap[j]? =W6.heap[j]? :=λj hj=>Below.heap_alloc W6 _ j hj;have hw7:=hw6.alloc hw6.size (.cells #[.int .u8 51, .int .u8 68, .int .u8 73] 5);generalize(W6.alloc (.cells #[.int .u8 51, .int .u8 68, .int .u8 73] 5))=W7 at*
    have hn6:W6.heap.size=W2.heap.size+1+1:=F0
    rw[hn6]at h7k;obtain⟨W8,fr8,hc8,hk8,hs8,hb8⟩:=Rf.Afp Tryz.underlying22 Tryz.underlying5 h7k 3 3;rw[hc8];have hw8:=hw7.trans (hb8.mono F0);have h8b:∀j,j<W6.heap.size->W8.heap[j]? =W6.heap[j]? :=λj hj=>(hb8.block j F0).trans (h7b j hj);have h9k:=World.alloc_heap_new W8 (.cells #[.slice (some ⟨W2.heap.size+1+1,0,none⟩) 3 3, .slice (some ⟨W1.heap.size,0,none⟩) 7 cap2] 22);have h9s:=World.size_alloc W8 (.cells #[.slice (some ⟨W2.heap.size+1+1,0,none⟩) 3 3, .slice (some ⟨W1.heap.size,0,none⟩) 7 cap2] 22);have h9b:∀j,j<W8.heap.size-> (W8.alloc (.cells #[.slice (some ⟨W2.heap.size+1+1,0,none⟩) 3 3, .slice (some ⟨W1.heap.size,0,none⟩) 7 cap2] 22)).heap[j]? =W8.heap[j]? :=λj hj=>Below.heap_alloc W8 _ j hj;have hw9:=hw8.alloc hw8.size (.cells #[.slice (some ⟨W2.heap.size+1+1,0,none⟩) 3 3, .slice (some ⟨W1.heap.size,0,none⟩) 7 cap2] 22)
    gi_wp2_with (gi_at_builtin;refine Hid.out ?_)
    refine Lib.hid ?_;generalize(W8.alloc (.cells #[.slice (some ⟨W2.heap.size+1+1,0,none⟩) 3 3, .slice (some ⟨W1.heap.size,0,none⟩) 7 cap2] 22))=W9 at*
    obtain⟨iB,hiB,hzB,hB1,hB2⟩:=info_parts (show(Tryz.prog.info? 22).map (λi=>(i.zero,i.size,i.bytes))=some (some (Value.slice none 0 0),1,24) by kernel_rfl);rw[show W8.heap.size=W2.heap.size+1+1+1 by omega]at h9k h9s h9b;have h9c:∀j,j<W6.heap.size->W9.heap[j]? =W6.heap[j]? :=λj hj=>(h9b j F0).trans (h8b j hj);have h9p:W9.heap[W2.heap.size+1]? =some (.cells #[.slice (some ⟨W2.heap.size,0,none⟩) 3 3, .slice (some ⟨W1.heap.size,0,none⟩) 7 cap2, .slice p0 body.length cap0] 22 (0,0)):=by
      rw[show W5.heap.size=W2.heap.size+1 by omega]at h6k;exact(h9c _ F0).trans h6k
    refine Rf.Akt _ rfl _ _ 58 22 rfl Tryz.underlying58 hiB hzB hB1 hB2 ⟨W2.heap.size+1,0,none⟩ ⟨W2.heap.size+1+1+1,0,none⟩ [.slice (some ⟨W2.heap.size,0,none⟩) 3 3, .slice (some ⟨W1.heap.size,0,none⟩) 7 cap2, .slice p0 body.length cap0]
      [.slice (some ⟨W2.heap.size+1+1,0,none⟩) 3 3, .slice (some ⟨W1.heap.size,0,none⟩) 7 cap2] 3 2 3 2 rfl rfl rfl rfl
      (λj v hv=>by rw[Lib.addr_add,Nat.zero_add,Lib.cell_of_heap h9p,<-Array.getElem?_toList];exact hv)
      (λj v hv=>by rw[Lib.addr_add,Nat.zero_add,Lib.cell_of_heap h9k,<-Array.getElem?_toList];exact hv) F0 F0 ?_
    intro c10 W10 Azd Bbc Bbd h10k h10a jQ;have cL:=hw9.trans (jQ.mono hw9.size);have hb10s:=jQ.size;have h10b:∀j,j<W9.heap.size->W10.heap[j]? =W9.heap[j]? :=λj hj=>jQ.block j hj;have g0:Lib.HoldsBytes W10 (.slice (some ⟨W2.heap.size,0,none⟩) 3 3) [73,68,51]:=Rf.KT (l:=[73,68,51]) ((h10b _ F0).trans ((h9c _ F0).trans ((h6b _ F0).trans ((h5b _ F0).trans hk4)))) (λi hi=>by
      rcases(show i=0\/i=1\/i=2 by simp at hi;omega)with rfl|rfl|rfl<;>rfl)
    have g1:Lib.HoldsBytes W10 (.slice (some ⟨W1.heap.size,0,none⟩) 7 cap2) (([4,0,0]++s).set 2 16):=by
      have:=Rf.KT (cap:=cap2) ((h10b _ F0).trans ((h9c _ F0).trans ((h6b _ F0).trans h5m))) h5a;rwa [List.length_set,hs7]at this
    have g2:Lib.HoldsBytes W10 (.slice p0 body.length cap0) body:=Rf.Acu (hsrc.keep λj hj=>cL.block j hj);have g3:Lib.HoldsBytes W10 (.slice (some ⟨W2.heap.size+1+1,0,none⟩) 3 3) [51,68,73]:=Rf.KT (l:=[51,68,73]) ((h10b _ F0).trans ((h9b _ F0).trans hk8)) (λi hi=>by
      rcases(show i=0\/i=1\/i=2 by simp at hi;omega)with rfl|rfl|rfl<;>rfl)
    have hP:Lib.PartsAt W10 ⟨W9.heap.size,0,none⟩ ([.slice (some ⟨W2.heap.size,0,none⟩) 3 3, .slice (some ⟨W1.heap.size,0,none⟩) 7 cap2, .slice p0 body.length cap0]++[.slice (some ⟨W2.heap.size+1+1,0,none⟩) 3 3, .slice (some ⟨W1.heap.size,0,none⟩) 7 cap2]) [[73,68,51],([4,0,0]++s).set 2 16,body,[51,68,73],([4,0,0]++s).set 2 16]:=Rf.Aeq h10k rfl h10a (λi v l hv hl=>by
      have hi:=(List.getElem?_eq_some_iff.1 hl).1;rcases(show i=0\/i=1\/i=2\/i=3\/i=4 by simp at hi;omega)with rfl|rfl|rfl|rfl|rfl<;>(cases hv;cases hl;assumption))
    have hj:Lib.join [[73,68,51],([4,0,0]++s).set 2 16,body,[51,68,73],([4,0,0]++s).set 2 16] []=([73,68,51]++(([4,0,0]++s).set 2 16++body))++([51,68,73]++([4,0,0]++s).set 2 16):=by simp[Lib.join,List.intercalate]
    rw[h9s]at hP;have hJ:=Ac8 _ 5 c10 _ _ W10 rfl F0 hP F0 F0 (by simp[Lib.lens,hs4];simp[hs4]at hlim;omega);rw[hj]at hJ;clear hj hP g0 g1 g2 g3;generalize([73,68,51]++(([4,0,0]++s).set 2 16++body))++([51,68,73]++([4,0,0]++s).set 2 16)=out at*
    gi_wp2
    refine⟨trivial,(λh=>nomatch h),(callsIn_wide.2 hJ).mono ?_⟩;rintro e6 W11 ⟨v6,rfl,hf6,hb6⟩;have zY:=cL.trans (hb6.mono cL.size);have Ax6:=Rf.Adb hf6;obtain⟨g,Ax5,zs,rfl, -⟩:=hf6;by_cases h4:4000<out.length
    · rw[if_pos (show Dq (Ac out) 4000=true from decide_eq_true (by show(4000:Int)<(out.length:Int);omega))]at hy
      cases hy;have h4':(4000:Int)<(out.length:Int):=F0
      gi_wp2
      go_ret2
      exact⟨_,rfl,Rf.jU zY,_,[],rfl,Rd.nil,rfl⟩
    · rw[if_neg (show ¬Dq (Ac out) 4000=true from λe=>by have e:=of_decide_eq_true e;have e:(4000:Int)<(out.length:Int):=e;omega)]at hy
      cases hy;have h4':¬(4000:Int)<(out.length:Int):=F0
      gi_wp2
      go_ret2
      exact⟨_,rfl,Rf.jU zY,Al.step (λ_ h=>⟨Nat.le_trans cL.size h.1,h.2⟩) (λ_ _=>rfl) Ax6⟩
noncomputable def MB:Con:=⟨[.lf (.list (.int .u8)) none, .lf .bool none],[.lf (.list (.int .u8)) none, .lf (.int .i64) none],λx=>Sp x.1 x.2⟩
theorem Bdp{gl:List (Nat×List Value)}(hE:Ent Tryz.prog 30)(hS:ConOk Tryz.prog gl 73 ⟨[.lf (.int .i64) none],[.lf (.list (.int .u8)) (some 5)],Ng⟩):ConOk Tryz.prog gl 30 MB:=by
  refine⟨hE,?_⟩;rintro R N w L0 vs ps ⟨b,ft⟩ y hargs hlen hit bJ hvs hgl hy;obtain rfl:=Option.some.inj (show some [PV.val (.list (.int .u8)) b,PV.val .bool ft]=some ps from hargs);obtain⟨v0,_,rfl,h0,v,_,rfl,h1,rfl⟩:=hvs;obtain rfl:v= .bool ft:=by cases(show [v]=[.bool ft]from h1);rfl
  have h2:Al (λb=>R b/\N b) w (.list (.int .u8)) b [v0]:=h0;have h3:=Al.step (B':=λk=>k<w.heap.size) (λ_ h=>h.1) (λ_ _=>rfl) (Qv h2);refine(callsIn_wide.1 (Asa 3 gl hS w v0 b ft h3 (λq hq=>⟨(hgl q hq).1,trivial,(hgl q hq).2.2⟩) y hy)).mono ?_;rintro e w' ⟨u,rfl,hk,he⟩;refine⟨[u, .int .i64 y.2],rfl,⟨λb hb _=>hk.same b hb trivial,hk.gr⟩,λk=>w.heap.size<=k/\k<w'.heap.size,[],λb hb=>⟨.inr hb.1,hb.2⟩,trivial,?_⟩;intro s L B' hl hA _;exact⟨[.val (.list (.int .u8)) y.1, .val (.int .i64) y.2],[],(show s=⟨s.sl,s.it++[],s.st⟩ by simp),rfl,⟨_,_,rfl,Al.step hA (λ_ _=>rfl) he,_,_,rfl,rfl,rfl⟩,rfl,λi a m h=>by simp at h⟩
end Go.Proofs.YtaokmgopghpikaaGreatDoor
