/- A part of a proof (see the text that ends in Proof). No conditions. -/
import Derived.Test.YtjjpijoihenabaaGreatDoorOnPA
import Derived.Test.YtjjpijoihenabaaGreatDoorProg
import Derived.KernelRfl
import Derived.RangeFuncKeeps
import Derived.RangeFuncWrites
import Derived.Shelf.Abstract
import Derived.Test.YtjjpijoihenabaaGreatDoorOnRA
namespace Go
theorem B3{p:Prop}(h:p:=by kernel_rfl):p:=h
end Go
set_option linter.unusedVariables false
set_option linter.unusedSimpArgs false
namespace Go.Proofs.YtjjpijoihenabaaGreatDoor
open Go.RowKit Go.Shelf Go Go.Rx Go.Lv Go.Pl
attribute [local go_sem] Oper.semAt_some
noncomputable def zm:Con:=⟨[.lf (.int .i64) none, .lf (.int .i64) none],[.lf (.list (.int .i64)) (some 3), .lf (.int .i64) none],λx=>AH x.1 x.2⟩
noncomputable def AS(gl:List (Nat×List Value)):Tab:=⟨[(101,zm)],gl,false,false⟩
noncomputable abbrev PO{R:Type}(gl:List (Nat×List Value)):P1 R:=OZ Tryz.prog (AS gl) 8 []
noncomputable def Aw2:Code:=fB Tryz.f100
noncomputable def Apd:Code:=cB Aw2
noncomputable def Am2:Code:=cB Apd
noncomputable def ng:Code:=cA (cA (cB Am2))
noncomputable def Aoy:Code:=cB (cB ng)
noncomputable def oI:Code:=cA (cA Aoy)
noncomputable def J!:Code:=cB (cB oI)
noncomputable def Amh:Code:=cA Aw2
noncomputable def An7:Code:=cA Apd
noncomputable def Amg:Code:=cA Am2
noncomputable def Aow:Code:=cA ng
noncomputable def Amu:Code:=cA (cB ng)
noncomputable def Amr:Code:=cB Aoy
noncomputable def Apa:Code:=cA oI
noncomputable def Anq:Code:=cA (cB oI)
noncomputable def Aom:Code:=cB J!
noncomputable def pC:List Oper:=cO (cA (cA J!))
noncomputable def pA:Code:=cB (cA J!)
noncomputable def K2:List Oper:=pC.take 6
noncomputable def mW:Oper:=oAt pC 6
noncomputable def vJ:Oper:=oAt pC 7
theorem Arc:Tryz.f100.body=some (.seq Amh (.seq An7 (.seq Amg (.block 0 (.loop (.seq Aow (.seq Amu (.seq (.block 1 (.seq Apa (.seq Anq (.seq (.seq (.region 6 (K2++mW::[vJ]).toArray false) pA) Aom)))) Amr)))))))):=B3
theorem Bbg:Tryz.f100.ntmps=43:=B3
theorem Auv:mW.guard=none:=B3
theorem Awo:mW.dst=some 39:=B3
theorem Agh:mW.op= .call ⟨.value (.tmp 33), #[.tmp 38], #[23]⟩:=B3
abbrev Nb(a f h:Int)(b:LX):PV:= .agg [vi a,vi f,vi h,vw b]
abbrev ZE(y:Value)(v:PV)(ls:LI)(i x:Int):Slots:=[(0, .cst y),(1, .rptr v),(5,vi x),(21,vl ls),(22,vi (Ac ls)),(23,vi i)]
abbrev gA(lv:List Nat):K (Nat×S):=kC lv []
abbrev Ia(l:Nat):Value:= .func (.yield l) #[] #[]
theorem Ayw(gl:List (Nat×List Value))(l:Nat)(a f h:Int)(b:LX):ex Tryz.prog (AS gl) (PO gl) 43 Amh .d (kC [0,1,3] [⟨3,[], .ro (.int .i64)⟩]) ⟨[(0, .cst (Ia l)),(1, .rptr (Nb a f h b))],[],[]⟩=
    Option.bind (Is (Bd a 0)) λ_=>Option.bind (AH h (Bo (Ac b) a)) λp=>some (0,⟨[(0, .cst (Ia l)),(1, .rptr (Nb a f h b)),(3,vl p.1)],[],[]⟩):=B3
theorem Az5(gl:List (Nat×List Value))(l:Nat)(v:PV)(ls:LI):ex Tryz.prog (AS gl) (PO gl) 43 An7 .d (gA [0,1,3,5]) ⟨[(0, .cst (Ia l)),(1, .rptr v),(3,vl ls)],[],[]⟩=some (0,⟨[(0, .cst (Ia l)),(1, .rptr (B? [] v)),(3,vl ls),(5,vi 0)],[],[]⟩):=B3
theorem Bar(gl:List (Nat×List Value))(l:Nat)(a f h:Int)(b:LX)(ls:LI):ex Tryz.prog (AS gl) (PO gl) 43 Amg .d (gA [0,1,5,21,22,23]) ⟨[(0, .cst (Ia l)),(1, .rptr (Nb a f h b)),(3,vl ls),(5,vi 0)],[],[]⟩=
    some (0,⟨ZE (Ia l) (Nb a f h b) ls 0 0,[],[]⟩):=B3
theorem Ayp(gl:List (Nat×List Value))(l:Nat)(a f h:Int)(b:LX)(ls:LI)(i x:Int):ex Tryz.prog (AS gl) (PO gl) 43 Aow .d (gA [0,1,5,21,22,23,24]) ⟨ZE (Ia l) (Nb a f h b) ls i x,[],[]⟩=
    some (0,⟨ZE (Ia l) (Nb a f h b) ls i x++[(24,vt (Ck i (Ac ls)))],[],[]⟩):=B3
theorem Aof(gl:List (Nat×List Value))(l:Nat)(a f h:Int)(b:LX)(ls:LI)(i x:Int)(t:Bool):ex Tryz.prog (AS gl) (PO gl) 43 Amu .d (gA [0,1,5,21,22,23]) ⟨ZE (Ia l) (Nb a f h b) ls i x++[(24,vt t)],[],[]⟩=
    if t=true then some (0,⟨ZE (Ia l) (Nb a f h b) ls i x,[],[]⟩)else some (2,⟨ZE (Ia l) (Nb a f h b) ls i x,[],[]⟩):=B3
theorem Azu(gl:List (Nat×List Value))(l:Nat)(a f h:Int)(b:LX)(ls:LI)(i x:Int):ex Tryz.prog (AS gl) (PO gl) 43 Apa .d (gA [0,1,5,7,21,22,23]) ⟨ZE (Ia l) (Nb a f h b) ls i x,[],[]⟩=
    Option.bind (Am ls i) λn=>some (0,⟨[(0, .cst (Ia l)),(1, .rptr (Nb a f h b)),(5,vi x),(7,vi n),(21,vl ls),(22,vi (Ac ls)),(23,vi i)],[],[]⟩):=B3
theorem Bay(gl:List (Nat×List Value))(l:Nat)(a f h:Int)(b:LX)(ls:LI)(i x n:Int):ex Tryz.prog (AS gl) (PO gl) 43 Anq .d (gA [0,1,5,8,21,22,23]) ⟨[(0, .cst (Ia l)),(1, .rptr (Nb a f h b)),(5,vi x),(7,vi n),(21,vl ls),(22,vi (Ac ls)),(23,vi i)],[],[]⟩=
    some (0,⟨[(0, .cst (Ia l)),(1, .rptr (Nb a f h b)),(5,vi x),(8,vi (Ad x (Bg n a))),(21,vl ls),(22,vi (Ac ls)),(23,vi i)],[],[]⟩):=B3
abbrev Ao9(y:Value)(v:PV)(ls:LI)(i x z:Int)(p:LX):Slots:=[(0, .cst y),(1, .rptr v),(5,vi x),(8,vi z),(21,vl ls),(22,vi (Ac ls)),(23,vi i),(33, .cst y),(38,vw p)]
theorem Ba5(gl:List (Nat×List Value))(l:Nat)(a f h:Int)(b:LX)(ls:LI)(i x z:Int):G1 Tryz.prog (AS gl) (PO gl) 43 (K2++mW::[vJ]).toArray K2 ⟨[(0, .cst (Ia l)),(1, .rptr (Nb a f h b)),(5,vi x),(8,vi z),(21,vl ls),(22,vi (Ac ls)),(23,vi i)],[],[]⟩ (cnP [0,1,5,8,21,22,23,33,38] [] 0)=
    Option.bind (Bm b x z) λp=>some (0,⟨Ao9 (Ia l) (Nb a f h b) ls i x z p,[],[]⟩):=B3
theorem Ba0(gl:List (Nat×List Value))(l:Nat)(a f h:Int)(b:LX)(ls:LI)(i x z:Int)(p:LX)(t:Bool):G1 Tryz.prog (AS gl) (PO gl) 43 (K2++mW::[vJ]).toArray [vJ] ⟨WG (Ao9 (Ia l) (Nb a f h b) ls i x z p) 39 (vt t),[],[]⟩ (cnP [0,1,5,8,21,22,23,40] [] 0)=
    some (0,⟨[(0, .cst (Ia l)),(1, .rptr (Nb a f h b)),(5,vi x),(8,vi z),(21,vl ls),(22,vi (Ac ls)),(23,vi i),(40,vt (!t))],[],[]⟩):=B3
theorem Azc(gl:List (Nat×List Value))(l:Nat)(a f h:Int)(b:LX)(ls:LI)(i x z:Int)(t:Bool):ex Tryz.prog (AS gl) (PO gl) 43 pA .d (gA [0,1,5,8,21,22,23]) ⟨[(0, .cst (Ia l)),(1, .rptr (Nb a f h b)),(5,vi x),(8,vi z),(21,vl ls),(22,vi (Ac ls)),(23,vi i),(40,vt t)],[],[]⟩=
    if t=true then some (1,⟨[(0, .cst (Ia l)),(1, .rptr (Nb a f h b)),(5,vi x),(8,vi z),(21,vl ls),(22,vi (Ac ls)),(23,vi i)],[],[]⟩)else some (0,⟨[(0, .cst (Ia l)),(1, .rptr (Nb a f h b)),(5,vi x),(8,vi z),(21,vl ls),(22,vi (Ac ls)),(23,vi i)],[],[]⟩):=B3
theorem Ay5(gl:List (Nat×List Value))(l:Nat)(a f h:Int)(b:LX)(ls:LI)(i x z:Int):ex Tryz.prog (AS gl) (PO gl) 43 Aom .d (gA [0,1,5,21,22,23]) ⟨[(0, .cst (Ia l)),(1, .rptr (Nb a f h b)),(5,vi x),(8,vi z),(21,vl ls),(22,vi (Ac ls)),(23,vi i)],[],[]⟩=
    some (0,⟨ZE (Ia l) (Nb a f h b) ls i z,[],[]⟩):=B3
theorem Bbp(gl:List (Nat×List Value))(l:Nat)(a f h:Int)(b:LX)(ls:LI)(i x:Int):ex Tryz.prog (AS gl) (PO gl) 43 Amr .d (gA [0,1,5,21,22,23]) ⟨ZE (Ia l) (Nb a f h b) ls i x,[],[]⟩=
    some (0,⟨ZE (Ia l) (Nb a f h b) ls (Ad i 1) x,[],[]⟩):=B3
theorem Awb:G1 Tryz.prog ⟨[],[],false,false⟩ (OZ Tryz.prog ⟨[],[],false,false⟩ 8 []) 43 (K2++mW::[vJ]).toArray [vJ] ⟨[(39,vt false)],[],[]⟩ (cnP [40] [] 0)=some (0,⟨[(40,vt true)],[],[]⟩):=B3
theorem Aun:ex Tryz.prog ⟨[],[],false,false⟩ (OZ Tryz.prog ⟨[],[],false,false⟩ 8 []) 43 pA .d (gA []) ⟨[(40,vt true)],[],[]⟩=some (1,⟨[],[],[]⟩):=B3
theorem Aue{i:Nat}(h:i<17179869184):Ad (i:Int) 1=((i+1:Nat):Int):=by
  rw[show Ad (i:Int) 1=Go.Lv.wrap64 ((i:Int)+1)from rfl,Go.Lv.De F0 F0];omega
def C!:PV->Option (List LX)
  | .agg [.val (.int .i64) a, .val (.int .i64) _, .val (.int .i64) h, .val (.list (.int .i32)) b]=>tO a h b
  |_=>none
theorem Aks{v:PV}{xs:List LX}(h:C! v=some xs):∃a f r b,v=Nb a f r b/\tO a r b=some xs:=by
  unfold C! at h;split at h
  · exact⟨_,_,_,_,rfl,h⟩
  · cases h
theorem Bfo{a:Int}{b:LX}{n:Int}{l:LI}{x:Int}{ps:List LX}(h:BN a b (n::l) x=some ps):∃p r,Bm b x (Ad x (Bg n a))=some p/\BN a b l (Ad x (Bg n a))=some r/\ps=p::r:=by
  simp only[BN]at h;obtain⟨p,h1,h⟩:=Go.Lv.bind_some h;obtain⟨r,h2,h⟩:=Go.Lv.bind_some h;cases h;exact⟨p,r,h1,h2,rfl⟩
theorem Bk1{a:Int}{b:LX}:∀{l:LI} {x:Int} {ps:List LX},BN a b l x=some ps->ps.length=l.length
  |[],x,ps,h=>by simp only[BN,Option.some.injEq]at h;subst h;rfl
  |n::l,x,ps,h=>by
    obtain⟨p,r,_,h2,rfl⟩:=Bfo h;simp[Bk1 h2]
theorem Asl{gl:List (Nat×List Value)}(hC:ConOk Tryz.prog gl 101 zm)(hE:Ent Tryz.prog 100):ItOk Tryz.prog gl 100 ⟨25, .list (.int .i32),C!⟩:=by
  refine⟨hE,λm B w b v cells xs hB hb hcell henc hgl hF=>?_⟩;have hF:C! v=some xs:=hF;obtain⟨a,f,h,s,rfl,hF⟩:=Aks hF;have hM:Tryz.prog.follows .mixedOrders=true:=B3
  have hT:NK Tryz.prog (AS gl):= .cons hC .nil;have hI:∀{R:Type},HI (R:=R) Tryz.prog (AS gl).gl (PO gl):=H2 hM hT Y_.nil 8;unfold tO at hF;obtain⟨u0,hok,hF⟩:=Go.Lv.bind_some hF;obtain⟨p0,hall,hF⟩:=Go.Lv.bind_some hF;obtain⟨u1,hlim,hF⟩:=Go.Lv.bind_some hF;have hlim:p0.1.length<=17179869184:=by
    unfold Is at hlim;split at hlim
    · rename_i h;have h':=of_decide_eq_true h;unfold Ac at h';omega
    · cases hlim
  have hlen:=Bk1 hF;intro l J Jx W hk hJ hJx hY h0;refine callsIn_of_wp_marks Tryz.func100 Arc trivial ?_ rfl;have hGr:∀i V X Y,J i V X->KeepN (λ_=>True) X Y->J i (grown V X Y) Y:=λi V X Y h k=>hJ i V X Y h k;have hbW:W.heap[b]? =some (.cells cells.toArray 25 (0,0)):=(hk.same b (hB b hb) trivial).trans hcell;have hm0:MemI gl B W ⟨[(0, .cst (Ia l)),(1, .rptr (Nb a f h s))],[],[]⟩ (xI [Ia l, .pointer (some ⟨b,0,none⟩)]):=by
    refine⟨λk hk'=>Nat.lt_of_lt_of_le (hB k hk') hk.gr.le,rfl,rfl,λp hp=>?_,hgl.keep (λ_ h=>h) (λk hk'=>hk.same k (hB k hk') trivial) hk.gr⟩;rcases List.mem_cons.1 hp with rfl|hp
    · exact(show _/\ _ from⟨rfl,rfl⟩)
    rcases List.mem_cons.1 hp with rfl|hp
    · exact⟨_,cells,rfl,⟨b,0,cells.toArray,_,_,rfl,hb,hbW,λi _=>by simp⟩,Bk.step (λ_ h=>h) (λk hk'=>hk.same k (hB k hk') trivial) (.refl []) henc⟩
    · cases hp
  have ha0:=Asq (fn:=Tryz.f100) (vs:=[Ia l, .pointer (some ⟨b,0,none⟩)]) B3;have e0:(#[Value.func (.yield l) #[] #[]]++ #[Value.pointer (some ⟨b,0,none⟩)]:Array Value)=[Ia l, .pointer (some ⟨b,0,none⟩)].toArray:=by simp
  rw[e0]
  revert ha0
  generalize({tmps:=_,defers:=[]}:Act)=Bm0;rw[Bbg];intro ha0;refine zV hM hT hI (J:=J 0) (hGr 0) .d [0,1,3] [⟨3,[], .ro (.int .i64)⟩] ((Ayw gl l a f h s).trans (by rw[hok,hall];rfl)) rfl hm0 h0 ha0 λσ1 V1 w1 a1 f1 j1 m1=>?_;refine zV hM hT hI (J:=J 0) (hGr 0) .d [0,1,3,5] [] (Az5 gl l _ p0.1) rfl m1 j1 f1 λσ2 V2 w2 a2 f2 j2 m2=>?_;refine zV hM hT hI (J:=J 0) (hGr 0) .d [0,1,5,21,22,23] [] (Bar gl l a f h s p0.1) rfl m2 j2 f2 λσ3 V3 w3 a3 f3 j3 m3=>?_;have fin:∀{σ:Env} {a':Act} {w':World},Fits [] 43 a' σ-> ((∃V,J xs.length V w')\/Jx w')->LeavesInM (wr none) m Tryz.prog Tryz.f100 a'.tmps (λe W'=>(∃v,e= .returned v)/\ ((∃V,J xs.length V W')\/Jx W')) a'.defers .returning w':=by
    intro σ a' w' hf hh;rw[hf.defers];exact⟨_,dB (rs:=[]) (vs:=[]) B3 hf trivial,⟨_,rfl⟩,hh⟩
  refine wpIn_block (wH (p0.1.length+1) (λq a' w'=>∃(i:Nat) (x:Int) (V:Reg) (σ:Env),q+i=p0.1.length+1/\i<=p0.1.length/\Fits [] 43 a' σ/\J i V w'/\MemI gl V w' ⟨ZE (Ia l) (Nb a f h s) p0.1 (i:Int) x,[],[]⟩ σ/\BN a s (p0.1.drop i) x=some (xs.drop i)) ?_ ?_
    ⟨0,0,V3,σ3,rfl,Nat.zero_le _,f3,j3,m3,hF⟩)
  · rintro a' w' ⟨i,x,V,σ,hq,hi,_⟩
    omega
  rintro q a' w' ⟨i,x,V,σ,hq,hi,hf,hj,hm,hp⟩;refine zV hM hT hI (J:=J i) (hGr i) .d [0,1,5,21,22,23,24] [] (Ayp gl l a f h s p0.1 i x) rfl hm hj hf λσ4 V4 w4 a4 f4 j4 m4=>?_;by_cases hlt:i<p0.1.length
  · have hg:Ck (i:Int) (Ac p0.1)=true:=by simp[Ck,Ac,GI.toZ];exact hlt
    rw[hg]at m4;refine zV hM hT hI (J:=J i) (hGr i) .d [0,1,5,21,22,23] [] (Aof gl l a f h s p0.1 i x true) rfl m4 j4 f4 λσ5 V5 w5 a5 f5 j5 m5=>?_;obtain⟨n,hn⟩:∃n,p0.1[i]? =some n:=⟨_,List.getElem?_eq_getElem hlt⟩;have hgn:Go.Lv.Am p0.1 (i:Int)=some n:=by simp[Go.Lv.Am,hn]
    have hd:p0.1.drop i=n::p0.1.drop (i+1):=by rw[List.drop_eq_getElem_cons hlt];congr 1;rw[List.getElem?_eq_getElem hlt]at hn;exact Option.some.inj hn
    rw[hd]at hp;obtain⟨p,r,hcut,hp',hxs⟩:=Bfo hp;have hi':i<xs.length:=F0
    have hx:xs[i]? =some p:=by
      have:=congrArg List.head? hxs;rw[List.head?_drop]at this;exact this
    have hr:xs.drop (i+1)=r:=by
      have:=congrArg List.tail hxs;rw[List.tail_drop]at this;exact this
    refine wpIn_seq (wpIn_block ?_);refine zV hM hT hI (J:=J i) (hGr i) .d [0,1,5,7,21,22,23] [] ((Azu gl l a f h s p0.1 i x).trans (by rw[hgn];rfl)) rfl m5 j5 f5 λσ6 V6 w6 a6 f6 j6 m6=>?_;refine zV hM hT hI (J:=J i) (hGr i) .d [0,1,5,8,21,22,23] [] (Bay gl l a f h s p0.1 i x n) rfl m6 j6 f6 λσ7 V7 w7 a7 f7 j7 m7=>?_;refine wpIn_seq (wpIn_seq (wpIn_region_lit ?_));refine oJ (T:=AS gl) hT hI (J:=J i) (hGr i) [0,1,5,8,21,22,23,33,38] B3 ((Ba5 gl l a f h s p0.1 i x (Ad x (Bg n a))).trans (by rw[hcut];rfl)) rfl m7 j7 f7 λσ8 V8 w8 a8 f8 j8 m8=>?_;have v33:σ8 33=Ia l:=by
      have:=m8.val (t:=33) (p:= .cst (Ia l)) B7 rfl;exact(show [σ8 33]=[Ia l]/\ _ from this).1|>List.head_eq_of_cons_eq
    have v38:Ln V8 w8 [] (vw p) (σ8 38):=(lV rfl).1 (m8.val (t:=38) (p:=vw p) B7 rfl);refine Avt Auv Awo B6 (λc hc=>by rw[Agh]at hc;cases hc) (Ahg Agh v33 rfl) (hY i V8 w8 (σ8 38) hi' j8 (λx' hx'=>by rw[hx]at hx';cases hx';exact v38)) ?_ f8;rintro e w9 (⟨rfl,j9,hgr,hsame⟩|⟨rfl,jx⟩)
    · refine⟨_,rfl,λa9 f9=>?_⟩
      have m9:=(m8.round hgr hsame).set (d:=39) (p:=vt true) (v:= .bool true) rfl (show [Value.bool true]=[Value.bool true]from rfl);refine oJ (T:=AS gl) (l2:=[]) hT hI (J:=J (i+1)) (hGr (i+1)) [0,1,5,8,21,22,23,40] B3 (Ba0 gl l a f h s p0.1 i x (Ad x (Bg n a)) p true) rfl m9 j9 f9 λσb Vb wb ab fb jb mb=>?_;refine wpIn_mono (vH hM hT hI (J:=J (i+1)) (hGr (i+1)) (an:= .d) (lv:=[0,1,5,8,21,22,23]) (co:=[]) (Azc gl l a f h s p0.1 i x (Ad x (Bg n a)) false) rfl mb jb fb) ?_;rintro e ac wc ⟨he,σc,Vc,fc,jc,mc⟩;cases e with
      |normal=>
        refine wpIn_mono (vH hM hT hI (J:=J (i+1)) (hGr (i+1)) (an:= .d) (lv:=[0,1,5,21,22,23]) (co:=[]) (Ay5 gl l a f h s p0.1 i x (Ad x (Bg n a))) rfl mc jc fc) ?_;rintro e ad wd ⟨he,σd,Vd,fd,jd,md⟩;cases e with
        |normal=>
          refine wpIn_mono (vH hM hT hI (J:=J (i+1)) (hGr (i+1)) (an:= .d) (lv:=[0,1,5,21,22,23]) (co:=[]) (Bbp gl l a f h s p0.1 i (Ad x (Bg n a))) rfl md jd fd) ?_;rintro e ae we ⟨he,σe,Ve,fe,je,me⟩;cases e with
          |normal=>
            have hadd:Ad (i:Int) 1=((i+1:Nat):Int):=Aue F0;rw[hadd]at me;exact⟨i+1,_,Ve,σe,F0,F0,fe,je,me,by rw[hr];exact hp'⟩
          |ret=>simp[zX]at he
          |exit id=>simp[zX]at he
          |goto l=>cases he
          |panic c=>cases he
          |outgrown=>cases he
        |ret=>simp[zX]at he
        |exit id=>simp[zX]at he
        |goto l=>cases he
        |panic c=>cases he
        |outgrown=>cases he
      |ret=>simp[zX]at he
      |exit id=>simp[zX]at he
      |goto l=>cases he
      |panic c=>cases he
      |outgrown=>cases he
    · refine⟨_,rfl,λa9 f9=>?_⟩
      have hT0:NK Tryz.prog ⟨[],[],false,false⟩:= .nil;have hI0:∀{R:Type},HI (R:=R) Tryz.prog [] (OZ Tryz.prog ⟨[],[],false,false⟩ 8 []):=H2 hM hT0 Y_.nil 8;have m9:MemI [] (λ_=>False) w9 ⟨[(39,vt false)],[],[]⟩ (Xz σ8 39 (.bool false)):=⟨λ_ h=>h.elim,rfl,rfl,(λp hp=>by
        rcases List.mem_cons.1 hp with rfl|hp
        · exact Kh.put rfl (show [Value.bool false]=[Value.bool false]from rfl)
        · cases hp),λp hp=>by cases hp⟩
      refine oJ (T:=⟨[],[],false,false⟩) (l2:=[]) hT0 hI0 (J:=λ_ W=>Jx W) (λ_ X Y h k=>hJx X Y h k) [40] B3 Awb rfl m9 jx f9 λσb Vb wb ab fb jb mb=>?_;refine wpIn_mono (vH (T:=⟨[],[],false,false⟩) hM hT0 hI0 (J:=λ_ W=>Jx W) (λ_ X Y h k=>hJx X Y h k) (an:= .d) (lv:=[]) (co:=[]) Aun rfl mb jb fb) ?_;rintro e ac wc ⟨he,σc,Vc,fc,jc,mc⟩;cases e with
      |ret=>exact fin fc (.inr jc)
      |normal=>simp[zX]at he
      |exit id=>simp[zX]at he
      |goto l=>cases he
      |panic c=>cases he
      |outgrown=>cases he
  · have hi2:i=p0.1.length:=F0
    have hg:Ck (i:Int) (Ac p0.1)=false:=by subst hi2;simp[Ck,Ac,GI.toZ]
    rw[hg]at m4;refine wpIn_seq (wpIn_mono (vH hM hT hI (J:=J i) (hGr i) (an:= .d) (lv:=[0,1,5,21,22,23]) (co:=[]) (Aof gl l a f h s p0.1 i x false) rfl m4 j4 f4) ?_);rintro e ac wc ⟨he,σc,Vc,fc,jc,mc⟩;cases e with
    |exit id=>
      obtain rfl:id=0:=by simpa [zX]using he
      exact fin fc (.inl ⟨Vc,by rw[hlen,<-hi2];exact jc⟩)
    |ret=>simp[zX]at he
    |normal=>simp[zX]at he
    |goto l=>cases he
    |panic c=>cases he
    |outgrown=>cases he
abbrev l!:List Sh:=[.agg [.lf (.int .i64) none, .lf (.int .i64) none, .lf (.int .i64) none, .lf (.list (.int .i32)) none], .lf .str none]
abbrev TK:List Sh:=[.lf (.list (.list (.int .u8))) (some 22), .lf (.int .i64) none]
noncomputable def Aji:Con:=⟨[.agg [.lf (.int .i64) none, .lf (.int .i64) none, .lf (.int .i64) none, .lf (.list (.int .i32)) none]],[.lf (.int .i64) none],λx=>En x.1 x.2.1 x.2.2.1 x.2.2.2⟩
noncomputable def Afr:Con:=⟨[.lf .str none],[.lf (.vec 16 (.int .i32)) none, .lf (.int .i64) none],Oe⟩
noncomputable def Agb:Con:=⟨[.agg [.lf (.int .i64) none, .lf (.int .i64) none], .lf (.vec 16 (.int .i32)) none, .lf (.list (.int .i32)) none],[.lf (.list (.int .u8)) (some 5), .lf (.int .i64) none],λx=>Nx x.1 x.2.1 x.2.2.1 x.2.2.2⟩
noncomputable def Ajc:Con:=⟨[.agg [.lf (.int .i64) none, .lf (.int .i64) none, .lf (.int .i64) none, .lf (.list (.int .i32)) none]],[.agg [.lf (.int .i64) none, .lf (.int .i64) none]],λx=>OT x.1 x.2.1 x.2.2.1 x.2.2.2⟩
noncomputable def L4(gl:List (Nat×List Value)):Tab:=⟨[(15,Aji),(57,Afr),(59,Agb),(60,Ajc)],gl,true,false⟩
noncomputable def Aiq:List (Nat×ItC):=[(100,⟨25, .list (.int .i32),C!⟩)]
noncomputable def y!:List (Nat×An):=[(58, .d)]
noncomputable abbrev Aoh{R:Type}(gl:List (Nat×List Value)):P1 R:=OZ Tryz.prog (L4 gl) 8 y!
noncomputable def vk:An:= .loop [2,4,5,7,9] [⟨9,[], .own 22 (.list (.int .u8))⟩] .d
noncomputable def Amx:An:= .seq .d (.seq .d (.seq .d (.seq .d (.seq .d (.seq (.seq .d (.blk vk)) .d)))))
noncomputable def Azb:Code:=fB Tryz.f23
noncomputable def Amt:Code:=cB (cB (cB (cB (cB Azb))))
noncomputable def Aok:Code:=cA (cB (cA Amt))
noncomputable def Aro:Code:=cB Amt
def rfA:Code->Code| .rangeFunc _ _ a _=>a|c=>c
def rfB:Code->Code| .rangeFunc _ _ _ b=>b|c=>c
noncomputable def oF:K (KP (Ya TK)):={n:=wU Tryz.prog TK Tryz.f23.results.toList,x:=λ_ _=>none,r:=wU Tryz.prog TK Tryz.f23.results.toList}
noncomputable def Amz(gl:List (Nat×List Value))(s:S):Option (KP (Ya TK)):=ex Tryz.prog (L4 gl) (Aoh gl) 45 Aro .d oF s
noncomputable def Ao7(gl:List (Nat×List Value)):K (KP (Ya TK)):=⟨Amz gl,λid s=>Dk (Nat.beq id 0) (Amz gl s)<|oF.x id s,oF.r⟩
noncomputable def O7(gl:List (Nat×List Value)):List LX->S->Option (KP (Ya TK)):=rnd vk (uG Tryz.prog (L4 gl) (Aoh gl) 45 28 (rfA Aok) (rfB Aok) vk (Ao7 gl) (.list (.int .i32))) (Ao7 gl).n
def O1(a f h:Int)(b t:LX)(o:List LB):S:=⟨[(2, .ptr 0 []),(4, .ptr 1 []),(5, .ptr 2 []),(7, .ptr 3 []),(9, .ptr 4 [])],
  [.box 25 (.agg [vi a,vi f,vi h,vw b]), .box 42 .nils, .box 27 (vi 0), .box 103 (.val (.vec 16 (.int .i32)) t), .box 42 (.own 5), .arr 22 (.list (.int .u8)) o],[]⟩
theorem Azp(gl:List (Nat×List Value))(a f h:Int)(b t:LX)(o:List LB):O7 gl [] (O1 a f h b t o)=some (o,(0:Int)):=B3
theorem Bah(gl:List (Nat×List Value))(a f h:Int)(b t:LX)(o:List LB)(x:LX)(xs:List LX):O7 gl (x::xs) (O1 a f h b t o)=
    Option.bind (Nx a f t x) λy=>if(Bd y.2 0)=true then some ([],y.2)else Option.bind (Ds o [y.1]) λo'=>O7 gl xs (O1 a f h b t o'):=B3
theorem Ao8(gl:List (Nat×List Value))(a f h:Int)(b t:LX):∀(xs:List LX) (o:List LB),O7 gl xs (O1 a f h b t o)=RD a f t xs o
  |[],o=>Azp gl a f h b t o
  |x::xs,o=>by
    rw[Bah,RD];simp only[Ao8 gl a f h b t xs];rfl
theorem As7(gl:List (Nat×List Value))(x:KP (Ya l!)):iw Tryz.prog (L4 gl) y! Aiq Tryz.f23 Amx l! TK x=rN x.1 x.2.1 x.2.2.1 x.2.2.2.1 x.2.2.2.2:=by
  refine Eq.trans (b:=Option.bind (En x.1 x.2.1 x.2.2.1 x.2.2.2.1) λe=>if(Bd e 0)=true then some ([],e)else Option.bind (Oe x.2.2.2.2) λt=>if(Bd t.2 0)=true then some ([],t.2)
    else Option.bind (tO x.1 x.2.2.1 x.2.2.2.1) λxs=>O7 gl xs (O1 x.1 x.2.1 x.2.2.1 x.2.2.2.1 t.1 [])) B3 ?_
  simp only[Ao8];rfl
noncomputable def fP:Con:=⟨l!,TK,λx=>rN x.1 x.2.1 x.2.2.1 x.2.2.2.1 x.2.2.2.2⟩
theorem Bo8{gl:List (Nat×List Value)}(hCk:ConOk Tryz.prog gl 15 Aji)(hTp:ConOk Tryz.prog gl 57 Afr)(hAl:ConOk Tryz.prog gl 101 zm)(hEn:ConOk Tryz.prog gl 59 Agb)(hSh:ConOk Tryz.prog gl 60 Ajc):
    ConOk Tryz.prog gl 23 fP:=by
  have hE:∀{f:Nat} {fn:Func},Tryz.prog.funcs[f]? =some fn→(!(fn.name== "runtime.NumGoroutine")&&fn.body.isSome)=true→Ent Tryz.prog f:=by
    intro f fn hf hb;simp only[Bool.and_eq_true,Bool.not_eq_true']at hb;obtain⟨c,hc⟩:=Option.isSome_iff_exists.1 hb.2;exact Ent.mk hf hb.1 hc
  refine Ag2 (T:=L4 gl) (its:=Aiq) (ans:=y!) (an:=Amx) B3 Tryz.func23 (hE Tryz.func23 B3) (.cons hCk (.cons hTp (.cons hEn (.cons hSh .nil)))) (Y_.cons (hE Tryz.func58 B3) Y_.nil) ?_ B3 (As7 gl);intro p hp;rcases List.mem_cons.1 hp with rfl|hp
  · exact Asl hAl (hE Tryz.func100 B3)
  · cases hp
theorem Bp8 {W W':World}(h:KeepN (λ_=>True) W W'):W.grownBy W' none:=⟨h.gr.os,h.gr.tape,h.gr.output,h.gr.le,λk hk _=>h.same k hk trivial⟩
theorem Ahs{F:Fence}{n:Nat}{P:Program}{Q:Exit->Act->World->Prop}{a:Act}{w:World}{c:Code}(m:Nat)(I:Nat->Act->World->Prop)(h0:∀a w,¬I 0 a w)
    (hs:∀q a w,I (q+1) a w->c.wpIn F n P (Exit.then (I q) Q) a w) (h:I m a w):(Code.loop c).wpIn F n P Q a w:=by
  refine wpIn_loop_rounds m ?_
  induction m generalizing a w with
  |zero=>exact absurd h (h0 a w)
  |succ m ih=>
    rw[roundsIn_succ];refine wpIn_mono (hs m a w h) λe a' w' hh=>?_;cases e<;>first|exact ih hh|exact hh
theorem Bhf{α:Type}{c:Prop} [Decidable c]{a b y:α}(h:(if c then a else b)=y)(hc:¬c):b=y:=by rw[if_neg hc]at h;exact h
theorem Baj{A:Reg}{w:World}{v:Value}{k:Kd}{l y:List k.T}{a:Int}(h:Az A w (.list (.int k)) l [v])(hc:Bm l a (Ac l)=some y):
    ∃(p:Option Addr) (len cap m:Nat),v= .slice p len cap/\a=(m:Int)/\m<=len/\len<=cap/\Az A w (.list (.int k)) y [.slice (if cap=m then p else p.map (·.add m)) (len-m) (cap-m)]:=by
  obtain⟨v1,c0,e1,h1,h2⟩:=h;cases e1;obtain⟨p,len,cap,rfl,g1,g2,g3,g4⟩:=h1;obtain⟨k1,k2,k3,k4,rfl⟩:=YM hc;simp only[ET.size,Nat.mul_one]at g1 g4;have hll:=h2.len (z:=1) λx c h=>by rw[show c=_ from h];rfl
  have hln:l.length=len:=F0
  have hto:(Ac l).toNat=len:=by simp[Ac,hln]
  rw[hto]at k3⊢;refine⟨p,len,cap,a.toNat,rfl,k1,k3,g2,_,c0.drop a.toNat,rfl,⟨_,_,_,rfl,?_,F0,λhp=>?_,λhcap=>?_⟩,?_⟩
  · simp only[ET.size,List.length_drop];omega
  · split at hp
    · omega
    · rename_i hne
      cases p with
      |none=>have:=g3 rfl;omega
      |some a=>cases hp
  · rw[if_neg F0]
    obtain⟨b,off,arr,T,fr,rfl,e2,e3,e4,e5⟩:=g4 F0;refine⟨b,off+a.toNat,arr,T,fr,by simp[Addr.add],e2,e3,by simp only[ET.size];omega,λi hi=>?_⟩;simp only[ET.size]at hi;rw[List.getElem?_drop,<-e5 (a.toNat+i) F0,Nat.add_assoc]
  · have:=Cm.drop (z:=1) (λx c h=>by rw[show c=_ from h];rfl) a.toNat h2
    rw[Nat.mul_one]at this;rw[List.take_of_length_le F0];exact this
theorem Bf9{P:Program}{f:Nat}{gl:List (Nat×List Value)}{F:List UInt8->Option (Int×Int)}(hC:ConOk P gl f ⟨[.lf (.list (.int .u8)) none],[.lf (.int .i64) none, .lf (.int .i64) none],F⟩){A:Reg}{W:World}{v:Value}{s:List UInt8}{r:Int×Int}
    (hv:Az A W (.list (.int .u8)) s [v]) (hgl:GlOk gl A W) (h:F s=some r):Calls P f #[v] W λe W'=>e= .returned (.tuple #[.int .i64 r.1, .int .i64 r.2])/\KeepN (λ_=>True) W W':=by
  have hv':Az (λ_=>True/\True) W (.list (.int .u8)) s [v]:=Az.step (λ_ _=>⟨trivial,trivial⟩) (λ_ _=>rfl) hv;refine(hC.ok (λ_=>True) (λ_=>True) W [] [v] [.val (.list (.int .u8)) s] s r rfl rfl (λi a m _ h=>by simp at h) trivial ⟨v,[],rfl,hv',rfl⟩ (λp hp=>⟨(hgl p hp).1,trivial,(hgl p hp).2.2⟩) h).mono ?_;rintro e w' ⟨us,rfl,hk,A1,L1,g1,g2,g3⟩;obtain⟨ps,its,k1,k2,k3,k4,k5⟩:=g3 ⟨[],[],[]⟩ [] (λ_=>True) rfl (λ_ _=>trivial) (λ_ _ _=>trivial);refine⟨?_,hk⟩;obtain rfl:=Option.some.inj (show some [PV.val (.int .i64) r.1,PV.val (.int .i64) r.2]=some ps from k2);obtain⟨_,_,rfl,e1,_,_,rfl,e2,rfl⟩:=k3;cases(show [_]=[Value.int .i64 r.1]from e1);cases(show [_]=[Value.int .i64 r.2]from e2);rfl
structure KpF (n₀ Bx:Nat) (A B:World):Prop where
  le:A.heap.size<=B.heap.size
  box:B.heap[Bx]? =A.heap[Bx]?
  old:∀k,k<n₀->B.heap[k]? =A.heap[k]?
def smT(l:List (Int×Int)):Int:=l.foldl (λs x=>Ad s x.1) 0
def fin(y:Int×Int)(xs:List (Int×Int)):Prop:=(∃x∈xs,x.2≠0)\/y=(smT xs,0)
def Avu(y:Int×Int)(pre:List (Int×Int)):Prop:=∃p x,pre=p++[x]/\ (x.2≠0->y=(0,x.2))
theorem Tryz.Bgg:Tryz.f189.ntmps=35:=B3
theorem Tryz.u25:Tryz.prog.underlying 22=some (.slice 5):=B3
theorem Tryz.sz5:Lu Tryz.prog 5 1:=Lu.mk B3
set_option maxHeartbeats 2000000 in
set_option maxRecDepth 100000 in
theorem Azr(n:Nat)(l Bx n₀:Nat)(v:Value)(b:List UInt8)(y:Int×Int)(J Jx:List (Int×Int)->World->Prop)(gl:List (Nat×List Value))
    (hC:ConOk Tryz.prog gl 190 ⟨[.lf (.list (.int .u8)) none],[.lf (.int .i64) none, .lf (.int .i64) none],AN⟩)
    (hY:∀pre x W,J pre W->pre.length<Au->YieldAt Fence.wide (n-1) Tryz.prog l #[.int .i64 x.1, .int .i64 x.2] W λe W'=>
      (e= .returned (.bool true)/\J (pre++[x]) W'/\KpF n₀ Bx W W')\/ (e= .returned (.bool false)/\Jx (pre++[x]) W'))
    (W0:World) (hJ:AbidesFrom W0.heap.size J) (TD:W0.heap[Bx]? =some (.cells #[v] 22 (0,0))) (hn:n₀<=W0.heap.size) (hv:Az (λk=>k<n₀) W0 (.list (.int .u8)) b [v]) (hgl:GlOk gl (λk=>k<n₀) W0)
    (h0:J [] W0) (hy:Jv b=some y):
    CallsIn Fence.wide n Tryz.prog 189 #[.func (.yield l) #[] #[], .pointer (some ⟨Bx,0,none⟩)] W0 λe W'=>(∃v,e= .returned v)/\ ((∃ys,fin y ys/\J ys W')\/ (∃pre,Avu y pre/\Jx pre W')):=by
  refine callsIn_of_wp Tryz.func189 rfl trivial ?_ rfl;simp only[Tryz.Bgg,List.size_toArray,List.length_cons,List.length_nil,Nat.reduceAdd,Nat.reduceSub,Array.replicate_succ,Array.replicate_zero,List.push_toArray,List.append_toArray,List.nil_append,List.cons_append]
  gi_wp2
  refine Ahs Au (λq a W=>∃(pre:List (Int×Int)) (x:Int) (v2 v4 v5 v6 v7 v8 v9 v10 v11 v12 v13 v14 v15 v16 v17 v18 v19 v20 v21 v22 v23 v24 v25 v26 v27 v28 v29 v30 v31 v32 v33 v34:Value),a={tmps:= #[.func (.yield l) #[] #[], .pointer (some ⟨Bx,0,none⟩),v2, .int .i64 x,v4,v5,v6,v7,v8,v9,v10,v11,v12,v13,v14,v15,v16,v17,v18,v19,v20,v21,v22,v23,v24,v25,v26,v27,v28,v29,v30,v31,v32,v33,v34],defers:=[]}/\Yb b q x=some y/\smT pre=x/\pre.length+q=Au/\J pre W/\KpF n₀ Bx W0 W/\W0.heap.size<=W.heap.size) ?_ ?_ ?_
  · rintro a W ⟨pre,x,v2,v4,v5,v6,v7,v8,v9,v10,v11,v12,v13,v14,v15,v16,v17,v18,v19,v20,v21,v22,v23,v24,v25,v26,v27,v28,v29,v30,v31,v32,v33,v34,_,h,_⟩
    cases h
  · rintro q a W ⟨pre,x,v2,v4,v5,v6,v7,v8,v9,v10,v11,v12,v13,v14,v15,v16,v17,v18,v19,v20,v21,v22,v23,v24,v25,v26,v27,v28,v29,v30,v31,v32,v33,v34,rfl,h,hx,hl,hJ1,hk,hs⟩
    simp only[Yb]at h;obtain⟨s,hcut,h⟩:=Go.Lv.bind_some h;obtain⟨r,hsz,h⟩:=Go.Lv.bind_some h;have hvW:Az (λk=>k<n₀) W (.list (.int .u8)) b [v]:=Az.step (λ_ h=>h) (λk hk'=>hk.old k hk') hv;obtain⟨p,len,cap,m,rfl,rfl,hm,hlc,hsv⟩:=Baj (k:= .u8) hvW hcut;have hc:W.cell? ⟨Bx,0,none⟩=some (.slice p len cap):=by
      have:=hk.box;simp only[World.cell?,this,TD];rfl
    have hu:=Tryz.u25;have hz:=Tryz.sz5;obtain⟨k,e⟩:=r;have e1:geq e 6=(e==6):=rfl;have e2:geq e 0=(e==0):=rfl;have e3:Ad (m:Int) k=RowKit.wrap64 (m+k):=by
      simp only[Ad,GI.ofZ,GI.toZ,Go.Lv.wrap64,RowKit.wrap64];exact IntKind.wrap_i64 _
    have e4:Ei (RowKit.wrap64 (m+k)) 4000=decide (4000<RowKit.wrap64 (m+k)):=rfl;have e5:Bd e 0=(e !=0):=rfl;rw[e1,e2,e3,e4,e5]at h;have hp:=h;have hgW:GlOk gl (λk=>k<n₀) W:=λp hp=>⟨Nat.lt_of_lt_of_le (hgl p hp).1 hs,(hgl p hp).2.1,by rw[hk.old _ (hgl p hp).2.1];exact(hgl p hp).2.2⟩;have hcall:∀v',Az (λk=>k<n₀) W (.list (.int .u8)) s [v']->CallsIn Fence.wide (n-1) Tryz.prog 190 #[v'] W λe0 W'=>e0= .returned (.tuple #[.int .i64 k, .int .i64 e])/\KeepN (λ_=>True) W W':=
      λv' hv'=>callsIn_wide.2 (Bf9 hC hv' hgW hsz)
    have hsm:∀z:Int,smT (pre++[(k,z)])=RowKit.wrap64 (m+k):=λz=>by rw[<-e3,<-hx];simp[smT]
    have hlt:Bx<W.heap.size:=Nat.lt_of_lt_of_le (Array.getElem?_eq_some_iff.1 TD).1 hs
    gi_wp2
    all_goals
      refine⟨trivial,(λh=>nomatch h),(hcall _ (by first|(rw[if_neg (by assumption)]at hsv;exact hsv)|(simpa [*]using hsv))).mono ?_⟩;rintro e0 W1 ⟨rfl,hk1⟩;have hJ2:=hJ pre W W1 none hJ1 (Bp8 hk1) (λr e=>by cases e);have hyl:∀e',YieldAt Fence.wide (n-1) Tryz.prog l #[Value.int IntKind.i64 k,Value.int IntKind.i64 e'] W1 _:=λe'=>hY pre (k,e') W1 hJ2 F0
      gi_wp2
      · rename_i h6
        rw[if_pos h6]at hp;refine bodyPost_ret (results_none rfl _ _ _) rfl ?_;exact⟨⟨_,rfl⟩, .inl ⟨pre, .inr (by rw[hx];cases hp;rfl),hJ2⟩⟩
      · obtain⟨fn,tmps,assign,body,hy1,hR⟩:=hyl 4
        rw[hy1]
        gi_wp2
        refine⟨(λh=>nomatch h),hR.mono ?_⟩;rintro e3 W3 (⟨rfl,hJ3,hk3⟩|⟨rfl,hJx3⟩)
        · gi_wp2
          refine bodyPost_ret (results_none rfl _ _ _) rfl ?_;exact⟨⟨_,rfl⟩, .inl ⟨pre++[(k,4)], .inl ⟨(k,4),B7,B7⟩,hJ3⟩⟩
        · gi_wp2
          refine bodyPost_ret (results_none rfl _ _ _) rfl ?_;refine⟨⟨_,rfl⟩, .inr ⟨pre++[(k,4)],⟨pre,(k,4),rfl,λhne=>?_⟩,hJx3⟩⟩;simp at hne
          all_goals simp_all
      · obtain⟨fn,tmps,assign,body,hy1,hR⟩:=hyl 0
        rw[hy1]
        gi_wp2
        refine⟨(λh=>nomatch h),hR.mono ?_⟩;rintro e3 W3 (⟨rfl,hJ3,hk3⟩|⟨rfl,hJx3⟩)
        · gi_wp2
          refine⟨pre++[(k,0)],_,_,_,_,_,_,_,_,_,_,_,_,_,_,_,_,_,_,_,_,_,_,_,_,_,_,_,_,_,_,_,_,_,rfl,?_,‹∀z:Int,smT (pre++[(k,z)])=RowKit.wrap64 ((m:Int)+k)› 0,by simp;omega,hJ3,⟨?_,?_,?_⟩,?_⟩
          · simp_all
            exact Bhf (by assumption) F0
          · exact Nat.le_trans hk.le (Nat.le_trans hk1.gr.le hk3.le)
          · exact hk3.box.trans ((hk1.same _ ‹Bx<W.heap.size› trivial).trans hk.box)
          · exact λj hj=>(hk3.old j hj).trans ((hk1.same j (Nat.lt_of_lt_of_le hj (Nat.le_trans hn hs)) trivial).trans (hk.old j hj))
          · exact Nat.le_trans hs (Nat.le_trans hk1.gr.le hk3.le)
        · gi_wp2
          refine bodyPost_ret (results_none rfl _ _ _) rfl ?_;exact⟨⟨_,rfl⟩, .inr ⟨pre++[(k,0)],⟨pre,(k,0),rfl,λhne=>absurd rfl hne⟩,hJx3⟩⟩
      · obtain⟨fn,tmps,assign,body,hy1,hR⟩:=hyl e
        rw[hy1]
        gi_wp2
        refine⟨(λh=>nomatch h),hR.mono ?_⟩;rintro e3 W3 (⟨rfl,hJ3,hk3⟩|⟨rfl,hJx3⟩)
        · gi_wp2
          rename_i hne;refine bodyPost_ret (results_none rfl _ _ _) rfl ?_;exact⟨⟨_,rfl⟩, .inl ⟨pre++[(k,e)], .inl ⟨(k,e),B7,by simpa using hne⟩,hJ3⟩⟩
        · gi_wp2
          refine bodyPost_ret (results_none rfl _ _ _) rfl ?_;refine⟨⟨_,rfl⟩, .inr ⟨pre++[(k,e)],⟨pre,(k,e),rfl,λhne=>?_⟩,hJx3⟩⟩;simp at hne
          all_goals simp_all
  · exact⟨[],0,_,_,_,_,_,_,_,_,_,_,_,_,_,_,_,_,_,_,_,_,_,_,_,_,_,_,_,_,_,_,_,_,rfl,hy,rfl,B7,h0,⟨Nat.le_refl _,rfl,λ_ _=>rfl⟩,Nat.le_refl _⟩
theorem Bd3(n Bx n₀:Nat)(v:Value)(b:List UInt8)(y:Int×Int)(gl:List (Nat×List Value))
    (hC:ConOk Tryz.prog gl 190 ⟨[.lf (.list (.int .u8)) none],[.lf (.int .i64) none, .lf (.int .i64) none],AN⟩)
    (w:World) (TD:w.heap[Bx]? =some (.cells #[v] 22 (0,0))) (hn:n₀<=w.heap.size) (hv:Az (λk=>k<n₀) w (.list (.int .u8)) b [v]) (hgl:GlOk gl (λk=>k<n₀) w) (hy:Jv b=some y):
    SeqStopsK Fence.wide n Tryz.prog 189 #[.pointer (some ⟨Bx,0,none⟩)] (λx:Int×Int=> #[.int .i64 x.1, .int .i64 x.2]) (KpF n₀ Bx) (fin y) (Avu y) Au w:=by
  intro l J Jx W hW hJ hJx hY h0;have hlt:=(Array.getElem?_eq_some_iff.1 TD).1;have hb:∀k,k<n₀->W.heap[k]? =w.heap[k]? :=λk hk=>hW.block k (Nat.lt_of_lt_of_le hk hn);exact Azr n l Bx n₀ v b y J Jx gl hC hY W hJ ((hW.block Bx hlt).trans TD) (Nat.le_trans hn hW.size) (Az.step (λ_ h=>h) hb hv)
    (λp hp=>⟨Nat.lt_of_lt_of_le (hgl p hp).1 hW.size,(hgl p hp).2.1,by rw[hb _ (hgl p hp).2.1];exact(hgl p hp).2.2⟩) h0 hy
theorem qK{w W:World}{a:Addr}{v:Value}(h:KeepN (λ_=>True) w W)(ha:w.heap.size<=a.block):KeepN (λ_=>True) w (W.setCell a v):=by
  have hb:=(Below.refl w.heap.size W).setCell (p:=a) ha v;exact⟨λb hb' _=>(hb.block b hb').trans (h.same b hb' trivial),h.gr.trans ⟨hb.size,hb.os,hb.tape,hb.output⟩⟩
theorem heap_set{W:World}{a:Addr}{v:Value}{k:Nat}(h:k≠a.block):(W.setCell a v).heap[k]? =W.heap[k]? :=
  ((Below.refl (k+1) {W with heap:=W.heap}).block k F0▸(by
    show(W.heap.modify a.block _)[k]? =W.heap[k]?;rw[Array.getElem?_modify,if_neg (Ne.symm h)]))
theorem Aju{W:World}{B:Nat}{v:Value}{t:TypeId}(h:W.heap[B]? =some (.cells #[v] t (0,0))):W.cell? ⟨B,0,none⟩=some v/\W.frozen? ⟨B,0,none⟩=false:=by
  constructor<;>simp[World.cell?,World.frozen?,h]
theorem C6(W:World)(v:Value)(t:TypeId):(W.alloc (.cells #[v] t)).cell? ⟨W.heap.size,0,none⟩=some v/\ (W.alloc (.cells #[v] t)).frozen? ⟨W.heap.size,0,none⟩=false:=Aju (World.alloc_heap_new W _)
theorem Ni{W:World}{a:Addr}{v:Value}(o:Obj)(h:W.cell? a=some v):(W.alloc o).cell? a=some v:=cell_kept h (World.grownBy_alloc W o none) (λr e=>by cases e)
theorem Vj{W:World}{a:Addr}{v:Value}(o:Obj)(h:W.cell? a=some v)(hf:W.frozen? a=false):(W.alloc o).frozen? a=false:=(frozen_kept h (World.grownBy_alloc W o none) (λr e=>by cases e)).trans hf
theorem Tryz.Bf3:Tryz.f158.ntmps=4:=B3
theorem Tryz.Bg4:Tryz.f117.ntmps=18:=B3
set_option maxHeartbeats 1000000 in
set_option maxRecDepth 100000 in
theorem Azh(n:Nat)(p:Option Addr)(len cap:Nat)(w:World):
    CallsIn Fence.wide n Tryz.prog 158 #[.slice p len cap] w λe w'=>e= .returned (.func (.func 189) #[] #[.pointer (some ⟨w.heap.size,0,none⟩)])/\w'=w.alloc (.cells #[.slice p len cap] 22):=by
  refine callsIn_of_wp Tryz.func158 rfl trivial ?_ rfl;simp only[Tryz.Bf3,List.size_toArray,List.length_cons,List.length_nil,Nat.reduceAdd,Nat.reduceSub,Array.replicate_succ,Array.replicate_zero,List.push_toArray,List.append_toArray,List.nil_append,List.cons_append]
  gi_wp2
  go_ret
  exact⟨rfl,rfl⟩
set_option maxHeartbeats 1000000 in
set_option maxRecDepth 100000 in
theorem Atl(n:Nat)(h1:3<=n)(p:Option Addr)(len cap:Nat)(b:List UInt8)(y:Int×Int)(gl:List (Nat×List Value))
    (hC:ConOk Tryz.prog gl 190 ⟨[.lf (.list (.int .u8)) none],[.lf (.int .i64) none, .lf (.int .i64) none],AN⟩)
    (w:World) (hv:Az (λk=>k<w.heap.size) w (.list (.int .u8)) b [.slice p len cap]) (hgl:GlOk gl (λk=>k<w.heap.size) w) (hy:Jv b=some y):
    CallsIn Fence.wide n Tryz.prog 117 #[.slice p len cap] w λe w'=>e= .returned (.tuple #[.int .i64 y.1, .int .i64 y.2])/\KeepN (λ_=>True) w w':=by
  refine callsIn_of_wp_marks Tryz.func117 rfl trivial ?_ rfl;simp only[Tryz.Bg4,List.size_toArray,List.length_cons,List.length_nil,Nat.reduceAdd,Nat.reduceSub,Array.replicate_succ,Array.replicate_zero,List.push_toArray,List.append_toArray,List.nil_append,List.cons_append]
  gi_wp2
  refine⟨trivial,(λh=>nomatch h),(Azh (n-1) _ _ _ _).mono ?_⟩;rintro e w' ⟨rfl,rfl⟩
  gi_wp2
  refine wpIn_rangeFunc_ownG (Kp:=KpF w.heap.size (w.heap.size+1+1+1)) rfl F0 (gf:=189) (lb:= #[.pointer (some ⟨w.heap.size+1+1+1,0,none⟩)]) rfl trivial (enters_of Tryz.func189 B3 rfl)
    (Bd3 (n-1) (w.heap.size+1+1+1) w.heap.size (.slice p len cap) b y gl hC _ ?TD ?hn ?hv ?hgl hy)
    (λh k=>⟨Nat.le_trans h.le k.le,k.box.trans h.box,λj hj=>(k.old j hj).trans (h.old j hj)⟩) ?hKb (Below.refl _ _) (λ_=>rfl)
    (λpre W=>(∀x∈pre,x.2=0)/\ (W.cell? ⟨w.heap.size+1+1,0,none⟩=some (.int .i64 (smT pre))/\W.frozen? ⟨w.heap.size+1+1,0,none⟩=false)/\
      (∃v,W.cell? ⟨w.heap.size,0,none⟩=some v/\W.frozen? ⟨w.heap.size,0,none⟩=false)/\ (∃v,W.cell? ⟨w.heap.size+1,0,none⟩=some v/\W.frozen? ⟨w.heap.size+1,0,none⟩=false)/\KeepN (λ_=>True) w W)
    (λc pre W=>c= .ret/\ (∃jP x,pre=jP++[x]/\x.2≠0/\W.cell? ⟨w.heap.size,0,none⟩=some (.int .i64 0)/\W.cell? ⟨w.heap.size+1,0,none⟩=some (.int .i64 x.2))/\KeepN (λ_=>True) w W)
    ?hI ?hIx ?h0
    (λx=>{tmps:= #[.slice p len cap,undef, .pointer (some ⟨w.heap.size,0,none⟩), .pointer (some ⟨w.heap.size+1,0,none⟩), .pointer (some ⟨w.heap.size+1+1,0,none⟩), .int .i64 x.1, .int .i64 x.2, .slice p len cap, .func (.func 189) #[] #[.pointer (some ⟨w.heap.size+1+1+1,0,none⟩)], .int .i64 x.1, .int .i64 x.2,undef,undef,undef,undef,undef,undef,undef],defers:=[]}) ?assign ?body ?done ?stop
  case assign=>
    intro l x W K hK
    gi_wp2
    exact hK
  case body=>
    rintro l pre x W ⟨hz,⟨hc,hf⟩,⟨v2,hc2,hf2⟩,⟨v3,hc3,hf3⟩,hk⟩ _
    gi_wp2
    · rename_i hx
      refine⟨(KeepsOthers.trans (KeepsOthers.setCell _ _ _) (KeepsOthers.setCell _ _ _)).from _,rfl,⟨pre,x,rfl,by simpa using hx,?_,?_⟩,qK (qK hk (Nat.le_refl _)) (Nat.le_succ _)⟩
      · refine(World.cell?_setCell_other _ _ _ _ B7).trans ?_
        exact World.cell?_setCell_same' _ _ _ (by rw[hc2];rfl)
      · refine World.cell?_setCell_same' _ _ _ ?_
        rw[World.cell?_setCell_other W ⟨w.heap.size,0,none⟩ ⟨w.heap.size+1,0,none⟩ _ B7,hc3];rfl
    · rename_i hx
      have hx0:x.2=0:=by simpa using hx
      refine⟨(KeepsOthers.setCell _ _ _).from _,⟨((Below.refl 0 W).setCell (p:=⟨w.heap.size+1+1,0,none⟩) (Nat.zero_le _) _).size,heap_set B7,λk hk'=>heap_set B8⟩,?_,⟨?_,by rw[World.frozen?_setCell];exact hf⟩,⟨v2,?_,by rw[World.frozen?_setCell];exact hf2⟩,⟨v3,?_,by rw[World.frozen?_setCell];exact hf3⟩,qK hk B8⟩
      · intro z hz'
        rcases List.mem_append.1 hz' with h|h
        · exact hz z h
        · simp at h;subst h;exact hx0
      · have e:smT (pre++[x])=RowKit.wrap64 (smT pre+x.1):=by
          simp only[smT,List.foldl_append,List.foldl_cons,List.foldl_nil,Ad,GI.ofZ,GI.toZ,Go.Lv.wrap64,RowKit.wrap64];exact IntKind.wrap_i64 _
        rw[e];exact World.cell?_setCell_same' _ _ _ (by rw[hc];rfl)
      · exact(World.cell?_setCell_other _ _ _ _ (by simp;try omega)).trans hc2
      · exact(World.cell?_setCell_other _ _ _ _ B7).trans hc3
  case done=>
    rintro D xs W hD hS ⟨hz,⟨hc,hf⟩,⟨v2,hc2,hf2⟩,⟨v3,hc3,hf3⟩,hk⟩ hK
    gi_wp2
    have hy':y=(smT xs,0):=hS.elim (λ⟨x,hx,hne⟩=>absurd (hz x hx) hne) id;have hlen:w.heap.size+4<=D:=by simp only[World.size_alloc]at hD;omega
    have hK':=((KeepsOthers.setCell W ⟨w.heap.size,0,none⟩ (.int .i64 (smT xs))).trans (KeepsOthers.setCell _ ⟨w.heap.size+1,0,none⟩ (.int .i64 0))).same D _ hK rfl;have hk2:=qK (v:= .int .i64 0) (a:=⟨w.heap.size+1,0,none⟩) (qK (v:= .int .i64 (smT xs)) (a:=⟨w.heap.size,0,none⟩) hk (Nat.le_refl _)) (Nat.le_succ _);have d0:((W.setCell ⟨w.heap.size,0,none⟩ (.int .i64 (smT xs))).setCell ⟨w.heap.size+1,0,none⟩ (.int .i64 0)).cell? ⟨w.heap.size,0,none⟩=some (.int .i64 (smT xs)):=
      (World.cell?_setCell_other _ _ _ _ B7).trans (World.cell?_setCell_same' _ _ _ (by rw[hc2];rfl))
    have d1:((W.setCell ⟨w.heap.size,0,none⟩ (.int .i64 (smT xs))).setCell ⟨w.heap.size+1,0,none⟩ (.int .i64 0)).cell? ⟨w.heap.size+1,0,none⟩=some (.int .i64 0):=
      World.cell?_setCell_same' _ _ _ (by rw[World.cell?_setCell_other W ⟨w.heap.size,0,none⟩ ⟨w.heap.size+1,0,none⟩ _ B7,hc3];rfl)
    refine⟨B7, .inl ⟨_,_,rfl,run_takeDeferred hK',?_⟩⟩;have hg:=grownBy_putObj' ((W.setCell ⟨w.heap.size,0,none⟩ (.int .i64 (smT xs))).setCell ⟨w.heap.size+1,0,none⟩ (.int .i64 0)) D (.deferred none);have hr':∀r,some D=some r->∃o:Obj,((W.setCell ⟨w.heap.size,0,none⟩ (.int .i64 (smT xs))).setCell ⟨w.heap.size+1,0,none⟩ (.int .i64 0)).heap[r]? =some o/\o.isCells=false:=λr e=>by cases e;exact⟨_,hK',rfl⟩
    have hc5:=cell_kept d0 hg hr';have hc6:=cell_kept d1 hg hr';refine⟨.tuple #[.int .i64 (smT xs), .int .i64 0],?_,by rw[hy'],?_⟩
    · simp[results,Tryz.f117,go_sem,hc5,hc6]
    · refine⟨λb hb _=>(hg.block b (Nat.lt_of_lt_of_le hb hk2.gr.le) (λe=>?_)).trans (hk2.same b hb trivial),hk2.gr.trans ⟨hg.size,hg.os,hg.tape,hg.output⟩⟩
      cases e;omega
  case stop=>
    rintro D c pre W hD hS ⟨rfl,⟨jP,x,rfl,hx,hc2,hc3⟩,hk⟩ hK
    gi_wp2
    obtain⟨p1,x1,he,hy1⟩:=hS;have hy':y=(0,x.2):=by
      have:=List.append_inj' he rfl;cases this.2;exact hy1 hx
    have hlen:w.heap.size+4<=D:=by simp only[World.size_alloc]at hD;omega
    refine⟨B7, .inl ⟨_,_,rfl,run_takeDeferred hK,?_⟩⟩;have hg:=grownBy_putObj' W D (.deferred none);have hr':∀r,some D=some r->∃o:Obj,W.heap[r]? =some o/\o.isCells=false:=λr e=>by cases e;exact⟨_,hK,rfl⟩
    have hc5:=cell_kept hc2 hg hr';have hc6:=cell_kept hc3 hg hr';refine⟨.tuple #[.int .i64 0, .int .i64 x.2],?_,by rw[hy'],?_⟩
    · simp[results,Tryz.f117,go_sem,hc5,hc6]
    · refine⟨λb hb _=>(hg.block b (Nat.lt_of_lt_of_le hb hk.gr.le) (λe=>?_)).trans (hk.same b hb trivial),hk.gr.trans ⟨hg.size,hg.os,hg.tape,hg.output⟩⟩
      cases e;omega
  case TD=>
    have h:=World.alloc_heap_new (((w.alloc (.cells #[.int .i64 0] 3)).alloc (.cells #[.int .i64 0] 27)).alloc (.cells #[.int .i64 0] 3)) (.cells #[.slice p len cap] 22);simp only[World.size_alloc]at h;exact h
  case hn=>simp;omega
  case hI=>
    rintro s A B row ⟨hz,⟨hc,hf⟩,⟨v2,hc2,hf2⟩,⟨v3,hc3,hf3⟩,hk⟩ hg hr;have hr':∀r,row=some r->∃o:Obj,A.heap[r]? =some o/\o.isCells=false:=λr e=>(hr r e).2;refine⟨hz,⟨cell_kept hc hg hr',(frozen_kept hc hg hr').trans hf⟩,⟨v2,cell_kept hc2 hg hr',(frozen_kept hc2 hg hr').trans hf2⟩,⟨v3,cell_kept hc3 hg hr',(frozen_kept hc3 hg hr').trans hf3⟩,?_⟩;refine⟨λb hb _=>(hg.block b (Nat.lt_of_lt_of_le hb hk.gr.le) (λe=>?_)).trans (hk.same b hb trivial),hk.gr.trans ⟨hg.size,hg.os,hg.tape,hg.output⟩⟩;have:=(hr b e.symm).1;simp at this;omega
  case hIx=>
    rintro c s A B row ⟨hc,⟨jP,x,hs,hx,hc2,hc3⟩,hk⟩ hg hr;have hr':∀r,row=some r->∃o:Obj,A.heap[r]? =some o/\o.isCells=false:=λr e=>(hr r e).2;refine⟨hc,⟨jP,x,hs,hx,cell_kept hc2 hg hr',cell_kept hc3 hg hr'⟩,?_⟩;refine⟨λb hb _=>(hg.block b (Nat.lt_of_lt_of_le hb hk.gr.le) (λe=>?_)).trans (hk.same b hb trivial),hk.gr.trans ⟨hg.size,hg.os,hg.tape,hg.output⟩⟩;have:=(hr b e.symm).1;simp at this;omega
  case hKb=>
    intro W l o o' hl h _ _;have hlt:=(Array.getElem?_eq_some_iff.1 h).1;simp at hl;have hg:=grownBy_putObj' W l o';exact⟨hg.size,hg.block _ F0 (λe=>by cases e;omega),λk hk=>hg.block k F0 (λe=>by cases e;omega)⟩
  case hgl=>
    intro q hq;refine⟨by simp;have:=(hgl q hq).1;omega,(hgl q hq).2.1,?_⟩;have hb:=((((Below.refl w.heap.size w).alloc (Nat.le_refl _) (.cells #[.int .i64 0] 3)).alloc B7 (.cells #[.int .i64 0] 27)).alloc B8 (.cells #[.int .i64 0] 3)).alloc B8 (.cells #[.slice p len cap] 22);rw[hb.block _ (hgl q hq).1];exact(hgl q hq).2.2
  case hv=>
    have hb:=((((Below.refl w.heap.size w).alloc (Nat.le_refl _) (.cells #[.int .i64 0] 3)).alloc B7 (.cells #[.int .i64 0] 27)).alloc B8 (.cells #[.int .i64 0] 3)).alloc B8 (.cells #[.slice p len cap] 22);exact Az.step (λ_ h=>h) (λk hk=>hb.block k hk) hv
  case h0=>
    have c0:=C6 w (.int .i64 0) 3;have c1:=C6 (w.alloc (.cells #[.int .i64 0] 3)) (.int .i64 0) 27;have c2:=C6 ((w.alloc (.cells #[.int .i64 0] 3)).alloc (.cells #[.int .i64 0] 27)) (.int .i64 0) 3;simp only[World.size_alloc]at c1 c2;have hb:=((((Below.refl w.heap.size w).alloc (Nat.le_refl _) (.cells #[.int .i64 0] 3)).alloc B7 (.cells #[.int .i64 0] 27)).alloc B8 (.cells #[.int .i64 0] 3)).alloc B8 (.cells #[.slice p len cap] 22);exact⟨B7,⟨Ni _ c2.1,Vj _ c2.1 c2.2⟩,⟨_,Ni _ (Ni _ (Ni _ c0.1)),Vj _ (Ni _ (Ni _ c0.1)) (Vj _ (Ni _ c0.1) (Vj _ c0.1 c0.2))⟩,
      ⟨_,Ni _ (Ni _ c1.1),Vj _ (Ni _ c1.1) (Vj _ c1.1 c1.2)⟩,⟨λb hb' _=>hb.block b hb',⟨hb.size,hb.os,hb.tape,hb.output⟩⟩⟩
def EP:Con:=⟨[.lf (.list (.int .u8)) none],[.lf (.int .i64) none, .lf (.int .i64) none],λx=>Jv x⟩
theorem Bnf{gl:List (Nat×List Value)}(hE:Ent Tryz.prog 117)(hC:ConOk Tryz.prog gl 190 ⟨[.lf (.list (.int .u8)) none],[.lf (.int .i64) none, .lf (.int .i64) none],AN⟩):ConOk Tryz.prog gl 117 EP:=by
  refine⟨hE,?_⟩;intro R N w L0 vs ps x y hargs hlen hit vC hvs hgl hy;obtain rfl:=Option.some.inj (show some [PV.val (.list (.int .u8)) x]=some ps from hargs);obtain⟨v,_,rfl,h1,rfl⟩:=hvs;have h2:Az (λb=>R b/\N b) w (.list (.int .u8)) x [v]:=h1;have h3:=Az.step (B':=λk=>k<w.heap.size) (λ_ h=>h.1) (λ_ _=>rfl) (AV h2);obtain⟨p,len,cap,rfl⟩:∃p len cap,v= .slice p len cap:=by
    obtain⟨v1,c0,e1,⟨p,len,cap,rfl,_⟩,_⟩:=h2;cases e1;exact⟨_,_,_,rfl⟩
  refine(callsIn_wide.1 (Atl 3 (Nat.le_refl _) p len cap x y gl hC w h3 (λq hq=>⟨(hgl q hq).1,(hgl q hq).1,(hgl q hq).2.2⟩) hy)).mono ?_;rintro e w' ⟨rfl,hk⟩;refine⟨[.int .i64 y.1, .int .i64 y.2],rfl,⟨λb hb _=>hk.same b hb trivial,hk.gr⟩,λ_=>False,[],λ_ h=>h.elim,?_,?_⟩
  · trivial
  · intro s L B' hl _ _
    refine⟨[.val (.int .i64) y.1, .val (.int .i64) y.2],[],(show s=⟨s.sl,s.it++[],s.st⟩ by simp),rfl,?_,rfl,λi a m h=>by simp at h⟩;exact⟨_,_,rfl,rfl,_,_,rfl,rfl,rfl⟩
abbrev As1:List Sh:=[.lf .str none, .lf (.list (.cons .str (.cons (.list (.int .u8)) .nil))) none]
abbrev Aua:List Sh:=[.lf (.list (.int .u8)) (some 5), .lf (.int .i64) none]
def Tryz.Ap0:Go.Shelf.Ren:=⟨λ|178=>83|251=>125|252=>126|181=>162|184=>163|290=>164|324=>195|n=>n,λ|130=>194|9=>9|3=>3|75=>147|0=>0|93=>145|91=>143|131=>91|4=>4|37=>22|20=>20|80=>312|5=>5|n=>n,λ|14=>5|n=>n⟩
theorem Tryz.Bg2:Go.Proofs.LaysM.n178 Tryz.prog Tryz.Ap0:={
  mixed:=B3
  f178:=Tryz.func83.trans (congrArg some B3)
  f181:=Tryz.func162.trans (congrArg some B3)
  f184:=Tryz.func163.trans (congrArg some B3)
  f251:=Tryz.func125.trans (congrArg some B3)
  f252:=Tryz.func126.trans (congrArg some B3)
  f290:=Tryz.func164.trans (congrArg some B3)
  f324:=Tryz.func195.trans (congrArg some B3)
  t0:=Tryz.underlying0
  a0:=Tryz.isAgg0
  z0:=Tryz.sizeOf0
  v0:=Tryz.zeroValue0
  t3:=Tryz.underlying3
  a3:=Tryz.isAgg3
  z3:=Tryz.sizeOf3
  v3:=Tryz.zeroValue3
  t4:=Tryz.underlying4
  a4:=Tryz.isAgg4
  z4:=Tryz.sizeOf4
  v4:=Tryz.zeroValue4
  t9:=Tryz.underlying9
  a9:=Tryz.isAgg9
  z9:=Tryz.sizeOf9
  v9:=Tryz.zeroValue9
  t20:=Tryz.underlying20
  a20:=Tryz.isAgg20
  z20:=Tryz.sizeOf20
  v20:=Tryz.zeroValue20
  t37:=Tryz.underlying22
  a37:=Tryz.isAgg22
  z37:=Tryz.sizeOf22
  v37:=Tryz.zeroValue22
  t75:=Tryz.underlying147
  a75:=Tryz.isAgg147
  z75:=Tryz.sizeOf147
  v75:=Tryz.zeroValue147
  t91:=Tryz.underlying143
  a91:=Tryz.isAgg143
  z91:=Tryz.sizeOf143
  v91:=Tryz.zeroValue143
  t93:=Tryz.underlying145
  a93:=Tryz.isAgg145
  z93:=Tryz.sizeOf145
  v93:=Tryz.zeroValue145
  t130:=Tryz.underlying194
  a130:=Tryz.isAgg194
  z130:=Tryz.sizeOf194
  v130:=Tryz.zeroValue194
  t131:=Tryz.underlying91
  a131:=Tryz.isAgg91
  z131:=Tryz.sizeOf91
  v131:=Tryz.zeroValue91
  g14:=B3
  t5:=Tryz.underlying5
  a5:=Tryz.isAgg5
  z5:=Tryz.sizeOf5
  v5:=Tryz.zeroValue5
  t80:=Tryz.underlying312
  a80:=Tryz.isAgg312
  z80:=Tryz.sizeOf312
  v80:=Tryz.zeroValue312
  i0:=B3
  i3:=B3
  i4:=B3
  i5:=B3
  i9:=B3
  i20:=B3
  i37:=B3
  i75:=B3
  i80:=B3
  i91:=B3
  i93:=B3
  i130:=B3
  i131:=B3
  m14:=by kernel_rfl}
def Tryz.Asm:Go.Shelf.Ren:=⟨λ|180=>84|251=>125|252=>126|181=>162|184=>163|290=>164|324=>195|n=>n,λ|130=>194|37=>22|3=>3|75=>147|0=>0|93=>145|91=>143|131=>91|4=>4|20=>20|5=>5|80=>312|9=>9|n=>n,λ|14=>5|n=>n⟩
theorem Tryz.Bb2:Go.Proofs.LaysM.n180 Tryz.prog Tryz.Asm:={
  mixed:=B3
  f180:=Tryz.func84.trans (congrArg some B3)
  f181:=Tryz.func162.trans (congrArg some B3)
  f184:=Tryz.func163.trans (congrArg some B3)
  f251:=Tryz.func125.trans (congrArg some B3)
  f252:=Tryz.func126.trans (congrArg some B3)
  f290:=Tryz.func164.trans (congrArg some B3)
  f324:=Tryz.func195.trans (congrArg some B3)
  t0:=Tryz.underlying0
  a0:=Tryz.isAgg0
  z0:=Tryz.sizeOf0
  v0:=Tryz.zeroValue0
  t3:=Tryz.underlying3
  a3:=Tryz.isAgg3
  z3:=Tryz.sizeOf3
  v3:=Tryz.zeroValue3
  t4:=Tryz.underlying4
  a4:=Tryz.isAgg4
  z4:=Tryz.sizeOf4
  v4:=Tryz.zeroValue4
  t20:=Tryz.underlying20
  a20:=Tryz.isAgg20
  z20:=Tryz.sizeOf20
  v20:=Tryz.zeroValue20
  t37:=Tryz.underlying22
  a37:=Tryz.isAgg22
  z37:=Tryz.sizeOf22
  v37:=Tryz.zeroValue22
  t75:=Tryz.underlying147
  a75:=Tryz.isAgg147
  z75:=Tryz.sizeOf147
  v75:=Tryz.zeroValue147
  t91:=Tryz.underlying143
  a91:=Tryz.isAgg143
  z91:=Tryz.sizeOf143
  v91:=Tryz.zeroValue143
  t93:=Tryz.underlying145
  a93:=Tryz.isAgg145
  z93:=Tryz.sizeOf145
  v93:=Tryz.zeroValue145
  t130:=Tryz.underlying194
  a130:=Tryz.isAgg194
  z130:=Tryz.sizeOf194
  v130:=Tryz.zeroValue194
  t131:=Tryz.underlying91
  a131:=Tryz.isAgg91
  z131:=Tryz.sizeOf91
  v131:=Tryz.zeroValue91
  g14:=B3
  t5:=Tryz.underlying5
  a5:=Tryz.isAgg5
  z5:=Tryz.sizeOf5
  v5:=Tryz.zeroValue5
  t9:=Tryz.underlying9
  a9:=Tryz.isAgg9
  z9:=Tryz.sizeOf9
  v9:=Tryz.zeroValue9
  t80:=Tryz.underlying312
  a80:=Tryz.isAgg312
  z80:=Tryz.sizeOf312
  v80:=Tryz.zeroValue312
  i0:=B3
  i3:=B3
  i4:=B3
  i5:=B3
  i9:=B3
  i20:=B3
  i37:=B3
  i75:=B3
  i80:=B3
  i91:=B3
  i93:=B3
  i130:=B3
  i131:=B3
  m14:=by kernel_rfl}
def Tryz.Apj:Go.Shelf.Ren:=⟨λ|183=>86|n=>n,λ|130=>194|37=>22|0=>0|93=>145|3=>3|5=>5|91=>143|n=>n,λ|n=>n⟩
theorem Tryz.Bhk:Go.Proofs.LaysM.n183 Tryz.prog Tryz.Apj:={
  mixed:=B3
  f183:=Tryz.func86.trans (congrArg some B3)
  t0:=Tryz.underlying0
  a0:=Tryz.isAgg0
  z0:=Tryz.sizeOf0
  v0:=Tryz.zeroValue0
  t3:=Tryz.underlying3
  a3:=Tryz.isAgg3
  z3:=Tryz.sizeOf3
  v3:=Tryz.zeroValue3
  t37:=Tryz.underlying22
  a37:=Tryz.isAgg22
  z37:=Tryz.sizeOf22
  v37:=Tryz.zeroValue22
  t93:=Tryz.underlying145
  a93:=Tryz.isAgg145
  z93:=Tryz.sizeOf145
  v93:=Tryz.zeroValue145
  t130:=Tryz.underlying194
  a130:=Tryz.isAgg194
  z130:=Tryz.sizeOf194
  v130:=Tryz.zeroValue194
  t5:=Tryz.underlying5
  a5:=Tryz.isAgg5
  z5:=Tryz.sizeOf5
  v5:=Tryz.zeroValue5
  t91:=Tryz.underlying143
  a91:=Tryz.isAgg143
  z91:=Tryz.sizeOf143
  v91:=Tryz.zeroValue143
  i0:=B3
  i3:=B3
  i5:=B3
  i37:=B3
  i91:=B3
  i93:=B3
  i130:=by kernel_rfl}
theorem Tryz.Bi7:Tryz.f82.ntmps=17:=B3
theorem Tryz.Bi1:Tryz.f40.ntmps=48:=B3
theorem cG{l m r:LB}(h:Ds l m=some r):r=l++m/\l.length+m.length<=17179869184:=by
  unfold Ds LIM at h;split at h
  · cases h;exact⟨rfl,by assumption⟩
  · cases h
theorem Am3(B b:Nat)(bs l:List UInt8)(w:World)(h:Lib.IsBuffer 145 5 B b (Lib.byteCells bs) w)(hf:bs=[]->w.cell? ⟨b,0,none⟩=some (.slice none 0 0)/\1<=l.length/\l.length<=64)
    (hBw:B<=w.heap.size) (hlim:bs.length+l.length<=140737488355328):
    Calls Tryz.prog 83 #[.pointer (some ⟨b,0,none⟩),sv l] w λe w'=>e= .returned (.tuple #[.int .i64 l.length, .nilIface])/\Lib.IsBuffer 145 5 B b (Lib.byteCells (bs++l)) w'/\Below B w w'/\Rf.wI b w w':=
  Rf.Aqc Tryz.Bg2 B b bs l w h hf hBw hlim
theorem pB{A:Nat->Prop}(B b:Nat)(bs l:List UInt8)(v:Value)(w:World)(h:Lib.IsBuffer 145 5 B b (Lib.byteCells bs) w)(hBw:B<=w.heap.size)(hs:Rf.Src A w l v)(hA:¬A b)(hlim:bs.length+l.length<=140737488355328):
    Calls Tryz.prog 84 #[.pointer (some ⟨b,0,none⟩),v] w λe w'=>e= .returned (.tuple #[.int .i64 l.length, .nilIface])/\Lib.IsBuffer 145 5 B b (Lib.byteCells (bs++l)) w'/\Below B w w'/\Lib.OthersKept 5 (some b) w w':=
  Rf.Apo Tryz.Bb2 B b bs l v w h hBw hs hA hlim
theorem Ax1(B b:Nat)(bs:List Value)(w:World)(h:Lib.IsBuffer 145 5 B b bs w):
    Calls Tryz.prog 86 #[.pointer (some ⟨b,0,none⟩)] w λe w'=>∃v,e= .returned v/\w'.ownsRow B 5 1 v bs.length bs/\∃n,w'=w.drewN n:=
  Any.Buffer_Bytes Tryz.Bhk B b bs w h
theorem Acb{l id l':LB}{k:Int}(h:vO l id k=some l'):∃c,l'=l++id++c:=by
  obtain⟨⟨c,e⟩,_,h⟩:=Go.Lv.bind_some h;obtain⟨p,hp,h⟩:=Go.Lv.bind_some h;obtain⟨rfl,_⟩:=cG hp;obtain⟨rfl,_⟩:=cG h;exact⟨c,rfl⟩
set_option maxHeartbeats 2000000 in
set_option maxRecDepth 100000 in
theorem Aee(n:Nat)(gl:List (Nat×List Value))(hC:ConOk Tryz.prog gl 62 ⟨[.lf (.int .u64) none, .lf (.int .i64) none],[.lf (.list (.int .u8)) (some 5), .lf (.int .i64) none],λx=>Qi x.1 x.2⟩)
    (B b:Nat) (l id l':LB) (k:Int) (W:World) (h:Lib.IsBuffer 145 5 B b (Lib.byteCells l) W) (hf:l=[]->W.cell? ⟨b,0,none⟩=some (.slice none 0 0)/\1<=id.length/\id.length<=64)
    (hBw:B<=W.heap.size) (hgl:GlOk gl (λ_=>True) W) (hy:vO l id k=some l'):
    CallsIn Fence.wide n Tryz.prog 82 #[sv id, .int .i64 k, .pointer (some ⟨b,0,none⟩)] W λe W'=>e= .returned (.tuple #[])/\Lib.IsBuffer 145 5 B b (Lib.byteCells l') W'/\Below B W W'/\Lib.OthersKept 5 (some b) W W':=by
  obtain⟨⟨c,e⟩,hle,hy⟩:=Go.Lv.bind_some hy;obtain⟨p,hp,hy⟩:=Go.Lv.bind_some hy;obtain⟨rfl,q1⟩:=cG hp;obtain⟨rfl,q2⟩:=cG hy;rw[List.length_append]at q2;refine callsIn_of_wp Tryz.func82 rfl trivial ?_ rfl;simp only[Tryz.Bi7,List.size_toArray,List.length_cons,List.length_nil,Nat.reduceAdd,Nat.reduceSub,Array.replicate_succ,Array.replicate_zero,List.push_toArray,List.append_toArray,List.nil_append,List.cons_append];have hz:iv (Ae k:UInt64)= .int .u64 (IntKind.u64.wrap k):=congrArg (Value.int .u64) (GI.toZ_ofZ _);have hcall:=Rf.Bbk hC (W:=W) (x:=Ae k) (n:=4) hgl hle;rw[hz]at hcall
  gi_wp2
  refine⟨trivial,(λh=>nomatch h),(callsIn_wide.2 hcall).mono ?_⟩;rintro e1 W1 ⟨v,rfl,hk,hs⟩;have hb1:=Rf.G_ hk;have h1:=Rf.qx h hb1.block;have hlt:=h.lt;have hc1:W1.cell? ⟨b,0,none⟩=W.cell? ⟨b,0,none⟩:=World.cell?_of_block (hb1.block b hlt)
  gi_wp2
  refine⟨trivial,(λh=>nomatch h),(callsIn_wide.2 (Am3 B b l id W1 h1 (λe=>⟨hc1.trans (hf e).1,(hf e).2⟩) (Nat.le_trans hBw hb1.size) F0)).mono ?_⟩;rintro e2 W2 ⟨rfl,h2,hb2,hr2⟩;have hs2:Rf.Src (λk=>W.heap.size<=k/\k<W1.heap.size) W2 c v:=hs.keep λj hj=>hr2 j hj.2 (λe=>absurd hlt F0) λad n c hc e=>by
    rw[hc1]at hc;have:=Rf.Bev h hc;omega
  gi_wp2
  refine⟨trivial,(λh=>nomatch h),(callsIn_wide.2 (pB B b (l++id) c v W2 h2 (Nat.le_trans hBw (Nat.le_trans hb1.size hb2.size)) hs2 (λh=>by omega) (by rw[List.length_append];omega))).mono ?_⟩;rintro e3 W3 ⟨rfl,h3,hb3,ho3⟩
  gi_wp2
  go_end0
  exact⟨rfl,h3,((hb1.mono hBw).trans hb2).trans hb3,(((Lib.OthersKept.refl _ _ W).below hb1).trans (Rf.Bqg h1 hr2)).trans ho3⟩
theorem pM{gl:List (Nat×List Value)}{w W:World}{B:Nat}(h:GlOk gl (λ_=>True) w)(hB:w.heap.size<=B)(hb:Below B w W):GlOk gl (λ_=>True) W:=
  λp hp=>⟨Nat.lt_of_lt_of_le (h p hp).1 hb.size,trivial,by rw[hb.block _ (Nat.lt_of_lt_of_le (h p hp).1 hB)];exact(h p hp).2.2⟩
set_option maxHeartbeats 4000000 in
set_option maxRecDepth 100000 in
theorem Bok (n:Nat)(gl:List (Nat×List Value))(hCk:ConOk Tryz.prog gl 81 ⟨[.lf .str none, .lf (.list (.cons .str (.cons (.list (.int .u8)) .nil))) none],[.lf (.int .i64) none],λx=>OX x.1 x.2⟩)(hSz:ConOk Tryz.prog gl 85 ⟨[.lf (.list (.cons .str (.cons (.list (.int .u8)) .nil))) none],[.lf (.int .i64) none],iM⟩)(hLe:ConOk Tryz.prog gl 62 ⟨[.lf (.int .u64) none, .lf (.int .i64) none],[.lf (.list (.int .u8)) (some 5), .lf (.int .i64) none],λx=>Qi x.1 x.2⟩)
    (w:World) (a:LB) (bl:List (LB×LB×Unit)) (vl:Value) (hv:Az (λk=>k<w.heap.size) w (.list Rf.CH) bl [vl]) (hgl:GlOk gl (λ_=>True) w) (y:LB×Int) (hy:nM a bl=some y):
    CallsIn Fence.wide n Tryz.prog 40 #[sv a,vl] w λe w'=>∃v,e= .returned (.tuple #[v, .int .i64 y.2])/\KeepN (λ_=>True) w w'/\∃o,(Mob.own 1 5 v (Lib.byteCells y.1)).holds o w'/\∀k,o=some k->w.heap.size<=k/\k<w'.heap.size:=by
  unfold nM at hy;obtain⟨e,hck,hy⟩:=Go.Lv.bind_some hy;have hcall:=Rf.Baw (s:=a) hCk hv hgl hck;refine callsIn_of_wp Tryz.func40 rfl trivial ?_ rfl;simp only[Tryz.Bi1,List.size_toArray,List.length_cons,List.length_nil,Nat.reduceAdd,Nat.reduceSub,Array.replicate_succ,Array.replicate_zero,List.push_toArray,List.append_toArray,List.nil_append,List.cons_append]
  gi_wp2
  refine⟨trivial,(λh=>nomatch h),(callsIn_wide.2 hcall).mono ?_⟩;rintro e1 w1 ⟨rfl,hk1⟩;have hlim:e=0->bl.length<=20:=λhe=>by
    by_cases hg:Ei (Ac bl) 20=true
    · have h4:OX a bl=some 4:=by unfold OX fH;rw[if_pos hg]
      rw[h4,he]at hck;cases hck
    · have:¬((20:Int)<(bl.length:Int)):=λh=>hg (by simpa [Ei,Ac,GI.toZ]using h)
      omega
  have e5:Bd e 0=(e !=0):=rfl;rw[e5]at hy;by_cases he:e=0
  case neg=>
    rw[if_pos (by simpa using he)]at hy;cases hy
    gi_wp2
    go_ret2
    exact⟨_,rfl,hk1,none,Rf.Aon,λk h=>nomatch h⟩
  have hlim:=hlim he;subst he;rw[if_neg B7]at hy
  gi_wp2
  obtain⟨n1,hsz,hy⟩:=Go.Lv.bind_some hy;obtain⟨f,hf,hy⟩:=Go.Lv.bind_some hy;obtain⟨g,hg,hy⟩:=Go.Lv.bind_some hy;obtain⟨h,hh,hy⟩:=Go.Lv.bind_some hy;cases hy;have hb1:=Rf.G_ hk1;have hI0:=Lib.fresh_isBuffer 145 5 w1;have hc0:(w1.alloc (.cells #[.slice none 0 0, .int .i64 0, .int .i8 0] 145)).cell? ⟨w1.heap.size,0,none⟩=some (.slice none 0 0):=by rw[Lib.cell_of_heap (World.alloc_heap_new w1 _)];rfl
  have hb0:=(Below.refl w1.heap.size w1).alloc (Nat.le_refl _) (.cells #[.slice none 0 0, .int .i64 0, .int .i8 0] 145);generalize(w1.alloc (.cells #[.slice none 0 0, .int .i64 0, .int .i8 0] 145))=W0 at hI0 hc0 hb0⊢;have hbw0:=(hb1.trans (hb0.mono hb1.size));have hv0:Az (λk=>k<w.heap.size) W0 (.list Rf.CH) bl [vl]:=Az.step (λ_ h=>h) (λk hk=>hbw0.block k hk) hv;refine⟨trivial,(λh=>nomatch h),(callsIn_wide.2 (Rf.Az9 hSz hv0 (pM hgl (Nat.le_refl _) hbw0) hsz)).mono ?_⟩;rintro e2 W2 ⟨rfl,hk2⟩;have hb2:=Rf.G_ hk2;have hI2:=Rf.qx hI0 hb2.block;have hc2:W2.cell? ⟨w1.heap.size,0,none⟩=some (.slice none 0 0):=(World.cell?_of_block (hb2.block _ hI0.lt)).trans hc0;have hbw2:Below w1.heap.size w1 W2:=hb0.trans (hb2.mono hb0.size);clear hI0 hc0 hb0 hbw0 hv0 hb2 hk2
  gi_wp2
  refine⟨trivial,(λh=>nomatch h),(Aee (n-1) gl hLe w1.heap.size w1.heap.size [] [82,73,70,70] f n1 W2 hI2 (λ_=>⟨hc2,B6,B6⟩) hbw2.size (pM hgl (Nat.le_refl _) (hb1.trans (hbw2.mono hb1.size))) hf).mono ?_⟩;rintro e3 W3 ⟨rfl,hI3,hb3,ho3⟩;obtain⟨c3,hf3⟩:=Acb hf;have hfn:f≠ []:=by rw[hf3];simp
  have sJ:=hbw2.trans hb3;obtain⟨rfl,q1⟩:=cG hg
  gi_wp2
  refine⟨trivial,(λh=>nomatch h),(callsIn_wide.2 (Am3 _ _ f a W3 hI3 (λe=>absurd e hfn) sJ.size F0)).mono ?_⟩;rintro e4 W4 ⟨rfl,hI4,hb4,hr4⟩;have Bj9:=sJ.trans hb4;have hgn:f++a≠ []:=by simp[hfn]
  clear hI2 hc2 hI3 hb3 ho3 hr4 hbw2 sJ hb4 hf3;obtain⟨v1,c0,e1,⟨p,len,cap,rfl,hl1,hl2,hl3,hl4⟩,hall⟩:=(show∃v c0,[vl]=[v]/\Rd _ w 2 v c0/\Cm (Az _ w Rf.CH) bl c0 from hv);cases e1;have hlen:bl.length=len:=by
    have:=Cm.len (z:=2) (λx c h=>Rf.Bdy h) hall;omega
  gi_wp2
  refine Ahs (bl.length+1) (λq a W=>∃(i:Nat) (l:LB) (z:Int) (x0 x1 x2 x3 x4 x5 x6 x9 x10 x11 x12 x13 x14 x15 x16 x17 x18 x19 x20 x21 x22 x23 x27 x28 x29 x30 x31 x32 x33 x34 x35 x36 x37 x38 x39 x40 x41 x42 x43 x44 x45 x46 x47:Value),a={tmps:= #[x0,x1,x2,x3,x4,x5,x6, .pointer (some ⟨w1.heap.size,0,none⟩), .func (.func 82) #[] #[.pointer (some ⟨w1.heap.size,0,none⟩)],x9,x10,x11,x12,x13,x14,x15,x16,x17,x18,x19,x20,x21,x22,x23, .slice p len cap, .int .i64 len, .int .i64 z,x27,x28,x29,x30,x31,x32,x33,x34,x35,x36,x37,x38,x39,x40,x41,x42,x43,x44,x45,x46,x47],defers:=[]}/\z=(i:Int)/\q+i=bl.length+1/\i<=bl.length/\
    Lib.IsBuffer 145 5 w1.heap.size w1.heap.size (Lib.byteCells l) W/\l≠ []/\Below w1.heap.size w1 W/\E8 (bl.drop i) l=some h) ?_ ?_ ?_
  · rintro a W ⟨i,l,z,x0,x1,x2,x3,x4,x5,x6,x9,x10,x11,x12,x13,x14,x15,x16,x17,x18,x19,x20,x21,x22,x23,x27,x28,x29,x30,x31,x32,x33,x34,x35,x36,x37,x38,x39,x40,x41,x42,x43,x44,x45,x46,x47,_,_,hq,hi,_⟩
    omega
  · rintro q a W ⟨i,l,_,x0,x1,x2,x3,x4,x5,x6,x9,x10,x11,x12,x13,x14,x15,x16,x17,x18,x19,x20,x21,x22,x23,x27,x28,x29,x30,x31,x32,x33,x34,x35,x36,x37,x38,x39,x40,x41,x42,x43,x44,x45,x46,x47,rfl,rfl,hq,hi,hI,hl,hb,hr⟩
    by_cases hlt:i<bl.length
    · obtain⟨c,hc⟩:∃c,bl[i]? =some c:=⟨_,List.getElem?_eq_getElem hlt⟩
      have hd:bl.drop i=c::bl.drop (i+1):=by
        rw[List.drop_eq_getElem_cons hlt];rw[List.getElem?_eq_getElem hlt]at hc;rw[Option.some.inj hc]
      rw[hd]at hr;simp only[E8]at hr;obtain⟨l1,r1,hr⟩:=Go.Lv.bind_some hr;obtain⟨l2,r2,hr⟩:=Go.Lv.bind_some hr;obtain⟨z,r3,hr⟩:=Go.Lv.bind_some hr;obtain⟨l3,r4,hr⟩:=Go.Lv.bind_some hr;obtain⟨vd,g1,g2,g3⟩:=Rf.Ahc hall hc;obtain⟨bk,off,arr,T,fr,rfl,hbk,hheap,hsz2,hcells⟩:=hl4 F0;have hsrc:=Rf.Bde g3;obtain⟨pd,_,TF,rfl,rfl,d2,d3⟩:=id hsrc;have Bka:Below w.heap.size w W:=hb1.trans (hb.mono hb1.size);have hW:W.heap[bk]? =some (.cells arr T fr):=(Bka.block _ hbk).trans hheap;have ha0:W.cell? ⟨bk,off+i*2,none⟩=some (sv c.1):=by rw[Lib.cell_of_heap hW,Nat.mul_comm i 2];exact(hcells (2*i) F0).trans g1
      have ha1:W.cell? ⟨bk,off+i*2+1,none⟩=some (.slice pd c.2.1.length TF):=by rw[Lib.cell_of_heap hW,Nat.mul_comm i 2,Nat.add_assoc];exact(hcells (2*i+1) F0).trans g2
      gi_wp2
      have hIa:=Rf.qx hI (λk hk=>Below.heap_alloc W (.cells #[sv c.1, .slice pd c.2.1.length TF] 82) k hk);have hka:(W.alloc (.cells #[sv c.1, .slice pd c.2.1.length TF] 82)).heap[W.heap.size]? =some (.cells #[sv c.1, .slice pd c.2.1.length TF] 82 (0,0)):=World.alloc_heap_new W _;have hba:=hb.alloc hb.size (.cells #[sv c.1, .slice pd c.2.1.length TF] 82);have hkb:W.heap.size≠w1.heap.size:=λe=>absurd hI.lt F0;refine⟨trivial,(λh=>nomatch h),(Aee (n-1) gl hLe _ _ l c.1 l1 _ _ hIa (λe=>absurd e hl) hba.size (pM hgl (Nat.le_refl _) (hb1.trans (hba.mono hb1.size))) r1).mono ?_⟩;rintro e5 W5 ⟨rfl,hI5,hb5,ho5⟩;have hk5:=ho5 _ _ hka (λe=>hkb (Option.some.inj e)) (λc fz e=>by cases e);have c5:W5.cell? ⟨W.heap.size,1,none⟩=some (.slice pd c.2.1.length TF):=by rw[Lib.cell_of_heap hk5];rfl
      have hb5':=hba.trans hb5;obtain⟨rfl,q2⟩:=cG r2;obtain⟨rfl,q3⟩:=cG r4;obtain⟨c1,hl1⟩:=Acb r1
      gi_wp2
      refine⟨trivial,(λh=>nomatch h),(callsIn_wide.2 (pB (A:=λk=>k<w.heap.size) _ _ l1 c.2.1 _ W5 hI5 hb5'.size (hsrc.keep λk hk=>(hb1.trans (hb5'.mono hb1.size)).block k hk) (λh=>absurd hb1.size F0) F0)).mono ?_⟩;rintro e6 W6 ⟨rfl,hI6,hb6,ho6⟩;have hk6:=ho6 _ _ hk5 (λe=>hkb (Option.some.inj e)) (λc fz e=>by cases e);have c6:W6.cell? ⟨W.heap.size,1,none⟩=some (.slice pd c.2.1.length TF):=by rw[Lib.cell_of_heap hk6];rfl
      have hb6':=hb5'.trans hb6;clear hIa hka hba hI5 hb5 ho5 hk5 c5 hb5' hb6 ho6 hk6 ha0 ha1 hW;have hbit:bits BinOp.and IntKind.i64 (c.2.1.length:Int) 1=((c.2.1.length %2:Nat):Int):=Rf.Avc c.2.1.length F0;obtain⟨m,hm2⟩:∃m:Nat,m=c.2.1.length %2:=⟨_,rfl⟩;rw[<-hm2]at hbit;have Bcu:Fb (Ac c.2.1) 1=(m:Int):=hbit;rw[Bcu]at r3;have hm1:m<=1:=F0
      obtain rfl:z=List.replicate m 0:=by
        unfold og at r3;split at r3
        · cases r3;rfl
        · cases r3
      obtain⟨i0,hi0,hz0,hz1,hz2⟩:=info_parts Tryz.Bb2.i5;obtain⟨M,hmk,hms⟩:=Rf.Akw (P:=Tryz.prog) (TB:=22) (U8:=5) Tryz.underlying22 hi0 hz0 hz1 hz2 m hm1;clear hm2 Bcu r3 hi0 hz0 hz1 hz2
      gi_wp2
      refine⟨trivial,(λh=>nomatch h),(callsIn_wide.2 (pB (A:=λk=>k=W6.heap.size) _ _ (l1++c.2.1) (List.replicate m 0) _ _ (Rf.qx hI6 (λk hk=>Below.heap_alloc W6 (.cells M 5) k hk)) (hb6'.alloc hb6'.size (.cells M 5)).size (hms W6) (λe=>absurd hI6.lt F0) (by rw[List.length_append];rw[List.length_append]at q3;omega))).mono ?_⟩;rintro e8 W8 ⟨rfl,hI8,hb8,ho8⟩;have hb8':=(hb6'.alloc hb6'.size (.cells M 5)).trans hb8
      gi_wp2
      exact⟨i+1,l1++c.2.1++List.replicate m 0,_,_,_,_,_,_,_,_,_,_,_,_,_,_,_,_,_,_,_,_,_,_,_,_,_,_,_,_,_,_,_,_,_,_,_,_,_,_,_,_,_,_,_,_,rfl,F0,F0,F0,hI8,by simp[hl1,hl],hb8',hr⟩
    · obtain rfl:i=bl.length:=F0
      rw[List.drop_length]at hr;obtain rfl:l=h:=Option.some.inj hr
      gi_wp2
      refine⟨trivial,(λh=>nomatch h),(callsIn_wide.2 (Ax1 _ _ _ W hI)).mono ?_⟩;rintro e9 W9 ⟨v,rfl,hown,n9,rfl⟩
      gi_wp2
      go_ret2
      have hbf:=(hb1.trans (hb.mono hb1.size)).trans (Rf.Ahm _ W n9);obtain⟨o,ho1,ho2⟩:=Rf.Ak7 hown;exact⟨_,rfl,Rf.Aym hbf,o,ho1,λk hk=>⟨Nat.le_trans hb1.size (ho2 k hk).1,(ho2 k hk).2⟩⟩
  · exact⟨0,f++a,_,_,_,_,_,_,_,_,_,_,_,_,_,_,_,_,_,_,_,_,_,_,_,_,_,_,_,_,_,_,_,_,_,_,_,_,_,_,_,_,_,_,_,_,rfl,rfl,F0,Nat.zero_le _,hI4,hgn,Bj9,by simpa using hh⟩
noncomputable def mP:Con:=⟨As1,Aua,λx=>nM x.1 x.2⟩
theorem Aaa{gl:List (Nat×List Value)}(hE:Ent Tryz.prog 40)(hCk:ConOk Tryz.prog gl 81 ⟨[.lf .str none, .lf (.list (.cons .str (.cons (.list (.int .u8)) .nil))) none],[.lf (.int .i64) none],λx=>OX x.1 x.2⟩)(hSz:ConOk Tryz.prog gl 85 ⟨[.lf (.list (.cons .str (.cons (.list (.int .u8)) .nil))) none],[.lf (.int .i64) none],iM⟩)(hLe:ConOk Tryz.prog gl 62 ⟨[.lf (.int .u64) none, .lf (.int .i64) none],[.lf (.list (.int .u8)) (some 5), .lf (.int .i64) none],λx=>Qi x.1 x.2⟩):ConOk Tryz.prog gl 40 mP:=by
  refine⟨hE,?_⟩;rintro R N w L0 vs ps ⟨a,bl⟩ y hargs hlen hit vC hvs hgl hy;obtain rfl:=Option.some.inj (show some [PV.val .str a,PV.val (.list Rf.CH) bl]=some ps from hargs);obtain⟨v0,_,rfl,h0,v,_,rfl,h1,rfl⟩:=hvs;obtain rfl:v0=sv a:=by cases(show [v0]=[sv a]from h0);rfl
  have h2:Az (λb=>R b/\N b) w (.list Rf.CH) bl [v]:=h1;have h3:=Az.step (B':=λk=>k<w.heap.size) (λ_ h=>h.1) (λ_ _=>rfl) (AV h2);refine(callsIn_wide.1 (Bok 3 gl hCk hSz hLe w a bl v h3 (λq hq=>⟨(hgl q hq).1,trivial,(hgl q hq).2.2⟩) y hy)).mono ?_;rintro e w' ⟨u,rfl,hk,o,ho1,ho2⟩;refine⟨[u, .int .i64 y.2],rfl,⟨λb hb _=>hk.same b hb trivial,hk.gr⟩,λ_=>False,[.own 1 5 u (Lib.byteCells y.1)],λ_ h=>h.elim,?_,?_⟩
  · exact⟨o,ho1,λb hb=>⟨λh=>h.elim id λh=>absurd (ho2 b hb).1 (by have:=h.1;omega),(ho2 b hb).2⟩,trivial⟩
  · intro s L B' hl _ _
    refine⟨[.own s.it.length, .val (.int .i64) y.2],[.arr 5 (.int .u8) y.1],rfl,rfl,?_,rfl,λi a m h1 h2=>?_⟩
    · refine⟨_,_,rfl,⟨1,5,u,Lib.byteCells y.1,?_,rfl⟩,_,_,rfl,rfl,rfl⟩
      rw[<-hl];simp
    · cases i with
      |zero=>
        cases h1;cases h2;exact⟨rfl,rfl,Rf.Afi y.1⟩
      |succ i=>simp at h1
end Go.Proofs.YtjjpijoihenabaaGreatDoor
