/- A part of a proof (see the text that ends in Proof). No conditions. -/
import Derived.Test.YtjjeabieimfcpaaGreatDoorSnBB
import Derived.Test.YtjjeabieimfcpaaGreatDoorSnPA
import Derived.Test.YtjjeabieimfcpaaGreatDoorProg
import Derived.KernelRfl
import Derived.RangeFuncKeeps
import Derived.RangeFuncWrites
import Derived.Shelf.Abstract
import Derived.OwnWalkIn
import Derived.TacticsInMore
set_option linter.unusedVariables false
set_option linter.unusedSimpArgs false
namespace Go.Proofs.YtjjeabieimfcpaaGreatDoor
open Go.RowKit Go.Shelf Go Go.Rx Go.Lv Go.Pl
attribute [local go_sem] Oper.semAt_some
noncomputable def NB:Con:=⟨[.lf (.int .i64) none, .lf (.int .i64) none],[.lf (.list (.int .i64)) (some 3), .lf (.int .i64) none],λx=>La x.1 x.2⟩
noncomputable def Gl(gl:List (Nat×List Value)):Tab:=⟨[(114,NB)],gl,false⟩
noncomputable abbrev Kh{R:Type}(gl:List (Nat×List Value)):IW R:=Ke Tryz.prog (Gl gl) 8 []
noncomputable def gJ:Code:=fB Tryz.f181
noncomputable def bW:Code:=cB gJ
noncomputable def aK:Code:=cB bW
noncomputable def TC:Code:=cA (cA (cB aK))
noncomputable def bO:Code:=cB (cB TC)
noncomputable def UA:Code:=cA (cA bO)
noncomputable def PF:Code:=cB (cB UA)
noncomputable def aA:Code:=cA gJ
noncomputable def aX:Code:=cA bW
noncomputable def ZZ:Code:=cA aK
noncomputable def bN:Code:=cA TC
noncomputable def aF:Code:=cA (cB TC)
noncomputable def aC:Code:=cB bO
noncomputable def bT:Code:=cA UA
noncomputable def aP:Code:=cA (cB UA)
noncomputable def bJ:Code:=cB PF
noncomputable def UI:List Oper:=cO (cA (cA PF))
noncomputable def UH:Code:=cB (cA PF)
noncomputable def GL:List Oper:=UI.take 6
noncomputable def Tt:Oper:=qW UI 6
noncomputable def AP:Oper:=qW UI 7
theorem dC:Tryz.f181.body=some (.seq aA (.seq aX (.seq ZZ (.block 0 (.loop (.seq bN (.seq aF (.seq (.block 1 (.seq bT (.seq aP (.seq (.seq (.region 6 (GL++Tt::[AP]).toArray false) UH) bJ)))) aC)))))))):=by kernel_rfl
theorem kN:Tryz.f181.ntmps=43:=by kernel_rfl
theorem eW:Tt.guard=none:=by kernel_rfl
theorem gC:Tt.dst=some 39:=by kernel_rfl
theorem VP:Tt.op= .call ⟨.value (.tmp 33), #[.tmp 38], #[28]⟩:=by kernel_rfl
abbrev Dj(a f h:Int)(b:LX):PV:= .agg [vi a,vi f,vi h,vw b]
abbrev Ni(y:Value)(v:PV)(ls:LI)(i x:Int):Slots:=[(0, .cst y),(1, .rptr v),(5,vi x),(21,vl ls),(22,vi (Ac ls)),(23,vi i)]
abbrev Qv(lv:List Nat):K (Nat×S):=kC lv []
abbrev Cf(l:Nat):Value:= .func (.yield l) #[] #[]
theorem iO(gl:List (Nat×List Value))(l:Nat)(a f h:Int)(b:LX):ex Tryz.prog (Gl gl) (Kh gl) 43 aA .d (kC [0,1,3] [⟨3,[], .ro (.int .i64)⟩]) ⟨[(0, .cst (Cf l)),(1, .rptr (Dj a f h b))],[],[]⟩=
    Option.bind (Dy (Bl a 0)) λ_=>Option.bind (La h (Jp (Ac b) a)) λp=>some (0,⟨[(0, .cst (Cf l)),(1, .rptr (Dj a f h b)),(3,vl p.1)],[],[]⟩):=by kernel_rfl
theorem jN(gl:List (Nat×List Value))(l:Nat)(v:PV)(ls:LI):ex Tryz.prog (Gl gl) (Kh gl) 43 aX .d (Qv [0,1,3,5]) ⟨[(0, .cst (Cf l)),(1, .rptr v),(3,vl ls)],[],[]⟩=some (0,⟨[(0, .cst (Cf l)),(1, .rptr (QF [] v)),(3,vl ls),(5,vi 0)],[],[]⟩):=by kernel_rfl
theorem jY(gl:List (Nat×List Value))(l:Nat)(a f h:Int)(b:LX)(ls:LI):ex Tryz.prog (Gl gl) (Kh gl) 43 ZZ .d (Qv [0,1,5,21,22,23]) ⟨[(0, .cst (Cf l)),(1, .rptr (Dj a f h b)),(3,vl ls),(5,vi 0)],[],[]⟩=
    some (0,⟨Ni (Cf l) (Dj a f h b) ls 0 0,[],[]⟩):=by kernel_rfl
theorem iL(gl:List (Nat×List Value))(l:Nat)(a f h:Int)(b:LX)(ls:LI)(i x:Int):ex Tryz.prog (Gl gl) (Kh gl) 43 bN .d (Qv [0,1,5,21,22,23,24]) ⟨Ni (Cf l) (Dj a f h b) ls i x,[],[]⟩=
    some (0,⟨Ni (Cf l) (Dj a f h b) ls i x++[(24,vt (Cq i (Ac ls)))],[],[]⟩):=by kernel_rfl
theorem bD(gl:List (Nat×List Value))(l:Nat)(a f h:Int)(b:LX)(ls:LI)(i x:Int)(t:Bool):ex Tryz.prog (Gl gl) (Kh gl) 43 aF .d (Qv [0,1,5,21,22,23]) ⟨Ni (Cf l) (Dj a f h b) ls i x++[(24,vt t)],[],[]⟩=
    if t=true then some (0,⟨Ni (Cf l) (Dj a f h b) ls i x,[],[]⟩)else some (2,⟨Ni (Cf l) (Dj a f h b) ls i x,[],[]⟩):=by kernel_rfl
theorem jG(gl:List (Nat×List Value))(l:Nat)(a f h:Int)(b:LX)(ls:LI)(i x:Int):ex Tryz.prog (Gl gl) (Kh gl) 43 bT .d (Qv [0,1,5,7,21,22,23]) ⟨Ni (Cf l) (Dj a f h b) ls i x,[],[]⟩=
    Option.bind (Ah ls i) λn=>some (0,⟨[(0, .cst (Cf l)),(1, .rptr (Dj a f h b)),(5,vi x),(7,vi n),(21,vl ls),(22,vi (Ac ls)),(23,vi i)],[],[]⟩):=by kernel_rfl
theorem kB(gl:List (Nat×List Value))(l:Nat)(a f h:Int)(b:LX)(ls:LI)(i x n:Int):ex Tryz.prog (Gl gl) (Kh gl) 43 aP .d (Qv [0,1,5,8,21,22,23]) ⟨[(0, .cst (Cf l)),(1, .rptr (Dj a f h b)),(5,vi x),(7,vi n),(21,vl ls),(22,vi (Ac ls)),(23,vi i)],[],[]⟩=
    some (0,⟨[(0, .cst (Cf l)),(1, .rptr (Dj a f h b)),(5,vi x),(8,vi (Aa x (Di n a))),(21,vl ls),(22,vi (Ac ls)),(23,vi i)],[],[]⟩):=by kernel_rfl
abbrev bS(y:Value)(v:PV)(ls:LI)(i x z:Int)(p:LX):Slots:=[(0, .cst y),(1, .rptr v),(5,vi x),(8,vi z),(21,vl ls),(22,vi (Ac ls)),(23,vi i),(33, .cst y),(38,vw p)]
theorem kG(gl:List (Nat×List Value))(l:Nat)(a f h:Int)(b:LX)(ls:LI)(i x z:Int):BR Tryz.prog (Gl gl) (Kh gl) 43 (GL++Tt::[AP]).toArray GL ⟨[(0, .cst (Cf l)),(1, .rptr (Dj a f h b)),(5,vi x),(8,vi z),(21,vl ls),(22,vi (Ac ls)),(23,vi i)],[],[]⟩ (iI [0,1,5,8,21,22,23,33,38] [] 0)=
    Option.bind (Dd b x z) λp=>some (0,⟨bS (Cf l) (Dj a f h b) ls i x z p,[],[]⟩):=by kernel_rfl
theorem kD(gl:List (Nat×List Value))(l:Nat)(a f h:Int)(b:LX)(ls:LI)(i x z:Int)(p:LX)(t:Bool):BR Tryz.prog (Gl gl) (Kh gl) 43 (GL++Tt::[AP]).toArray [AP] ⟨cS (bS (Cf l) (Dj a f h b) ls i x z p) 39 (vt t),[],[]⟩ (iI [0,1,5,8,21,22,23,40] [] 0)=
    some (0,⟨[(0, .cst (Cf l)),(1, .rptr (Dj a f h b)),(5,vi x),(8,vi z),(21,vl ls),(22,vi (Ac ls)),(23,vi i),(40,vt (!t))],[],[]⟩):=by kernel_rfl
theorem iW(gl:List (Nat×List Value))(l:Nat)(a f h:Int)(b:LX)(ls:LI)(i x z:Int)(t:Bool):ex Tryz.prog (Gl gl) (Kh gl) 43 UH .d (Qv [0,1,5,8,21,22,23]) ⟨[(0, .cst (Cf l)),(1, .rptr (Dj a f h b)),(5,vi x),(8,vi z),(21,vl ls),(22,vi (Ac ls)),(23,vi i),(40,vt t)],[],[]⟩=
    if t=true then some (1,⟨[(0, .cst (Cf l)),(1, .rptr (Dj a f h b)),(5,vi x),(8,vi z),(21,vl ls),(22,vi (Ac ls)),(23,vi i)],[],[]⟩)else some (0,⟨[(0, .cst (Cf l)),(1, .rptr (Dj a f h b)),(5,vi x),(8,vi z),(21,vl ls),(22,vi (Ac ls)),(23,vi i)],[],[]⟩):=by kernel_rfl
theorem iS(gl:List (Nat×List Value))(l:Nat)(a f h:Int)(b:LX)(ls:LI)(i x z:Int):ex Tryz.prog (Gl gl) (Kh gl) 43 bJ .d (Qv [0,1,5,21,22,23]) ⟨[(0, .cst (Cf l)),(1, .rptr (Dj a f h b)),(5,vi x),(8,vi z),(21,vl ls),(22,vi (Ac ls)),(23,vi i)],[],[]⟩=
    some (0,⟨Ni (Cf l) (Dj a f h b) ls i z,[],[]⟩):=by kernel_rfl
theorem kR(gl:List (Nat×List Value))(l:Nat)(a f h:Int)(b:LX)(ls:LI)(i x:Int):ex Tryz.prog (Gl gl) (Kh gl) 43 aC .d (Qv [0,1,5,21,22,23]) ⟨Ni (Cf l) (Dj a f h b) ls i x,[],[]⟩=
    some (0,⟨Ni (Cf l) (Dj a f h b) ls (Aa i 1) x,[],[]⟩):=by kernel_rfl
theorem fW:BR Tryz.prog ⟨[],[],false⟩ (Ke Tryz.prog ⟨[],[],false⟩ 8 []) 43 (GL++Tt::[AP]).toArray [AP] ⟨[(39,vt false)],[],[]⟩ (iI [40] [] 0)=some (0,⟨[(40,vt true)],[],[]⟩):=by kernel_rfl
theorem eS:ex Tryz.prog ⟨[],[],false⟩ (Ke Tryz.prog ⟨[],[],false⟩ 8 []) 43 UH .d (Qv []) ⟨[(40,vt true)],[],[]⟩=some (1,⟨[],[],[]⟩):=by kernel_rfl
theorem eQ{i:Nat}(h:i<17179869184):Aa (i:Int) 1=((i+1:Nat):Int):=by
  rw[show Aa (i:Int) 1=Go.Lv.wrap64 ((i:Int)+1)from rfl,Go.Lv.IK (by omega) (by omega)];omega
def PA:PV->Option (List LX)
  | .agg [.val (.int .i64) a, .val (.int .i64) _, .val (.int .i64) h, .val (.list (.int .i32)) b]=>Zk a h b
  |_=>none
theorem YT{v:PV}{xs:List LX}(h:PA v=some xs):∃a f r b,v=Dj a f r b/\Zk a r b=some xs:=by
  unfold PA at h;split at h
  · exact⟨_,_,_,_,rfl,h⟩
  · cases h
theorem Vs{a:Int}{b:LX}{n:Int}{l:LI}{x:Int}{ps:List LX}(h:Gt a b (n::l) x=some ps):∃p r,Dd b x (Aa x (Di n a))=some p/\Gt a b l (Aa x (Di n a))=some r/\ps=p::r:=by
  simp only[Gt]at h;obtain⟨p,h1,h⟩:=Go.Lv.bind_some h;obtain⟨r,h2,h⟩:=Go.Lv.bind_some h;cases h;exact⟨p,r,h1,h2,rfl⟩
theorem Zj{a:Int}{b:LX}:∀{l:LI} {x:Int} {ps:List LX},Gt a b l x=some ps->ps.length=l.length
  |[],x,ps,h=>by simp only[Gt,Option.some.injEq]at h;subst h;rfl
  |n::l,x,ps,h=>by
    obtain⟨p,r,_,h2,rfl⟩:=Vs h;simp[Zj h2]
theorem dR{gl:List (Nat×List Value)}(hC:ConOk Tryz.prog gl 114 NB)(hE:Ent Tryz.prog 181):ItOk Tryz.prog gl 181 ⟨30, .list (.int .i32),PA⟩:=by
  refine⟨hE,λm B w b v cells xs hB hb hcell henc hgl hF=>?_⟩;have hF:PA v=some xs:=hF;obtain⟨a,f,h,s,rfl,hF⟩:=YT hF;have hM:Tryz.prog.follows .mixedOrders=true:=by kernel_rfl
  have hT:Ju Tryz.prog (Gl gl):= .cons hC .nil;have hI:∀{R:Type},Js (R:=R) Tryz.prog (Gl gl).gl (Kh gl):=FP hM hT Bt.nil 8;unfold Zk at hF;obtain⟨u0,hok,hF⟩:=Go.Lv.bind_some hF;obtain⟨p0,hall,hF⟩:=Go.Lv.bind_some hF;obtain⟨u1,hlim,hF⟩:=Go.Lv.bind_some hF;have hlim:p0.1.length<=17179869184:=by
    unfold Dy at hlim;split at hlim
    · rename_i h;have h':=of_decide_eq_true h;unfold Ac at h';omega
    · cases hlim
  have hlen:=Zj hF;intro l J Jx W hk hJ hJx hY h0;refine callsIn_of_wp_marks Tryz.func181 dC trivial ?_ rfl;have dU:∀i V X Y,J i V X->KeepN (λ_=>True) X Y->J i (grown V X Y) Y:=λi V X Y h k=>hJ i V X Y h k;have hbW:W.heap[b]? =some (.cells cells.toArray 30 (0,0)):=(hk.same b (hB b hb) trivial).trans hcell;have hm0:MemI gl B W ⟨[(0, .cst (Cf l)),(1, .rptr (Dj a f h s))],[],[]⟩ (BK [Cf l, .pointer (some ⟨b,0,none⟩)]):=by
    refine⟨λk hk'=>Nat.lt_of_lt_of_le (hB k hk') hk.gr.le,rfl,rfl,λp hp=>?_,hgl.keep (λ_ h=>h) (λk hk'=>hk.same k (hB k hk') trivial) hk.gr⟩;rcases List.mem_cons.1 hp with rfl|hp
    · exact(show _/\ _ from⟨rfl,rfl⟩)
    rcases List.mem_cons.1 hp with rfl|hp
    · exact⟨_,cells,rfl,⟨b,0,cells.toArray,_,_,rfl,hb,hbW,λi _=>by simp⟩,Ak.step (λ_ h=>h) (λk hk'=>hk.same k (hB k hk') trivial) (.refl []) henc⟩
    · cases hp
  have ha0:=OF (fn:=Tryz.f181) (vs:=[Cf l, .pointer (some ⟨b,0,none⟩)]) (by kernel_rfl);have e0:(#[Value.func (.yield l) #[] #[]]++ #[Value.pointer (some ⟨b,0,none⟩)]:Array Value)=[Cf l, .pointer (some ⟨b,0,none⟩)].toArray:=by simp
  rw[e0]
  revert ha0
  generalize({tmps:=_,defers:=[]}:Act)=tF;rw[kN];intro ha0;refine EA hM hT hI (J:=J 0) (dU 0) .d [0,1,3] [⟨3,[], .ro (.int .i64)⟩] ((iO gl l a f h s).trans (by rw[hok,hall];rfl)) rfl hm0 h0 ha0 λσ1 V1 w1 a1 f1 j1 m1=>?_;refine EA hM hT hI (J:=J 0) (dU 0) .d [0,1,3,5] [] (jN gl l _ p0.1) rfl m1 j1 f1 λσ2 V2 w2 a2 f2 j2 m2=>?_;refine EA hM hT hI (J:=J 0) (dU 0) .d [0,1,5,21,22,23] [] (jY gl l a f h s p0.1) rfl m2 j2 f2 λσ3 V3 w3 a3 f3 j3 m3=>?_;have fin:∀{σ:Env} {a':Act} {w':World},Fits [] 43 a' σ-> ((∃V,J xs.length V w')\/Jx w')->LeavesInM (wr none) m Tryz.prog Tryz.f181 a'.tmps (λe W'=>(∃v,e= .returned v)/\ ((∃V,J xs.length V W')\/Jx W')) a'.defers .returning w':=by
    intro σ a' w' hf hh;rw[hf.defers];exact⟨_,Pn (rs:=[]) (vs:=[]) (by kernel_rfl) hf trivial,⟨_,rfl⟩,hh⟩
  refine wpIn_block (dD (p0.1.length+1) (λq a' w'=>∃(i:Nat) (x:Int) (V:Reg) (σ:Env),q+i=p0.1.length+1/\i<=p0.1.length/\Fits [] 43 a' σ/\J i V w'/\MemI gl V w' ⟨Ni (Cf l) (Dj a f h s) p0.1 (i:Int) x,[],[]⟩ σ/\Gt a s (p0.1.drop i) x=some (xs.drop i)) ?_ ?_
    ⟨0,0,V3,σ3,rfl,Nat.zero_le _,f3,j3,m3,hF⟩)
  · rintro a' w' ⟨i,x,V,σ,hq,hi,_⟩
    omega
  rintro q a' w' ⟨i,x,V,σ,hq,hi,hf,hj,hm,hp⟩;refine EA hM hT hI (J:=J i) (dU i) .d [0,1,5,21,22,23,24] [] (iL gl l a f h s p0.1 i x) rfl hm hj hf λσ4 V4 w4 a4 f4 j4 m4=>?_;by_cases hlt:i<p0.1.length
  · have hg:Cq (i:Int) (Ac p0.1)=true:=by simp[Cq,Ac,GI.toZ];exact hlt
    rw[hg]at m4;refine EA hM hT hI (J:=J i) (dU i) .d [0,1,5,21,22,23] [] (bD gl l a f h s p0.1 i x true) rfl m4 j4 f4 λσ5 V5 w5 a5 f5 j5 m5=>?_;obtain⟨n,hn⟩:∃n,p0.1[i]? =some n:=⟨_,List.getElem?_eq_getElem hlt⟩;have hgn:Go.Lv.Ah p0.1 (i:Int)=some n:=by simp[Go.Lv.Ah,hn]
    have hd:p0.1.drop i=n::p0.1.drop (i+1):=by rw[List.drop_eq_getElem_cons hlt];congr 1;rw[List.getElem?_eq_getElem hlt]at hn;exact Option.some.inj hn
    rw[hd]at hp;obtain⟨p,r,hcut,hp',hxs⟩:=Vs hp;have hi':i<xs.length:=by omega
    have hx:xs[i]? =some p:=by
      have:=congrArg List.head? hxs;rw[List.head?_drop]at this;exact this
    have hr:xs.drop (i+1)=r:=by
      have:=congrArg List.tail hxs;rw[List.tail_drop]at this;exact this
    refine wpIn_seq (wpIn_block ?_);refine EA hM hT hI (J:=J i) (dU i) .d [0,1,5,7,21,22,23] [] ((jG gl l a f h s p0.1 i x).trans (by rw[hgn];rfl)) rfl m5 j5 f5 λσ6 V6 w6 a6 f6 j6 m6=>?_;refine EA hM hT hI (J:=J i) (dU i) .d [0,1,5,8,21,22,23] [] (kB gl l a f h s p0.1 i x n) rfl m6 j6 f6 λσ7 V7 w7 a7 f7 j7 m7=>?_;refine wpIn_seq (wpIn_seq (wpIn_region_lit ?_));refine TJ (T:=Gl gl) hT hI (J:=J i) (dU i) [0,1,5,8,21,22,23,33,38] (by kernel_rfl) ((kG gl l a f h s p0.1 i x (Aa x (Di n a))).trans (by rw[hcut];rfl)) rfl m7 j7 f7 λσ8 V8 w8 a8 f8 j8 m8=>?_;have v33:σ8 33=Cf l:=by
      have:=m8.val (t:=33) (p:= .cst (Cf l)) (by simp) rfl;exact(show [σ8 33]=[Cf l]/\ _ from this).1|>List.head_eq_of_cons_eq
    have v38:Db V8 w8 [] (vw p) (σ8 38):=(Tk rfl).1 (m8.val (t:=38) (p:=vw p) (by simp) rfl);refine fM eW gC (by decide) (λc hc=>by rw[VP]at hc;cases hc) (WE VP v33 rfl) (hY i V8 w8 (σ8 38) hi' j8 (λx' hx'=>by rw[hx]at hx';cases hx';exact v38)) ?_ f8;rintro e w9 (⟨rfl,j9,hgr,hsame⟩|⟨rfl,jx⟩)
    · refine⟨_,rfl,λa9 f9=>?_⟩
      have m9:=(m8.round hgr hsame).set (d:=39) (p:=vt true) (v:= .bool true) rfl (show [Value.bool true]=[Value.bool true]from rfl);refine TJ (T:=Gl gl) (l2:=[]) hT hI (J:=J (i+1)) (dU (i+1)) [0,1,5,8,21,22,23,40] (by kernel_rfl) (kD gl l a f h s p0.1 i x (Aa x (Di n a)) p true) rfl m9 j9 f9 λσb Vb wb ab fb jb mb=>?_;refine wpIn_mono (AO hM hT hI (J:=J (i+1)) (dU (i+1)) (an:= .d) (lv:=[0,1,5,8,21,22,23]) (co:=[]) (iW gl l a f h s p0.1 i x (Aa x (Di n a)) false) rfl mb jb fb) ?_;rintro e ac wc ⟨he,σc,Vc,fc,jc,mc⟩;cases e with
      |normal=>
        refine wpIn_mono (AO hM hT hI (J:=J (i+1)) (dU (i+1)) (an:= .d) (lv:=[0,1,5,21,22,23]) (co:=[]) (iS gl l a f h s p0.1 i x (Aa x (Di n a))) rfl mc jc fc) ?_;rintro e ad wd ⟨he,σd,Vd,fd,jd,md⟩;cases e with
        |normal=>
          refine wpIn_mono (AO hM hT hI (J:=J (i+1)) (dU (i+1)) (an:= .d) (lv:=[0,1,5,21,22,23]) (co:=[]) (kR gl l a f h s p0.1 i (Aa x (Di n a))) rfl md jd fd) ?_;rintro e ae we ⟨he,σe,Ve,fe,je,me⟩;cases e with
          |normal=>
            have hadd:Aa (i:Int) 1=((i+1:Nat):Int):=eQ (by omega);rw[hadd]at me;exact⟨i+1,_,Ve,σe,by omega,by omega,fe,je,me,by rw[hr];exact hp'⟩
          |ret=>simp[EB]at he
          |exit id=>simp[EB]at he
          |goto l=>cases he
          |panic c=>cases he
          |outgrown=>cases he
        |ret=>simp[EB]at he
        |exit id=>simp[EB]at he
        |goto l=>cases he
        |panic c=>cases he
        |outgrown=>cases he
      |ret=>simp[EB]at he
      |exit id=>simp[EB]at he
      |goto l=>cases he
      |panic c=>cases he
      |outgrown=>cases he
    · refine⟨_,rfl,λa9 f9=>?_⟩
      have hT0:Ju Tryz.prog ⟨[],[],false⟩:= .nil;have hI0:∀{R:Type},Js (R:=R) Tryz.prog [] (Ke Tryz.prog ⟨[],[],false⟩ 8 []):=FP hM hT0 Bt.nil 8;have m9:MemI [] (λ_=>False) w9 ⟨[(39,vt false)],[],[]⟩ (Gi σ8 39 (.bool false)):=⟨λ_ h=>h.elim,rfl,rfl,(λp hp=>by
        rcases List.mem_cons.1 hp with rfl|hp
        · exact Cw.put rfl (show [Value.bool false]=[Value.bool false]from rfl)
        · cases hp),λp hp=>by cases hp⟩
      refine TJ (T:=⟨[],[],false⟩) (l2:=[]) hT0 hI0 (J:=λ_ W=>Jx W) (λ_ X Y h k=>hJx X Y h k) [40] (by kernel_rfl) fW rfl m9 jx f9 λσb Vb wb ab fb jb mb=>?_;refine wpIn_mono (AO (T:=⟨[],[],false⟩) hM hT0 hI0 (J:=λ_ W=>Jx W) (λ_ X Y h k=>hJx X Y h k) (an:= .d) (lv:=[]) (co:=[]) eS rfl mb jb fb) ?_;rintro e ac wc ⟨he,σc,Vc,fc,jc,mc⟩;cases e with
      |ret=>exact fin fc (.inr jc)
      |normal=>simp[EB]at he
      |exit id=>simp[EB]at he
      |goto l=>cases he
      |panic c=>cases he
      |outgrown=>cases he
  · have hi2:i=p0.1.length:=by omega
    have hg:Cq (i:Int) (Ac p0.1)=false:=by subst hi2;simp[Cq,Ac,GI.toZ]
    rw[hg]at m4;refine wpIn_seq (wpIn_mono (AO hM hT hI (J:=J i) (dU i) (an:= .d) (lv:=[0,1,5,21,22,23]) (co:=[]) (bD gl l a f h s p0.1 i x false) rfl m4 j4 f4) ?_);rintro e ac wc ⟨he,σc,Vc,fc,jc,mc⟩;cases e with
    |exit id=>
      obtain rfl:id=0:=by simpa [EB]using he
      exact fin fc (.inl ⟨Vc,by rw[hlen,<-hi2];exact jc⟩)
    |ret=>simp[EB]at he
    |normal=>simp[EB]at he
    |goto l=>cases he
    |panic c=>cases he
    |outgrown=>cases he
abbrev PT:List Sh:=[.agg [.lf (.int .i64) none, .lf (.int .i64) none, .lf (.int .i64) none, .lf (.list (.int .i32)) none], .lf .str none]
abbrev Lg:List Sh:=[.lf (.list (.list (.int .u8))) (some 22), .lf (.int .i64) none]
noncomputable def XW:Con:=⟨[.agg [.lf (.int .i64) none, .lf (.int .i64) none, .lf (.int .i64) none, .lf (.list (.int .i32)) none]],[.lf (.int .i64) none],λx=>Jy x.1 x.2.1 x.2.2.1 x.2.2.2⟩
noncomputable def VA:Con:=⟨[.lf .str none],[.lf (.vec 16 (.int .i32)) none, .lf (.int .i64) none],Mp⟩
noncomputable def VM:Con:=⟨[.agg [.lf (.int .i64) none, .lf (.int .i64) none], .lf (.vec 16 (.int .i32)) none, .lf (.list (.int .i32)) none],[.lf (.list (.int .u8)) (some 5), .lf (.int .i64) none],λx=>Jm x.1 x.2.1 x.2.2.1 x.2.2.2⟩
noncomputable def XT:Con:=⟨[.agg [.lf (.int .i64) none, .lf (.int .i64) none, .lf (.int .i64) none, .lf (.list (.int .i32)) none]],[.agg [.lf (.int .i64) none, .lf (.int .i64) none]],λx=>DQ x.1 x.2.1 x.2.2.1 x.2.2.2⟩
noncomputable def GV(gl:List (Nat×List Value)):Tab:=⟨[(93,XW),(67,VA),(100,VM),(101,XT)],gl,true⟩
noncomputable def XG:List (Nat×ItC):=[(181,⟨30, .list (.int .i32),PA⟩)]
noncomputable def QE:List (Nat×An):=[(99, .d)]
noncomputable abbrev bF{R:Type}(gl:List (Nat×List Value)):IW R:=Ke Tryz.prog (GV gl) 8 QE
noncomputable def MO:An:= .loop [2,4,5,7,9] [⟨9,[], .own 22 (.list (.int .u8))⟩] .d
noncomputable def aG:An:= .seq .d (.seq .d (.seq .d (.seq .d (.seq .d (.seq (.seq .d (.blk MO)) .d)))))
noncomputable def iV:Code:=fB Tryz.f42
noncomputable def aD:Code:=cB (cB (cB (cB (cB iV))))
noncomputable def bH:Code:=cA (cB (cA aD))
noncomputable def dF:Code:=cB aD
def sU:Code->Code| .rangeFunc _ _ a _=>a|c=>c
def sH:Code->Code| .rangeFunc _ _ _ b=>b|c=>c
noncomputable def TY:K (Je (Fl Lg)):={n:=BA Tryz.prog Lg Tryz.f42.results.toList,x:=λ_ _=>none,r:=BA Tryz.prog Lg Tryz.f42.results.toList}
noncomputable def aI(gl:List (Nat×List Value))(s:S):Option (Je (Fl Lg)):=ex Tryz.prog (GV gl) (bF gl) 45 dF .d TY s
noncomputable def bQ(gl:List (Nat×List Value)):K (Je (Fl Lg)):=⟨aI gl,λid s=>Bd (Nat.beq id 0) (aI gl s)<|TY.x id s,TY.r⟩
noncomputable def HT(gl:List (Nat×List Value)):List LX->S->Option (Je (Fl Lg)):=mI MO (Zw Tryz.prog (GV gl) (bF gl) 45 28 (sU bH) (sH bH) MO (bQ gl) (.list (.int .i32))) (bQ gl).n
def HM(a f h:Int)(b t:LX)(o:List LB):S:=⟨[(2, .ptr 0 []),(4, .ptr 1 []),(5, .ptr 2 []),(7, .ptr 3 []),(9, .ptr 4 [])],
  [.box 30 (.agg [vi a,vi f,vi h,vw b]), .box 66 .nils, .box 25 (vi 0), .box 105 (.val (.vec 16 (.int .i32)) t), .box 66 (.own 5), .arr 22 (.list (.int .u8)) o],[]⟩
theorem jD(gl:List (Nat×List Value))(a f h:Int)(b t:LX)(o:List LB):HT gl [] (HM a f h b t o)=some (o,(0:Int)):=by kernel_rfl
theorem jS(gl:List (Nat×List Value))(a f h:Int)(b t:LX)(o:List LB)(x:LX)(xs:List LX):HT gl (x::xs) (HM a f h b t o)=
    Option.bind (Jm a f t x) λy=>if(Bl y.2 0)=true then some ([],y.2)else Option.bind (Dp o [y.1]) λo'=>HT gl xs (HM a f h b t o'):=by kernel_rfl
theorem bR(gl:List (Nat×List Value))(a f h:Int)(b t:LX):∀(xs:List LX) (o:List LB),HT gl xs (HM a f h b t o)=Kx a f t xs o
  |[],o=>jD gl a f h b t o
  |x::xs,o=>by
    rw[jS,Kx];simp only[bR gl a f h b t xs];rfl
theorem eC(gl:List (Nat×List Value))(x:Je (Fl PT)):jL Tryz.prog (GV gl) QE XG Tryz.f42 aG PT Lg x=Xu x.1 x.2.1 x.2.2.1 x.2.2.2.1 x.2.2.2.2:=by
  refine Eq.trans (b:=Option.bind (Jy x.1 x.2.1 x.2.2.1 x.2.2.2.1) λe=>if(Bl e 0)=true then some ([],e)else Option.bind (Mp x.2.2.2.2) λt=>if(Bl t.2 0)=true then some ([],t.2)
    else Option.bind (Zk x.1 x.2.2.1 x.2.2.2.1) λxs=>HT gl xs (HM x.1 x.2.1 x.2.2.1 x.2.2.2.1 t.1 [])) (by kernel_rfl) ?_
  simp only[bR];rfl
noncomputable def Qq:Con:=⟨PT,Lg,λx=>Xu x.1 x.2.1 x.2.2.1 x.2.2.2.1 x.2.2.2.2⟩
theorem OK{gl:List (Nat×List Value)}(tG:ConOk Tryz.prog gl 93 XW)(tH:ConOk Tryz.prog gl 67 VA)(tI:ConOk Tryz.prog gl 114 NB)(tJ:ConOk Tryz.prog gl 100 VM)(tK:ConOk Tryz.prog gl 101 XT):
    ConOk Tryz.prog gl 42 Qq:=by
  have hE:∀{f:Nat} {fn:Func},Tryz.prog.funcs[f]? =some fn→(!(fn.name== "runtime.NumGoroutine")&&fn.body.isSome)=true→Ent Tryz.prog f:=by
    intro f fn hf hb;simp only[Bool.and_eq_true,Bool.not_eq_true']at hb;obtain⟨c,hc⟩:=Option.isSome_iff_exists.1 hb.2;exact Ent.mk hf hb.1 hc
  refine VX (T:=GV gl) (its:=XG) (ans:=QE) (an:=aG) (by kernel_rfl) Tryz.func42 (hE Tryz.func42 (by kernel_rfl)) (.cons tG (.cons tH (.cons tJ (.cons tK .nil)))) (Bt.cons (hE Tryz.func99 (by kernel_rfl)) Bt.nil) ?_ (by kernel_rfl) (eC gl);intro p hp;rcases List.mem_cons.1 hp with rfl|hp
  · exact dR tI (hE Tryz.func181 (by kernel_rfl))
  · cases hp
theorem RE{W W':World}(h:KeepN (λ_=>True) W W'):W.grownBy W' none:=⟨h.gr.os,h.gr.tape,h.gr.output,h.gr.le,λk hk _=>h.same k hk trivial⟩
theorem fL{F:Fence}{n:Nat}{P:Program}{Q:Exit->Act->World->Prop}{a:Act}{w:World}{c:Code}(m:Nat)(I:Nat->Act->World->Prop)(h0:∀a w,¬I 0 a w)
    (hs:∀q a w,I (q+1) a w->c.wpIn F n P (Exit.then (I q) Q) a w) (h:I m a w):(Code.loop c).wpIn F n P Q a w:=by
  refine wpIn_loop_rounds m ?_
  induction m generalizing a w with
  |zero=>exact absurd h (h0 a w)
  |succ m ih=>
    rw[roundsIn_succ];refine wpIn_mono (hs m a w h) λe a' w' hh=>?_;cases e<;>first|exact ih hh|exact hh
theorem pO{α:Type}{c:Prop} [Decidable c]{a b y:α}(h:(if c then a else b)=y)(hc:¬c):b=y:=by rw[if_neg hc]at h;exact h
theorem jU{A:Reg}{w:World}{v:Value}{k:Kd}{l y:List k.T}{a:Int}(h:Ag A w (.list (.int k)) l [v])(hc:Dd l a (Ac l)=some y):
    ∃(p:Option Addr) (len cap m:Nat),v= .slice p len cap/\a=(m:Int)/\m<=len/\len<=cap/\Ag A w (.list (.int k)) y [.slice (if cap=m then p else p.map (·.add m)) (len-m) (cap-m)]:=by
  obtain⟨v1,c0,e1,h1,h2⟩:=h;cases e1;obtain⟨p,len,cap,rfl,g1,g2,g3,g4⟩:=h1;obtain⟨k1,k2,k3,k4,rfl⟩:=Mq hc;simp only[ET.size,Nat.mul_one]at g1 g4;have hll:=h2.len (z:=1) λx c h=>by rw[show c=_ from h];rfl
  have hln:l.length=len:=by omega
  have hto:(Ac l).toNat=len:=by simp[Ac,hln]
  rw[hto]at k3⊢;refine⟨p,len,cap,a.toNat,rfl,k1,k3,g2,_,c0.drop a.toNat,rfl,⟨_,_,_,rfl,?_,by omega,λhp=>?_,λhcap=>?_⟩,?_⟩
  · simp only[ET.size,List.length_drop];omega
  · split at hp
    · omega
    · rename_i hne
      cases p with
      |none=>have:=g3 rfl;omega
      |some a=>cases hp
  · rw[if_neg (by omega)]
    obtain⟨b,off,arr,T,fr,rfl,e2,e3,e4,e5⟩:=g4 (by omega);refine⟨b,off+a.toNat,arr,T,fr,by simp[Addr.add],e2,e3,by simp only[ET.size];omega,λi hi=>?_⟩;simp only[ET.size]at hi;rw[List.getElem?_drop,<-e5 (a.toNat+i) (by omega),Nat.add_assoc]
  · have:=Ba.drop (z:=1) (λx c h=>by rw[show c=_ from h];rfl) a.toNat h2
    rw[Nat.mul_one]at this;rw[List.take_of_length_le (by omega)];exact this
theorem oD{P:Program}{f:Nat}{gl:List (Nat×List Value)}{F:List UInt8->Option (Int×Int)}(hC:ConOk P gl f ⟨[.lf (.list (.int .u8)) none],[.lf (.int .i64) none, .lf (.int .i64) none],F⟩){A:Reg}{W:World}{v:Value}{s:List UInt8}{r:Int×Int}
    (hv:Ag A W (.list (.int .u8)) s [v]) (hgl:GlOk gl A W) (h:F s=some r):Calls P f #[v] W λe W'=>e= .returned (.tuple #[.int .i64 r.1, .int .i64 r.2])/\KeepN (λ_=>True) W W':=by
  have hv':Ag (λ_=>True/\True) W (.list (.int .u8)) s [v]:=Ag.step (λ_ _=>⟨trivial,trivial⟩) (λ_ _=>rfl) hv;refine(hC.ok (λ_=>True) (λ_=>True) W [] [v] [.val (.list (.int .u8)) s] s r rfl rfl (λi a m _ h=>by simp at h) trivial ⟨v,[],rfl,hv',rfl⟩ (λp hp=>⟨(hgl p hp).1,trivial,(hgl p hp).2.2⟩) h).mono ?_;rintro e w' ⟨us,rfl,hk,A1,L1,g1,g2,g3⟩;obtain⟨ps,its,k1,k2,k3,k4,k5⟩:=g3 ⟨[],[],[]⟩ [] (λ_=>True) rfl (λ_ _=>trivial) (λ_ _ _=>trivial);refine⟨?_,hk⟩;obtain rfl:=Option.some.inj (show some [PV.val (.int .i64) r.1,PV.val (.int .i64) r.2]=some ps from k2);obtain⟨_,_,rfl,e1,_,_,rfl,e2,rfl⟩:=k3;cases(show [_]=[Value.int .i64 r.1]from e1);cases(show [_]=[Value.int .i64 r.2]from e2);rfl
structure KpF (n₀ Bx:Nat) (A B:World):Prop where
  le:A.heap.size<=B.heap.size
  box:B.heap[Bx]? =A.heap[Bx]?
  old:∀k,k<n₀->B.heap[k]? =A.heap[k]?
def UZ(l:List (Int×Int)):Int:=l.foldl (λs x=>Aa s x.1) 0
def fin(y:Int×Int)(xs:List (Int×Int)):Prop:=(∃x∈xs,x.2≠0)\/y=(UZ xs,0)
def fN(y:Int×Int)(pre:List (Int×Int)):Prop:=∃p x,pre=p++[x]/\ (x.2≠0->y=(0,x.2))
theorem Tryz.oL:Tryz.f189.ntmps=35:=by kernel_rfl
theorem Tryz.sN:Tryz.prog.underlying 22=some (.slice 5):=by kernel_rfl
theorem Tryz.sF:Dc Tryz.prog 5 1:=Dc.mk (by kernel_rfl)
set_option maxHeartbeats 2000000 in
set_option maxRecDepth 100000 in
theorem jF(n:Nat)(l Bx n₀:Nat)(v:Value)(b:List UInt8)(y:Int×Int)(J Jx:List (Int×Int)->World->Prop)(gl:List (Nat×List Value))
    (hC:ConOk Tryz.prog gl 190 ⟨[.lf (.list (.int .u8)) none],[.lf (.int .i64) none, .lf (.int .i64) none],Kf⟩)
    (hY:∀pre x W,J pre W->pre.length<Cx->YieldAt Fence.wide (n-1) Tryz.prog l #[.int .i64 x.1, .int .i64 x.2] W λe W'=>
      (e= .returned (.bool true)/\J (pre++[x]) W'/\KpF n₀ Bx W W')\/ (e= .returned (.bool false)/\Jx (pre++[x]) W'))
    (W0:World) (hJ:AbidesFrom W0.heap.size J) (ZX:W0.heap[Bx]? =some (.cells #[v] 22 (0,0))) (hn:n₀<=W0.heap.size) (hv:Ag (λk=>k<n₀) W0 (.list (.int .u8)) b [v]) (hgl:GlOk gl (λk=>k<n₀) W0)
    (h0:J [] W0) (hy:Lf b=some y):
    CallsIn Fence.wide n Tryz.prog 189 #[.func (.yield l) #[] #[], .pointer (some ⟨Bx,0,none⟩)] W0 λe W'=>(∃v,e= .returned v)/\ ((∃ys,fin y ys/\J ys W')\/ (∃pre,fN y pre/\Jx pre W')):=by
  refine callsIn_of_wp Tryz.func189 rfl trivial ?_ rfl;simp only[Tryz.oL,List.size_toArray,List.length_cons,List.length_nil,Nat.reduceAdd,Nat.reduceSub,Array.replicate_succ,Array.replicate_zero,List.push_toArray,List.append_toArray,List.nil_append,List.cons_append]
  gi_wp2
  refine fL Cx (λq a W=>∃(pre:List (Int×Int)) (x:Int) (v2 v4 v5 v6 v7 v8 v9 v10 v11 v12 v13 v14 v15 v16 v17 v18 v19 v20 v21 v22 v23 v24 v25 v26 v27 v28 v29 v30 v31 v32 v33 v34:Value),a={tmps:= #[.func (.yield l) #[] #[], .pointer (some ⟨Bx,0,none⟩),v2, .int .i64 x,v4,v5,v6,v7,v8,v9,v10,v11,v12,v13,v14,v15,v16,v17,v18,v19,v20,v21,v22,v23,v24,v25,v26,v27,v28,v29,v30,v31,v32,v33,v34],defers:=[]}/\Kt b q x=some y/\UZ pre=x/\pre.length+q=Cx/\J pre W/\KpF n₀ Bx W0 W/\W0.heap.size<=W.heap.size) ?_ ?_ ?_
  · rintro a W ⟨pre,x,v2,v4,v5,v6,v7,v8,v9,v10,v11,v12,v13,v14,v15,v16,v17,v18,v19,v20,v21,v22,v23,v24,v25,v26,v27,v28,v29,v30,v31,v32,v33,v34,_,h,_⟩
    cases h
  · rintro q a W ⟨pre,x,v2,v4,v5,v6,v7,v8,v9,v10,v11,v12,v13,v14,v15,v16,v17,v18,v19,v20,v21,v22,v23,v24,v25,v26,v27,v28,v29,v30,v31,v32,v33,v34,rfl,h,hx,hl,tL,hk,hs⟩
    simp only[Kt]at h;obtain⟨s,hcut,h⟩:=Go.Lv.bind_some h;obtain⟨r,hsz,h⟩:=Go.Lv.bind_some h;have tM:Ag (λk=>k<n₀) W (.list (.int .u8)) b [v]:=Ag.step (λ_ h=>h) (λk hk'=>hk.old k hk') hv;obtain⟨p,len,cap,m,rfl,rfl,hm,hlc,hsv⟩:=jU (k:= .u8) tM hcut;have hc:W.cell? ⟨Bx,0,none⟩=some (.slice p len cap):=by
      have:=hk.box;simp only[World.cell?,this,ZX];rfl
    have hu:=Tryz.sN;have hz:=Tryz.sF;obtain⟨k,e⟩:=r;have e1:geq e 6=(e==6):=rfl;have e2:geq e 0=(e==0):=rfl;have e3:Aa (m:Int) k=RowKit.wrap64 (m+k):=by
      simp only[Aa,GI.ofZ,GI.toZ,Go.Lv.wrap64,RowKit.wrap64];exact IntKind.wrap_i64 _
    have e4:Fm (RowKit.wrap64 (m+k)) 4000=decide (4000<RowKit.wrap64 (m+k)):=rfl;have e5:Bl e 0=(e !=0):=rfl;rw[e1,e2,e3,e4,e5]at h;have hp:=h;have hgW:GlOk gl (λk=>k<n₀) W:=λp hp=>⟨Nat.lt_of_lt_of_le (hgl p hp).1 hs,(hgl p hp).2.1,by rw[hk.old _ (hgl p hp).2.1];exact(hgl p hp).2.2⟩;have hcall:∀v',Ag (λk=>k<n₀) W (.list (.int .u8)) s [v']->CallsIn Fence.wide (n-1) Tryz.prog 190 #[v'] W λe0 W'=>e0= .returned (.tuple #[.int .i64 k, .int .i64 e])/\KeepN (λ_=>True) W W':=
      λv' hv'=>callsIn_wide.2 (oD hC hv' hgW hsz)
    have hsm:∀z:Int,UZ (pre++[(k,z)])=RowKit.wrap64 (m+k):=λz=>by rw[<-e3,<-hx];simp[UZ]
    have hlt:Bx<W.heap.size:=Nat.lt_of_lt_of_le (Array.getElem?_eq_some_iff.1 ZX).1 hs
    gi_wp2
    all_goals
      refine⟨trivial,(λh=>nomatch h),(hcall _ (by first|(rw[if_neg (by assumption)]at hsv;exact hsv)|(simpa [*]using hsv))).mono ?_⟩;rintro e0 W1 ⟨rfl,hk1⟩;have hJ2:=hJ pre W W1 none tL (RE hk1) (λr e=>by cases e);have hyl:∀e',YieldAt Fence.wide (n-1) Tryz.prog l #[Value.int IntKind.i64 k,Value.int IntKind.i64 e'] W1 _:=λe'=>hY pre (k,e') W1 hJ2 (by omega)
      gi_wp2
      · rename_i h6
        rw[if_pos h6]at hp;refine bodyPost_ret (results_none rfl _ _ _) rfl ?_;exact⟨⟨_,rfl⟩, .inl ⟨pre, .inr (by rw[hx];cases hp;rfl),hJ2⟩⟩
      · obtain⟨fn,tmps,assign,body,hy1,hR⟩:=hyl 4
        rw[hy1]
        gi_wp2
        refine⟨(λh=>nomatch h),hR.mono ?_⟩;rintro e3 W3 (⟨rfl,hJ3,hk3⟩|⟨rfl,hJx3⟩)
        · gi_wp2
          refine bodyPost_ret (results_none rfl _ _ _) rfl ?_;exact⟨⟨_,rfl⟩, .inl ⟨pre++[(k,4)], .inl ⟨(k,4),by simp,by simp⟩,hJ3⟩⟩
        · gi_wp2
          refine bodyPost_ret (results_none rfl _ _ _) rfl ?_;refine⟨⟨_,rfl⟩, .inr ⟨pre++[(k,4)],⟨pre,(k,4),rfl,λhne=>?_⟩,hJx3⟩⟩;simp at hne
          all_goals simp_all
      · obtain⟨fn,tmps,assign,body,hy1,hR⟩:=hyl 0
        rw[hy1]
        gi_wp2
        refine⟨(λh=>nomatch h),hR.mono ?_⟩;rintro e3 W3 (⟨rfl,hJ3,hk3⟩|⟨rfl,hJx3⟩)
        · gi_wp2
          refine⟨pre++[(k,0)],_,_,_,_,_,_,_,_,_,_,_,_,_,_,_,_,_,_,_,_,_,_,_,_,_,_,_,_,_,_,_,_,_,rfl,?_,‹∀z:Int,UZ (pre++[(k,z)])=RowKit.wrap64 ((m:Int)+k)› 0,by simp;omega,hJ3,⟨?_,?_,?_⟩,?_⟩
          · simp_all
            exact pO (by assumption) (by omega)
          · exact Nat.le_trans hk.le (Nat.le_trans hk1.gr.le hk3.le)
          · exact hk3.box.trans ((hk1.same _ ‹Bx<W.heap.size› trivial).trans hk.box)
          · exact λj hj=>(hk3.old j hj).trans ((hk1.same j (Nat.lt_of_lt_of_le hj (Nat.le_trans hn hs)) trivial).trans (hk.old j hj))
          · exact Nat.le_trans hs (Nat.le_trans hk1.gr.le hk3.le)
        · gi_wp2
          refine bodyPost_ret (results_none rfl _ _ _) rfl ?_;exact⟨⟨_,rfl⟩, .inr ⟨pre++[(k,0)],⟨pre,(k,0),rfl,λhne=>absurd rfl hne⟩,hJx3⟩⟩
      · obtain⟨fn,tmps,assign,body,hy1,hR⟩:=hyl e
        rw[hy1]
        gi_wp2
        refine⟨(λh=>nomatch h),hR.mono ?_⟩;rintro e3 W3 (⟨rfl,hJ3,hk3⟩|⟨rfl,hJx3⟩)
        · gi_wp2
          rename_i hne;refine bodyPost_ret (results_none rfl _ _ _) rfl ?_;exact⟨⟨_,rfl⟩, .inl ⟨pre++[(k,e)], .inl ⟨(k,e),by simp,by simpa using hne⟩,hJ3⟩⟩
        · gi_wp2
          refine bodyPost_ret (results_none rfl _ _ _) rfl ?_;refine⟨⟨_,rfl⟩, .inr ⟨pre++[(k,e)],⟨pre,(k,e),rfl,λhne=>?_⟩,hJx3⟩⟩;simp at hne
          all_goals simp_all
  · exact⟨[],0,_,_,_,_,_,_,_,_,_,_,_,_,_,_,_,_,_,_,_,_,_,_,_,_,_,_,_,_,_,_,_,_,rfl,hy,rfl,by simp,h0,⟨Nat.le_refl _,rfl,λ_ _=>rfl⟩,Nat.le_refl _⟩
theorem mH(n Bx n₀:Nat)(v:Value)(b:List UInt8)(y:Int×Int)(gl:List (Nat×List Value))
    (hC:ConOk Tryz.prog gl 190 ⟨[.lf (.list (.int .u8)) none],[.lf (.int .i64) none, .lf (.int .i64) none],Kf⟩)
    (w:World) (ZX:w.heap[Bx]? =some (.cells #[v] 22 (0,0))) (hn:n₀<=w.heap.size) (hv:Ag (λk=>k<n₀) w (.list (.int .u8)) b [v]) (hgl:GlOk gl (λk=>k<n₀) w) (hy:Lf b=some y):
    SeqStopsK Fence.wide n Tryz.prog 189 #[.pointer (some ⟨Bx,0,none⟩)] (λx:Int×Int=> #[.int .i64 x.1, .int .i64 x.2]) (KpF n₀ Bx) (fin y) (fN y) Cx w:=by
  intro l J Jx W hW hJ hJx hY h0;have hlt:=(Array.getElem?_eq_some_iff.1 ZX).1;have hb:∀k,k<n₀->W.heap[k]? =w.heap[k]? :=λk hk=>hW.block k (Nat.lt_of_lt_of_le hk hn);exact jF n l Bx n₀ v b y J Jx gl hC hY W hJ ((hW.block Bx hlt).trans ZX) (Nat.le_trans hn hW.size) (Ag.step (λ_ h=>h) hb hv)
    (λp hp=>⟨Nat.lt_of_lt_of_le (hgl p hp).1 hW.size,(hgl p hp).2.1,by rw[hb _ (hgl p hp).2.1];exact(hgl p hp).2.2⟩) h0 hy
theorem Wu{w W:World}{a:Addr}{v:Value}(h:KeepN (λ_=>True) w W)(ha:w.heap.size<=a.block):KeepN (λ_=>True) w (W.setCell a v):=by
  have hb:=(Below.refl w.heap.size W).setCell (p:=a) ha v;exact⟨λb hb' _=>(hb.block b hb').trans (h.same b hb' trivial),h.gr.trans ⟨hb.size,hb.os,hb.tape,hb.output⟩⟩
theorem heap_set{W:World}{a:Addr}{v:Value}{k:Nat}(h:k≠a.block):(W.setCell a v).heap[k]? =W.heap[k]? :=
  ((Below.refl (k+1) {W with heap:=W.heap}).block k (by omega)▸(by
    show(W.heap.modify a.block _)[k]? =W.heap[k]?;rw[Array.getElem?_modify,if_neg (Ne.symm h)]))
theorem YD{W:World}{B:Nat}{v:Value}{t:TypeId}(h:W.heap[B]? =some (.cells #[v] t (0,0))):W.cell? ⟨B,0,none⟩=some v/\W.frozen? ⟨B,0,none⟩=false:=by
  constructor<;>simp[World.cell?,World.frozen?,h]
theorem ES(W:World)(v:Value)(t:TypeId):(W.alloc (.cells #[v] t)).cell? ⟨W.heap.size,0,none⟩=some v/\ (W.alloc (.cells #[v] t)).frozen? ⟨W.heap.size,0,none⟩=false:=YD (World.alloc_heap_new W _)
theorem Dl{W:World}{a:Addr}{v:Value}(o:Obj)(h:W.cell? a=some v):(W.alloc o).cell? a=some v:=cell_kept h (World.grownBy_alloc W o none) (λr e=>by cases e)
theorem Ew{W:World}{a:Addr}{v:Value}(o:Obj)(h:W.cell? a=some v)(hf:W.frozen? a=false):(W.alloc o).frozen? a=false:=(frozen_kept h (World.grownBy_alloc W o none) (λr e=>by cases e)).trans hf
theorem Tryz.nQ:Tryz.f108.ntmps=4:=by kernel_rfl
theorem Tryz.qV:Tryz.f49.ntmps=18:=by kernel_rfl
set_option maxHeartbeats 1000000 in
set_option maxRecDepth 100000 in
theorem iY(n:Nat)(p:Option Addr)(len cap:Nat)(w:World):
    CallsIn Fence.wide n Tryz.prog 108 #[.slice p len cap] w λe w'=>e= .returned (.func (.func 189) #[] #[.pointer (some ⟨w.heap.size,0,none⟩)])/\w'=w.alloc (.cells #[.slice p len cap] 22):=by
  refine callsIn_of_wp Tryz.func108 rfl trivial ?_ rfl;simp only[Tryz.nQ,List.size_toArray,List.length_cons,List.length_nil,Nat.reduceAdd,Nat.reduceSub,Array.replicate_succ,Array.replicate_zero,List.push_toArray,List.append_toArray,List.nil_append,List.cons_append]
  gi_wp2
  go_ret
  exact⟨rfl,rfl⟩
set_option maxHeartbeats 1000000 in
set_option maxRecDepth 100000 in
theorem eH(n:Nat)(h1:3<=n)(p:Option Addr)(len cap:Nat)(b:List UInt8)(y:Int×Int)(gl:List (Nat×List Value))
    (hC:ConOk Tryz.prog gl 190 ⟨[.lf (.list (.int .u8)) none],[.lf (.int .i64) none, .lf (.int .i64) none],Kf⟩)
    (w:World) (hv:Ag (λk=>k<w.heap.size) w (.list (.int .u8)) b [.slice p len cap]) (hgl:GlOk gl (λk=>k<w.heap.size) w) (hy:Lf b=some y):
    CallsIn Fence.wide n Tryz.prog 49 #[.slice p len cap] w λe w'=>e= .returned (.tuple #[.int .i64 y.1, .int .i64 y.2])/\KeepN (λ_=>True) w w':=by
  refine callsIn_of_wp_marks Tryz.func49 rfl trivial ?_ rfl;simp only[Tryz.qV,List.size_toArray,List.length_cons,List.length_nil,Nat.reduceAdd,Nat.reduceSub,Array.replicate_succ,Array.replicate_zero,List.push_toArray,List.append_toArray,List.nil_append,List.cons_append]
  gi_wp2
  refine⟨trivial,(λh=>nomatch h),(iY (n-1) _ _ _ _).mono ?_⟩;rintro e w' ⟨rfl,rfl⟩
  gi_wp2
  refine wpIn_rangeFunc_ownG (Kp:=KpF w.heap.size (w.heap.size+1+1+1)) rfl (by omega) (gf:=189) (lb:= #[.pointer (some ⟨w.heap.size+1+1+1,0,none⟩)]) rfl trivial (enters_of Tryz.func189 (by kernel_rfl) rfl)
    (mH (n-1) (w.heap.size+1+1+1) w.heap.size (.slice p len cap) b y gl hC _ ?ZX ?hn ?hv ?hgl hy)
    (λh k=>⟨Nat.le_trans h.le k.le,k.box.trans h.box,λj hj=>(k.old j hj).trans (h.old j hj)⟩) ?hKb (Below.refl _ _) (λ_=>rfl)
    (λpre W=>(∀x∈pre,x.2=0)/\ (W.cell? ⟨w.heap.size+1+1,0,none⟩=some (.int .i64 (UZ pre))/\W.frozen? ⟨w.heap.size+1+1,0,none⟩=false)/\
      (∃v,W.cell? ⟨w.heap.size,0,none⟩=some v/\W.frozen? ⟨w.heap.size,0,none⟩=false)/\ (∃v,W.cell? ⟨w.heap.size+1,0,none⟩=some v/\W.frozen? ⟨w.heap.size+1,0,none⟩=false)/\KeepN (λ_=>True) w W)
    (λc pre W=>c= .ret/\ (∃kU x,pre=kU++[x]/\x.2≠0/\W.cell? ⟨w.heap.size,0,none⟩=some (.int .i64 0)/\W.cell? ⟨w.heap.size+1,0,none⟩=some (.int .i64 x.2))/\KeepN (λ_=>True) w W)
    ?hI ?hIx ?h0
    (λx=>{tmps:= #[.slice p len cap,undef, .pointer (some ⟨w.heap.size,0,none⟩), .pointer (some ⟨w.heap.size+1,0,none⟩), .pointer (some ⟨w.heap.size+1+1,0,none⟩), .int .i64 x.1, .int .i64 x.2, .slice p len cap, .func (.func 189) #[] #[.pointer (some ⟨w.heap.size+1+1+1,0,none⟩)], .int .i64 x.1, .int .i64 x.2,undef,undef,undef,undef,undef,undef,undef],defers:=[]}) ?assign ?body ?done ?stop
  case assign=>
    intro l x W K hK
    gi_wp2
    exact hK
  case body=>
    rintro l pre x W ⟨hz,⟨hc,hf⟩,⟨v2,hc2,hf2⟩,⟨v3,hc3,hf3⟩,hk⟩ _
    gi_wp2
    · rename_i hx
      refine⟨(KeepsOthers.trans (KeepsOthers.setCell _ _ _) (KeepsOthers.setCell _ _ _)).from _,rfl,⟨pre,x,rfl,by simpa using hx,?_,?_⟩,Wu (Wu hk (Nat.le_refl _)) (Nat.le_succ _)⟩
      · refine(World.cell?_setCell_other _ _ _ _ (by simp)).trans ?_
        exact World.cell?_setCell_same' _ _ _ (by rw[hc2];rfl)
      · refine World.cell?_setCell_same' _ _ _ ?_
        rw[World.cell?_setCell_other W ⟨w.heap.size,0,none⟩ ⟨w.heap.size+1,0,none⟩ _ (by simp),hc3];rfl
    · rename_i hx
      have hx0:x.2=0:=by simpa using hx
      refine⟨(KeepsOthers.setCell _ _ _).from _,⟨((Below.refl 0 W).setCell (p:=⟨w.heap.size+1+1,0,none⟩) (Nat.zero_le _) _).size,heap_set (by simp),λk hk'=>heap_set (by simp;omega)⟩,?_,⟨?_,by rw[World.frozen?_setCell];exact hf⟩,⟨v2,?_,by rw[World.frozen?_setCell];exact hf2⟩,⟨v3,?_,by rw[World.frozen?_setCell];exact hf3⟩,Wu hk (by simp;omega)⟩
      · intro z hz'
        rcases List.mem_append.1 hz' with h|h
        · exact hz z h
        · simp at h;subst h;exact hx0
      · have e:UZ (pre++[x])=RowKit.wrap64 (UZ pre+x.1):=by
          simp only[UZ,List.foldl_append,List.foldl_cons,List.foldl_nil,Aa,GI.ofZ,GI.toZ,Go.Lv.wrap64,RowKit.wrap64];exact IntKind.wrap_i64 _
        rw[e];exact World.cell?_setCell_same' _ _ _ (by rw[hc];rfl)
      · exact(World.cell?_setCell_other _ _ _ _ (by simp;try omega)).trans hc2
      · exact(World.cell?_setCell_other _ _ _ _ (by simp)).trans hc3
  case done=>
    rintro D xs W hD hS ⟨hz,⟨hc,hf⟩,⟨v2,hc2,hf2⟩,⟨v3,hc3,hf3⟩,hk⟩ hK
    gi_wp2
    have hy':y=(UZ xs,0):=hS.elim (λ⟨x,hx,hne⟩=>absurd (hz x hx) hne) id;have hlen:w.heap.size+4<=D:=by simp only[World.size_alloc]at hD;omega
    have hK':=((KeepsOthers.setCell W ⟨w.heap.size,0,none⟩ (.int .i64 (UZ xs))).trans (KeepsOthers.setCell _ ⟨w.heap.size+1,0,none⟩ (.int .i64 0))).same D _ hK rfl;have hk2:=Wu (v:= .int .i64 0) (a:=⟨w.heap.size+1,0,none⟩) (Wu (v:= .int .i64 (UZ xs)) (a:=⟨w.heap.size,0,none⟩) hk (Nat.le_refl _)) (Nat.le_succ _);have d0:((W.setCell ⟨w.heap.size,0,none⟩ (.int .i64 (UZ xs))).setCell ⟨w.heap.size+1,0,none⟩ (.int .i64 0)).cell? ⟨w.heap.size,0,none⟩=some (.int .i64 (UZ xs)):=
      (World.cell?_setCell_other _ _ _ _ (by simp)).trans (World.cell?_setCell_same' _ _ _ (by rw[hc2];rfl))
    have d1:((W.setCell ⟨w.heap.size,0,none⟩ (.int .i64 (UZ xs))).setCell ⟨w.heap.size+1,0,none⟩ (.int .i64 0)).cell? ⟨w.heap.size+1,0,none⟩=some (.int .i64 0):=
      World.cell?_setCell_same' _ _ _ (by rw[World.cell?_setCell_other W ⟨w.heap.size,0,none⟩ ⟨w.heap.size+1,0,none⟩ _ (by simp),hc3];rfl)
    refine⟨by simp, .inl ⟨_,_,rfl,run_takeDeferred hK',?_⟩⟩;have hg:=grownBy_putObj' ((W.setCell ⟨w.heap.size,0,none⟩ (.int .i64 (UZ xs))).setCell ⟨w.heap.size+1,0,none⟩ (.int .i64 0)) D (.deferred none);have hr':∀r,some D=some r->∃o:Obj,((W.setCell ⟨w.heap.size,0,none⟩ (.int .i64 (UZ xs))).setCell ⟨w.heap.size+1,0,none⟩ (.int .i64 0)).heap[r]? =some o/\o.isCells=false:=λr e=>by cases e;exact⟨_,hK',rfl⟩
    have rW:=cell_kept d0 hg hr';have hc6:=cell_kept d1 hg hr';refine⟨.tuple #[.int .i64 (UZ xs), .int .i64 0],?_,by rw[hy'],?_⟩
    · simp[results,Tryz.f49,go_sem,rW,hc6]
    · refine⟨λb hb _=>(hg.block b (Nat.lt_of_lt_of_le hb hk2.gr.le) (λe=>?_)).trans (hk2.same b hb trivial),hk2.gr.trans ⟨hg.size,hg.os,hg.tape,hg.output⟩⟩
      cases e;omega
  case stop=>
    rintro D c pre W hD hS ⟨rfl,⟨kU,x,rfl,hx,hc2,hc3⟩,hk⟩ hK
    gi_wp2
    obtain⟨p1,x1,he,hy1⟩:=hS;have hy':y=(0,x.2):=by
      have:=List.append_inj' he rfl;cases this.2;exact hy1 hx
    have hlen:w.heap.size+4<=D:=by simp only[World.size_alloc]at hD;omega
    refine⟨by simp, .inl ⟨_,_,rfl,run_takeDeferred hK,?_⟩⟩;have hg:=grownBy_putObj' W D (.deferred none);have hr':∀r,some D=some r->∃o:Obj,W.heap[r]? =some o/\o.isCells=false:=λr e=>by cases e;exact⟨_,hK,rfl⟩
    have rW:=cell_kept hc2 hg hr';have hc6:=cell_kept hc3 hg hr';refine⟨.tuple #[.int .i64 0, .int .i64 x.2],?_,by rw[hy'],?_⟩
    · simp[results,Tryz.f49,go_sem,rW,hc6]
    · refine⟨λb hb _=>(hg.block b (Nat.lt_of_lt_of_le hb hk.gr.le) (λe=>?_)).trans (hk.same b hb trivial),hk.gr.trans ⟨hg.size,hg.os,hg.tape,hg.output⟩⟩
      cases e;omega
  case ZX=>
    have h:=World.alloc_heap_new (((w.alloc (.cells #[.int .i64 0] 3)).alloc (.cells #[.int .i64 0] 25)).alloc (.cells #[.int .i64 0] 3)) (.cells #[.slice p len cap] 22);simp only[World.size_alloc]at h;exact h
  case hn=>simp;omega
  case hI=>
    rintro s A B row ⟨hz,⟨hc,hf⟩,⟨v2,hc2,hf2⟩,⟨v3,hc3,hf3⟩,hk⟩ hg hr;have hr':∀r,row=some r->∃o:Obj,A.heap[r]? =some o/\o.isCells=false:=λr e=>(hr r e).2;refine⟨hz,⟨cell_kept hc hg hr',(frozen_kept hc hg hr').trans hf⟩,⟨v2,cell_kept hc2 hg hr',(frozen_kept hc2 hg hr').trans hf2⟩,⟨v3,cell_kept hc3 hg hr',(frozen_kept hc3 hg hr').trans hf3⟩,?_⟩;refine⟨λb hb _=>(hg.block b (Nat.lt_of_lt_of_le hb hk.gr.le) (λe=>?_)).trans (hk.same b hb trivial),hk.gr.trans ⟨hg.size,hg.os,hg.tape,hg.output⟩⟩;have:=(hr b e.symm).1;simp at this;omega
  case hIx=>
    rintro c s A B row ⟨hc,⟨kU,x,hs,hx,hc2,hc3⟩,hk⟩ hg hr;have hr':∀r,row=some r->∃o:Obj,A.heap[r]? =some o/\o.isCells=false:=λr e=>(hr r e).2;refine⟨hc,⟨kU,x,hs,hx,cell_kept hc2 hg hr',cell_kept hc3 hg hr'⟩,?_⟩;refine⟨λb hb _=>(hg.block b (Nat.lt_of_lt_of_le hb hk.gr.le) (λe=>?_)).trans (hk.same b hb trivial),hk.gr.trans ⟨hg.size,hg.os,hg.tape,hg.output⟩⟩;have:=(hr b e.symm).1;simp at this;omega
  case hKb=>
    intro W l o o' hl h _ _;have hlt:=(Array.getElem?_eq_some_iff.1 h).1;simp at hl;have hg:=grownBy_putObj' W l o';exact⟨hg.size,hg.block _ (by omega) (λe=>by cases e;omega),λk hk=>hg.block k (by omega) (λe=>by cases e;omega)⟩
  case hgl=>
    intro q hq;refine⟨by simp;have:=(hgl q hq).1;omega,(hgl q hq).2.1,?_⟩;have hb:=((((Below.refl w.heap.size w).alloc (Nat.le_refl _) (.cells #[.int .i64 0] 3)).alloc (by simp) (.cells #[.int .i64 0] 25)).alloc (by simp;omega) (.cells #[.int .i64 0] 3)).alloc (by simp;omega) (.cells #[.slice p len cap] 22);rw[hb.block _ (hgl q hq).1];exact(hgl q hq).2.2
  case hv=>
    have hb:=((((Below.refl w.heap.size w).alloc (Nat.le_refl _) (.cells #[.int .i64 0] 3)).alloc (by simp) (.cells #[.int .i64 0] 25)).alloc (by simp;omega) (.cells #[.int .i64 0] 3)).alloc (by simp;omega) (.cells #[.slice p len cap] 22);exact Ag.step (λ_ h=>h) (λk hk=>hb.block k hk) hv
  case h0=>
    have c0:=ES w (.int .i64 0) 3;have c1:=ES (w.alloc (.cells #[.int .i64 0] 3)) (.int .i64 0) 25;have c2:=ES ((w.alloc (.cells #[.int .i64 0] 3)).alloc (.cells #[.int .i64 0] 25)) (.int .i64 0) 3;simp only[World.size_alloc]at c1 c2;have hb:=((((Below.refl w.heap.size w).alloc (Nat.le_refl _) (.cells #[.int .i64 0] 3)).alloc (by simp) (.cells #[.int .i64 0] 25)).alloc (by simp;omega) (.cells #[.int .i64 0] 3)).alloc (by simp;omega) (.cells #[.slice p len cap] 22);exact⟨by simp,⟨Dl _ c2.1,Ew _ c2.1 c2.2⟩,⟨_,Dl _ (Dl _ (Dl _ c0.1)),Ew _ (Dl _ (Dl _ c0.1)) (Ew _ (Dl _ c0.1) (Ew _ c0.1 c0.2))⟩,
      ⟨_,Dl _ (Dl _ c1.1),Ew _ (Dl _ c1.1) (Ew _ c1.1 c1.2)⟩,⟨λb hb' _=>hb.block b hb',⟨hb.size,hb.os,hb.tape,hb.output⟩⟩⟩
def Rg:Con:=⟨[.lf (.list (.int .u8)) none],[.lf (.int .i64) none, .lf (.int .i64) none],λx=>Lf x⟩
theorem PN{gl:List (Nat×List Value)}(hE:Ent Tryz.prog 49)(hC:ConOk Tryz.prog gl 190 ⟨[.lf (.list (.int .u8)) none],[.lf (.int .i64) none, .lf (.int .i64) none],Kf⟩):ConOk Tryz.prog gl 49 Rg:=by
  refine⟨hE,?_⟩;intro R N w L0 vs ps x y hargs hlen hit RB hvs hgl hy;obtain rfl:=Option.some.inj (show some [PV.val (.list (.int .u8)) x]=some ps from hargs);obtain⟨v,_,rfl,h1,rfl⟩:=hvs;have h2:Ag (λb=>R b/\N b) w (.list (.int .u8)) x [v]:=h1;have h3:=Ag.step (B':=λk=>k<w.heap.size) (λ_ h=>h.1) (λ_ _=>rfl) (Ip h2);obtain⟨p,len,cap,rfl⟩:∃p len cap,v= .slice p len cap:=by
    obtain⟨v1,c0,e1,⟨p,len,cap,rfl,_⟩,_⟩:=h2;cases e1;exact⟨_,_,_,rfl⟩
  refine(callsIn_wide.1 (eH 3 (Nat.le_refl _) p len cap x y gl hC w h3 (λq hq=>⟨(hgl q hq).1,(hgl q hq).1,(hgl q hq).2.2⟩) hy)).mono ?_;rintro e w' ⟨rfl,hk⟩;refine⟨[.int .i64 y.1, .int .i64 y.2],rfl,⟨λb hb _=>hk.same b hb trivial,hk.gr⟩,λ_=>False,[],λ_ h=>h.elim,?_,?_⟩
  · trivial
  · intro s L B' hl _ _
    refine⟨[.val (.int .i64) y.1, .val (.int .i64) y.2],[],(show s=⟨s.sl,s.it++[],s.st⟩ by simp),rfl,?_,rfl,λi a m h=>by simp at h⟩;exact⟨_,_,rfl,rfl,_,_,rfl,rfl,rfl⟩
end Go.Proofs.YtjjeabieimfcpaaGreatDoor
