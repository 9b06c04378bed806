/- A part of a proof (see the text that ends in Proof). No conditions. -/
import Derived.Test.YtjjeabieimfcpaaGreatDoorOdPA
import Derived.Test.YtjjeabieimfcpaaGreatDoorProg
import Derived.KernelRfl
import Derived.RangeFuncKeeps
import Derived.RangeFuncLeaves
import Derived.RangeFuncWrites
import Derived.Shelf.Abstract
import Derived.LoopIn
import Derived.Test.YtjjeabieimfcpaaGreatDoorOdRA
set_option linter.unusedVariables false
set_option linter.unusedSimpArgs false
namespace Go.Proofs.YtjjeabieimfcpaaGreatDoor
open Go.RowKit Go.Shelf Go Go.Rx Go.Lv Go.Pl
attribute [local go_sem] Oper.semAt_some
theorem G7{W W':World}(h:KeepN (λ_=>True) W W'):W.grownBy W' none:=⟨h.gr.os,h.gr.tape,h.gr.output,h.gr.le,λk hk _=>h.same k hk trivial⟩
theorem qz{F:Fence}{n:Nat}{P:Program}{Q:Exit->Act->World->Prop}{a:Act}{w:World}{c:Code}(m:Nat)(I:Nat->Act->World->Prop)(h0:∀a w,¬I 0 a w)
    (hs:∀q a w,I (q+1) a w->c.wpIn F n P (Exit.then (I q) Q) a w) (h:I m a w):(Code.loop c).wpIn F n P Q a w:=by
  refine wpIn_loop_rounds m ?_
  induction m generalizing a w with
  |zero=>exact absurd h (h0 a w)
  |succ m ih=>
    rw[roundsIn_succ];refine wpIn_mono (hs m a w h) λe a' w' hh=>?_;cases e<;>first|exact ih hh|exact hh
theorem Auw{α:Type}{c:Prop} [Decidable c]{a b y:α}(h:(if c then a else b)=y)(hc:¬c):b=y:=by rw[if_neg hc]at h;exact h
theorem Aog{A:Reg}{w:World}{v:Value}{k:Kd}{l y:List k.T}{a:Int}(h:Bc A w (.list (.int k)) l [v])(hc:Bp l a (Ac l)=some y):
    ∃(p:Option Addr) (len cap m:Nat),v= .slice p len cap/\a=(m:Int)/\m<=len/\len<=cap/\Bc A w (.list (.int k)) y [.slice (if cap=m then p else p.map (·.add m)) (len-m) (cap-m)]:=by
  obtain⟨v1,c0,e1,h1,h2⟩:=h;cases e1;obtain⟨p,len,cap,rfl,g1,g2,g3,g4⟩:=h1;obtain⟨k1,k2,k3,k4,rfl⟩:=VD hc;simp only[ET.size,Nat.mul_one]at g1 g4;have hll:=h2.len (z:=1) λx c h=>by rw[show c=_ from h];rfl
  have hln:l.length=len:=by omega
  have hto:(Ac l).toNat=len:=by simp[Ac,hln]
  rw[hto]at k3⊢;refine⟨p,len,cap,a.toNat,rfl,k1,k3,g2,_,c0.drop a.toNat,rfl,⟨_,_,_,rfl,?_,by omega,λhp=>?_,λhcap=>?_⟩,?_⟩
  · simp only[ET.size,List.length_drop];omega
  · split at hp
    · omega
    · rename_i hne
      cases p with
      |none=>have:=g3 rfl;omega
      |some a=>cases hp
  · rw[if_neg (by omega)]
    obtain⟨b,off,arr,T,fr,rfl,e2,e3,e4,e5⟩:=g4 (by omega);refine⟨b,off+a.toNat,arr,T,fr,by simp[Addr.add],e2,e3,by simp only[ET.size];omega,λi hi=>?_⟩;simp only[ET.size]at hi;rw[List.getElem?_drop,<-e5 (a.toNat+i) (by omega),Nat.add_assoc]
  · have:=Cv.drop (z:=1) (λx c h=>by rw[show c=_ from h];rfl) a.toNat h2
    rw[Nat.mul_one]at this;rw[List.take_of_length_le (by omega)];exact this
theorem Atp{P:Program}{f:Nat}{gl:List (Nat×List Value)}{F:List UInt8->Option (Int×Int)}(hC:ConOk P gl f ⟨[.lf (.list (.int .u8)) none],[.lf (.int .i64) none, .lf (.int .i64) none],F⟩){A:Reg}{W:World}{v:Value}{s:List UInt8}{r:Int×Int}
    (hv:Bc A W (.list (.int .u8)) s [v]) (hgl:GlOk gl A W) (h:F s=some r):Calls P f #[v] W λe W'=>e= .returned (.tuple #[.int .i64 r.1, .int .i64 r.2])/\KeepN (λ_=>True) W W':=by
  have hv':Bc (λ_=>True/\True) W (.list (.int .u8)) s [v]:=Bc.step (λ_ _=>⟨trivial,trivial⟩) (λ_ _=>rfl) hv;refine(hC.ok (λ_=>True) (λ_=>True) W [] [v] [.val (.list (.int .u8)) s] s r rfl rfl (λi a m _ h=>by simp at h) trivial ⟨v,[],rfl,hv',rfl⟩ (λp hp=>⟨(hgl p hp).1,trivial,(hgl p hp).2.2⟩) h).mono ?_;rintro e w' ⟨us,rfl,hk,A1,L1,g1,g2,g3⟩;obtain⟨ps,its,k1,k2,k3,k4,k5⟩:=g3 ⟨[],[],[]⟩ [] (λ_=>True) rfl (λ_ _=>trivial) (λ_ _ _=>trivial);refine⟨?_,hk⟩;obtain rfl:=Option.some.inj (show some [PV.val (.int .i64) r.1,PV.val (.int .i64) r.2]=some ps from k2);obtain⟨_,_,rfl,e1,_,_,rfl,e2,rfl⟩:=k3;cases(show [_]=[Value.int .i64 r.1]from e1);cases(show [_]=[Value.int .i64 r.2]from e2);rfl
structure KpF (n₀ Bx:Nat) (A B:World):Prop where
  le:A.heap.size<=B.heap.size
  box:B.heap[Bx]? =A.heap[Bx]?
  old:∀k,k<n₀->B.heap[k]? =A.heap[k]?
def Y6(l:List (Int×Int)):Int:=l.foldl (λs x=>Af s x.1) 0
def fin(y:Int×Int)(xs:List (Int×Int)):Prop:=(∃x∈xs,x.2≠0)\/y=(Y6 xs,0)
def Aj7(y:Int×Int)(pre:List (Int×Int)):Prop:=∃p x,pre=p++[x]/\ (x.2≠0->y=(0,x.2))
theorem Tryz.Atx:Tryz.f189.ntmps=35:=by kernel_rfl
theorem Tryz.u25:Tryz.prog.underlying 22=some (.slice 5):=by kernel_rfl
theorem Tryz.sz5:Md Tryz.prog 5 1:=Md.mk (by kernel_rfl)
set_option maxHeartbeats 2000000 in
set_option maxRecDepth 100000 in
theorem Anq(n:Nat)(l Bx n₀:Nat)(v:Value)(b:List UInt8)(y:Int×Int)(J Jx:List (Int×Int)->World->Prop)(gl:List (Nat×List Value))
    (hC:ConOk Tryz.prog gl 190 ⟨[.lf (.list (.int .u8)) none],[.lf (.int .i64) none, .lf (.int .i64) none],CU⟩)
    (hY:∀pre x W,J pre W->pre.length<Ba->YieldAt Fence.wide (n-1) Tryz.prog l #[.int .i64 x.1, .int .i64 x.2] W λe W'=>
      (e= .returned (.bool true)/\J (pre++[x]) W'/\KpF n₀ Bx W W')\/ (e= .returned (.bool false)/\Jx (pre++[x]) W'))
    (W0:World) (hJ:AbidesFrom W0.heap.size J) (Acq:W0.heap[Bx]? =some (.cells #[v] 22 (0,0))) (hn:n₀<=W0.heap.size) (hv:Bc (λk=>k<n₀) W0 (.list (.int .u8)) b [v]) (hgl:GlOk gl (λk=>k<n₀) W0)
    (h0:J [] W0) (hy:Kg b=some y):
    CallsIn Fence.wide n Tryz.prog 189 #[.func (.yield l) #[] #[], .pointer (some ⟨Bx,0,none⟩)] W0 λe W'=>(∃v,e= .returned v)/\ ((∃ys,fin y ys/\J ys W')\/ (∃pre,Aj7 y pre/\Jx pre W')):=by
  refine callsIn_of_wp Tryz.func189 rfl trivial ?_ rfl;simp only[Tryz.Atx,List.size_toArray,List.length_cons,List.length_nil,Nat.reduceAdd,Nat.reduceSub,Array.replicate_succ,Array.replicate_zero,List.push_toArray,List.append_toArray,List.nil_append,List.cons_append]
  gi_wp2
  refine qz Ba (λq a W=>∃(pre:List (Int×Int)) (x:Int) (v2 v4 v5 v6 v7 v8 v9 v10 v11 v12 v13 v14 v15 v16 v17 v18 v19 v20 v21 v22 v23 v24 v25 v26 v27 v28 v29 v30 v31 v32 v33 v34:Value),a={tmps:= #[.func (.yield l) #[] #[], .pointer (some ⟨Bx,0,none⟩),v2, .int .i64 x,v4,v5,v6,v7,v8,v9,v10,v11,v12,v13,v14,v15,v16,v17,v18,v19,v20,v21,v22,v23,v24,v25,v26,v27,v28,v29,v30,v31,v32,v33,v34],defers:=[]}/\Yy b q x=some y/\Y6 pre=x/\pre.length+q=Ba/\J pre W/\KpF n₀ Bx W0 W/\W0.heap.size<=W.heap.size) ?_ ?_ ?_
  · rintro a W ⟨pre,x,v2,v4,v5,v6,v7,v8,v9,v10,v11,v12,v13,v14,v15,v16,v17,v18,v19,v20,v21,v22,v23,v24,v25,v26,v27,v28,v29,v30,v31,v32,v33,v34,_,h,_⟩
    cases h
  · rintro q a W ⟨pre,x,v2,v4,v5,v6,v7,v8,v9,v10,v11,v12,v13,v14,v15,v16,v17,v18,v19,v20,v21,v22,v23,v24,v25,v26,v27,v28,v29,v30,v31,v32,v33,v34,rfl,h,hx,hl,hJ1,hk,hs⟩
    simp only[Yy]at h;obtain⟨s,hcut,h⟩:=Go.Lv.bind_some h;obtain⟨r,hsz,h⟩:=Go.Lv.bind_some h;have hvW:Bc (λk=>k<n₀) W (.list (.int .u8)) b [v]:=Bc.step (λ_ h=>h) (λk hk'=>hk.old k hk') hv;obtain⟨p,len,cap,m,rfl,rfl,hm,hlc,hsv⟩:=Aog (k:= .u8) hvW hcut;have hc:W.cell? ⟨Bx,0,none⟩=some (.slice p len cap):=by
      have:=hk.box;simp only[World.cell?,this,Acq];rfl
    have hu:=Tryz.u25;have hz:=Tryz.sz5;obtain⟨k,e⟩:=r;have e1:geq e 6=(e==6):=rfl;have e2:geq e 0=(e==0):=rfl;have e3:Af (m:Int) k=RowKit.wrap64 (m+k):=by
      simp only[Af,GI.ofZ,GI.toZ,Go.Lv.wrap64,RowKit.wrap64];exact IntKind.wrap_i64 _
    have e4:Fb (RowKit.wrap64 (m+k)) 4000=decide (4000<RowKit.wrap64 (m+k)):=rfl;have e5:Bq e 0=(e !=0):=rfl;rw[e1,e2,e3,e4,e5]at h;have hp:=h;have hgW:GlOk gl (λk=>k<n₀) W:=λp hp=>⟨Nat.lt_of_lt_of_le (hgl p hp).1 hs,(hgl p hp).2.1,by rw[hk.old _ (hgl p hp).2.1];exact(hgl p hp).2.2⟩;have hcall:∀v',Bc (λk=>k<n₀) W (.list (.int .u8)) s [v']->CallsIn Fence.wide (n-1) Tryz.prog 190 #[v'] W λe0 W'=>e0= .returned (.tuple #[.int .i64 k, .int .i64 e])/\KeepN (λ_=>True) W W':=
      λv' hv'=>callsIn_wide.2 (Atp hC hv' hgW hsz)
    have hsm:∀z:Int,Y6 (pre++[(k,z)])=RowKit.wrap64 (m+k):=λz=>by rw[<-e3,<-hx];simp[Y6]
    have hlt:Bx<W.heap.size:=Nat.lt_of_lt_of_le (Array.getElem?_eq_some_iff.1 Acq).1 hs
    gi_wp2
    all_goals
      refine⟨trivial,(λh=>nomatch h),(hcall _ (by first|(rw[if_neg (by assumption)]at hsv;exact hsv)|(simpa [*]using hsv))).mono ?_⟩;rintro e0 W1 ⟨rfl,hk1⟩;have hJ2:=hJ pre W W1 none hJ1 (G7 hk1) (λr e=>by cases e);have hyl:∀e',YieldAt Fence.wide (n-1) Tryz.prog l #[Value.int IntKind.i64 k,Value.int IntKind.i64 e'] W1 _:=λe'=>hY pre (k,e') W1 hJ2 (by omega)
      gi_wp2
      · rename_i h6
        rw[if_pos h6]at hp;refine bodyPost_ret (results_none rfl _ _ _) rfl ?_;exact⟨⟨_,rfl⟩, .inl ⟨pre, .inr (by rw[hx];cases hp;rfl),hJ2⟩⟩
      · obtain⟨fn,tmps,assign,body,hy1,hR⟩:=hyl 4
        rw[hy1]
        gi_wp2
        refine⟨(λh=>nomatch h),hR.mono ?_⟩;rintro e3 W3 (⟨rfl,hJ3,hk3⟩|⟨rfl,hJx3⟩)
        · gi_wp2
          refine bodyPost_ret (results_none rfl _ _ _) rfl ?_;exact⟨⟨_,rfl⟩, .inl ⟨pre++[(k,4)], .inl ⟨(k,4),by simp,by simp⟩,hJ3⟩⟩
        · gi_wp2
          refine bodyPost_ret (results_none rfl _ _ _) rfl ?_;refine⟨⟨_,rfl⟩, .inr ⟨pre++[(k,4)],⟨pre,(k,4),rfl,λhne=>?_⟩,hJx3⟩⟩;simp at hne
          all_goals simp_all
      · obtain⟨fn,tmps,assign,body,hy1,hR⟩:=hyl 0
        rw[hy1]
        gi_wp2
        refine⟨(λh=>nomatch h),hR.mono ?_⟩;rintro e3 W3 (⟨rfl,hJ3,hk3⟩|⟨rfl,hJx3⟩)
        · gi_wp2
          refine⟨pre++[(k,0)],_,_,_,_,_,_,_,_,_,_,_,_,_,_,_,_,_,_,_,_,_,_,_,_,_,_,_,_,_,_,_,_,_,rfl,?_,‹∀z:Int,Y6 (pre++[(k,z)])=RowKit.wrap64 ((m:Int)+k)› 0,by simp;omega,hJ3,⟨?_,?_,?_⟩,?_⟩
          · simp_all
            exact Auw (by assumption) (by omega)
          · exact Nat.le_trans hk.le (Nat.le_trans hk1.gr.le hk3.le)
          · exact hk3.box.trans ((hk1.same _ ‹Bx<W.heap.size› trivial).trans hk.box)
          · exact λj hj=>(hk3.old j hj).trans ((hk1.same j (Nat.lt_of_lt_of_le hj (Nat.le_trans hn hs)) trivial).trans (hk.old j hj))
          · exact Nat.le_trans hs (Nat.le_trans hk1.gr.le hk3.le)
        · gi_wp2
          refine bodyPost_ret (results_none rfl _ _ _) rfl ?_;exact⟨⟨_,rfl⟩, .inr ⟨pre++[(k,0)],⟨pre,(k,0),rfl,λhne=>absurd rfl hne⟩,hJx3⟩⟩
      · obtain⟨fn,tmps,assign,body,hy1,hR⟩:=hyl e
        rw[hy1]
        gi_wp2
        refine⟨(λh=>nomatch h),hR.mono ?_⟩;rintro e3 W3 (⟨rfl,hJ3,hk3⟩|⟨rfl,hJx3⟩)
        · gi_wp2
          rename_i hne;refine bodyPost_ret (results_none rfl _ _ _) rfl ?_;exact⟨⟨_,rfl⟩, .inl ⟨pre++[(k,e)], .inl ⟨(k,e),by simp,by simpa using hne⟩,hJ3⟩⟩
        · gi_wp2
          refine bodyPost_ret (results_none rfl _ _ _) rfl ?_;refine⟨⟨_,rfl⟩, .inr ⟨pre++[(k,e)],⟨pre,(k,e),rfl,λhne=>?_⟩,hJx3⟩⟩;simp at hne
          all_goals simp_all
  · exact⟨[],0,_,_,_,_,_,_,_,_,_,_,_,_,_,_,_,_,_,_,_,_,_,_,_,_,_,_,_,_,_,_,_,_,rfl,hy,rfl,by simp,h0,⟨Nat.le_refl _,rfl,λ_ _=>rfl⟩,Nat.le_refl _⟩
theorem Aro(n Bx n₀:Nat)(v:Value)(b:List UInt8)(y:Int×Int)(gl:List (Nat×List Value))
    (hC:ConOk Tryz.prog gl 190 ⟨[.lf (.list (.int .u8)) none],[.lf (.int .i64) none, .lf (.int .i64) none],CU⟩)
    (w:World) (Acq:w.heap[Bx]? =some (.cells #[v] 22 (0,0))) (hn:n₀<=w.heap.size) (hv:Bc (λk=>k<n₀) w (.list (.int .u8)) b [v]) (hgl:GlOk gl (λk=>k<n₀) w) (hy:Kg b=some y):
    SeqStopsK Fence.wide n Tryz.prog 189 #[.pointer (some ⟨Bx,0,none⟩)] (λx:Int×Int=> #[.int .i64 x.1, .int .i64 x.2]) (KpF n₀ Bx) (fin y) (Aj7 y) Ba w:=by
  intro l J Jx W hW hJ hJx hY h0;have hlt:=(Array.getElem?_eq_some_iff.1 Acq).1;have hb:∀k,k<n₀->W.heap[k]? =w.heap[k]? :=λk hk=>hW.block k (Nat.lt_of_lt_of_le hk hn);exact Anq n l Bx n₀ v b y J Jx gl hC hY W hJ ((hW.block Bx hlt).trans Acq) (Nat.le_trans hn hW.size) (Bc.step (λ_ h=>h) hb hv)
    (λp hp=>⟨Nat.lt_of_lt_of_le (hgl p hp).1 hW.size,(hgl p hp).2.1,by rw[hb _ (hgl p hp).2.1];exact(hgl p hp).2.2⟩) h0 hy
theorem hU{w W:World}{a:Addr}{v:Value}(h:KeepN (λ_=>True) w W)(ha:w.heap.size<=a.block):KeepN (λ_=>True) w (W.setCell a v):=by
  have hb:=(Below.refl w.heap.size W).setCell (p:=a) ha v;exact⟨λb hb' _=>(hb.block b hb').trans (h.same b hb' trivial),h.gr.trans ⟨hb.size,hb.os,hb.tape,hb.output⟩⟩
theorem heap_set{W:World}{a:Addr}{v:Value}{k:Nat}(h:k≠a.block):(W.setCell a v).heap[k]? =W.heap[k]? :=
  ((Below.refl (k+1) {W with heap:=W.heap}).block k (by omega)▸(by
    show(W.heap.modify a.block _)[k]? =W.heap[k]?;rw[Array.getElem?_modify,if_neg (Ne.symm h)]))
theorem Aal{W:World}{B:Nat}{v:Value}{t:TypeId}(h:W.heap[B]? =some (.cells #[v] t (0,0))):W.cell? ⟨B,0,none⟩=some v/\W.frozen? ⟨B,0,none⟩=false:=by
  constructor<;>simp[World.cell?,World.frozen?,h]
theorem pA(W:World)(v:Value)(t:TypeId):(W.alloc (.cells #[v] t)).cell? ⟨W.heap.size,0,none⟩=some v/\ (W.alloc (.cells #[v] t)).frozen? ⟨W.heap.size,0,none⟩=false:=Aal (World.alloc_heap_new W _)
theorem Nd{W:World}{a:Addr}{v:Value}(o:Obj)(h:W.cell? a=some v):(W.alloc o).cell? a=some v:=cell_kept h (World.grownBy_alloc W o none) (λr e=>by cases e)
theorem Wj{W:World}{a:Addr}{v:Value}(o:Obj)(h:W.cell? a=some v)(hf:W.frozen? a=false):(W.alloc o).frozen? a=false:=(frozen_kept h (World.grownBy_alloc W o none) (λr e=>by cases e)).trans hf
theorem Tryz.Ate:Tryz.f108.ntmps=4:=by kernel_rfl
theorem Tryz.Av8:Tryz.f49.ntmps=18:=by kernel_rfl
set_option maxHeartbeats 1000000 in
set_option maxRecDepth 100000 in
theorem Anh(n:Nat)(p:Option Addr)(len cap:Nat)(w:World):
    CallsIn Fence.wide n Tryz.prog 108 #[.slice p len cap] w λe w'=>e= .returned (.func (.func 189) #[] #[.pointer (some ⟨w.heap.size,0,none⟩)])/\w'=w.alloc (.cells #[.slice p len cap] 22):=by
  refine callsIn_of_wp Tryz.func108 rfl trivial ?_ rfl;simp only[Tryz.Ate,List.size_toArray,List.length_cons,List.length_nil,Nat.reduceAdd,Nat.reduceSub,Array.replicate_succ,Array.replicate_zero,List.push_toArray,List.append_toArray,List.nil_append,List.cons_append]
  gi_wp2
  go_ret
  exact⟨rfl,rfl⟩
set_option maxHeartbeats 1000000 in
set_option maxRecDepth 100000 in
theorem Aic(n:Nat)(h1:3<=n)(p:Option Addr)(len cap:Nat)(b:List UInt8)(y:Int×Int)(gl:List (Nat×List Value))
    (hC:ConOk Tryz.prog gl 190 ⟨[.lf (.list (.int .u8)) none],[.lf (.int .i64) none, .lf (.int .i64) none],CU⟩)
    (w:World) (hv:Bc (λk=>k<w.heap.size) w (.list (.int .u8)) b [.slice p len cap]) (hgl:GlOk gl (λk=>k<w.heap.size) w) (hy:Kg b=some y):
    CallsIn Fence.wide n Tryz.prog 49 #[.slice p len cap] w λe w'=>e= .returned (.tuple #[.int .i64 y.1, .int .i64 y.2])/\KeepN (λ_=>True) w w':=by
  refine callsIn_of_wp_marks Tryz.func49 rfl trivial ?_ rfl;simp only[Tryz.Av8,List.size_toArray,List.length_cons,List.length_nil,Nat.reduceAdd,Nat.reduceSub,Array.replicate_succ,Array.replicate_zero,List.push_toArray,List.append_toArray,List.nil_append,List.cons_append]
  gi_wp2
  refine⟨trivial,(λh=>nomatch h),(Anh (n-1) _ _ _ _).mono ?_⟩;rintro e w' ⟨rfl,rfl⟩
  gi_wp2
  refine wpIn_rangeFunc_ownG (Kp:=KpF w.heap.size (w.heap.size+1+1+1)) rfl (by omega) (gf:=189) (lb:= #[.pointer (some ⟨w.heap.size+1+1+1,0,none⟩)]) rfl trivial (enters_of Tryz.func189 (by kernel_rfl) rfl)
    (Aro (n-1) (w.heap.size+1+1+1) w.heap.size (.slice p len cap) b y gl hC _ ?Acq ?hn ?hv ?hgl hy)
    (λh k=>⟨Nat.le_trans h.le k.le,k.box.trans h.box,λj hj=>(k.old j hj).trans (h.old j hj)⟩) ?hKb (Below.refl _ _) (λ_=>rfl)
    (λpre W=>(∀x∈pre,x.2=0)/\ (W.cell? ⟨w.heap.size+1+1,0,none⟩=some (.int .i64 (Y6 pre))/\W.frozen? ⟨w.heap.size+1+1,0,none⟩=false)/\
      (∃v,W.cell? ⟨w.heap.size,0,none⟩=some v/\W.frozen? ⟨w.heap.size,0,none⟩=false)/\ (∃v,W.cell? ⟨w.heap.size+1,0,none⟩=some v/\W.frozen? ⟨w.heap.size+1,0,none⟩=false)/\KeepN (λ_=>True) w W)
    (λc pre W=>c= .ret/\ (∃Apn x,pre=Apn++[x]/\x.2≠0/\W.cell? ⟨w.heap.size,0,none⟩=some (.int .i64 0)/\W.cell? ⟨w.heap.size+1,0,none⟩=some (.int .i64 x.2))/\KeepN (λ_=>True) w W)
    ?hI ?hIx ?h0
    (λx=>{tmps:= #[.slice p len cap,undef, .pointer (some ⟨w.heap.size,0,none⟩), .pointer (some ⟨w.heap.size+1,0,none⟩), .pointer (some ⟨w.heap.size+1+1,0,none⟩), .int .i64 x.1, .int .i64 x.2, .slice p len cap, .func (.func 189) #[] #[.pointer (some ⟨w.heap.size+1+1+1,0,none⟩)], .int .i64 x.1, .int .i64 x.2,undef,undef,undef,undef,undef,undef,undef],defers:=[]}) ?assign ?body ?done ?stop
  case assign=>
    intro l x W K hK
    gi_wp2
    exact hK
  case body=>
    rintro l pre x W ⟨hz,⟨hc,hf⟩,⟨v2,hc2,hf2⟩,⟨v3,hc3,hf3⟩,hk⟩ _
    gi_wp2
    · rename_i hx
      refine⟨(KeepsOthers.trans (KeepsOthers.setCell _ _ _) (KeepsOthers.setCell _ _ _)).from _,rfl,⟨pre,x,rfl,by simpa using hx,?_,?_⟩,hU (hU hk (Nat.le_refl _)) (Nat.le_succ _)⟩
      · refine(World.cell?_setCell_other _ _ _ _ (by simp)).trans ?_
        exact World.cell?_setCell_same' _ _ _ (by rw[hc2];rfl)
      · refine World.cell?_setCell_same' _ _ _ ?_
        rw[World.cell?_setCell_other W ⟨w.heap.size,0,none⟩ ⟨w.heap.size+1,0,none⟩ _ (by simp),hc3];rfl
    · rename_i hx
      have hx0:x.2=0:=by simpa using hx
      refine⟨(KeepsOthers.setCell _ _ _).from _,⟨((Below.refl 0 W).setCell (p:=⟨w.heap.size+1+1,0,none⟩) (Nat.zero_le _) _).size,heap_set (by simp),λk hk'=>heap_set (by simp;omega)⟩,?_,⟨?_,by rw[World.frozen?_setCell];exact hf⟩,⟨v2,?_,by rw[World.frozen?_setCell];exact hf2⟩,⟨v3,?_,by rw[World.frozen?_setCell];exact hf3⟩,hU hk (by simp;omega)⟩
      · intro z hz'
        rcases List.mem_append.1 hz' with h|h
        · exact hz z h
        · simp at h;subst h;exact hx0
      · have e:Y6 (pre++[x])=RowKit.wrap64 (Y6 pre+x.1):=by
          simp only[Y6,List.foldl_append,List.foldl_cons,List.foldl_nil,Af,GI.ofZ,GI.toZ,Go.Lv.wrap64,RowKit.wrap64];exact IntKind.wrap_i64 _
        rw[e];exact World.cell?_setCell_same' _ _ _ (by rw[hc];rfl)
      · exact(World.cell?_setCell_other _ _ _ _ (by simp;try omega)).trans hc2
      · exact(World.cell?_setCell_other _ _ _ _ (by simp)).trans hc3
  case done=>
    rintro D xs W hD hS ⟨hz,⟨hc,hf⟩,⟨v2,hc2,hf2⟩,⟨v3,hc3,hf3⟩,hk⟩ hK
    gi_wp2
    have hy':y=(Y6 xs,0):=hS.elim (λ⟨x,hx,hne⟩=>absurd (hz x hx) hne) id;have hlen:w.heap.size+4<=D:=by simp only[World.size_alloc]at hD;omega
    have hK':=((KeepsOthers.setCell W ⟨w.heap.size,0,none⟩ (.int .i64 (Y6 xs))).trans (KeepsOthers.setCell _ ⟨w.heap.size+1,0,none⟩ (.int .i64 0))).same D _ hK rfl;have hk2:=hU (v:= .int .i64 0) (a:=⟨w.heap.size+1,0,none⟩) (hU (v:= .int .i64 (Y6 xs)) (a:=⟨w.heap.size,0,none⟩) hk (Nat.le_refl _)) (Nat.le_succ _);have d0:((W.setCell ⟨w.heap.size,0,none⟩ (.int .i64 (Y6 xs))).setCell ⟨w.heap.size+1,0,none⟩ (.int .i64 0)).cell? ⟨w.heap.size,0,none⟩=some (.int .i64 (Y6 xs)):=
      (World.cell?_setCell_other _ _ _ _ (by simp)).trans (World.cell?_setCell_same' _ _ _ (by rw[hc2];rfl))
    have d1:((W.setCell ⟨w.heap.size,0,none⟩ (.int .i64 (Y6 xs))).setCell ⟨w.heap.size+1,0,none⟩ (.int .i64 0)).cell? ⟨w.heap.size+1,0,none⟩=some (.int .i64 0):=
      World.cell?_setCell_same' _ _ _ (by rw[World.cell?_setCell_other W ⟨w.heap.size,0,none⟩ ⟨w.heap.size+1,0,none⟩ _ (by simp),hc3];rfl)
    refine⟨by simp, .inl ⟨_,_,rfl,run_takeDeferred hK',?_⟩⟩;have hg:=grownBy_putObj' ((W.setCell ⟨w.heap.size,0,none⟩ (.int .i64 (Y6 xs))).setCell ⟨w.heap.size+1,0,none⟩ (.int .i64 0)) D (.deferred none);have hr':∀r,some D=some r->∃o:Obj,((W.setCell ⟨w.heap.size,0,none⟩ (.int .i64 (Y6 xs))).setCell ⟨w.heap.size+1,0,none⟩ (.int .i64 0)).heap[r]? =some o/\o.isCells=false:=λr e=>by cases e;exact⟨_,hK',rfl⟩
    have hc5:=cell_kept d0 hg hr';have hc6:=cell_kept d1 hg hr';refine⟨.tuple #[.int .i64 (Y6 xs), .int .i64 0],?_,by rw[hy'],?_⟩
    · simp[results,Tryz.f49,go_sem,hc5,hc6]
    · refine⟨λb hb _=>(hg.block b (Nat.lt_of_lt_of_le hb hk2.gr.le) (λe=>?_)).trans (hk2.same b hb trivial),hk2.gr.trans ⟨hg.size,hg.os,hg.tape,hg.output⟩⟩
      cases e;omega
  case stop=>
    rintro D c pre W hD hS ⟨rfl,⟨Apn,x,rfl,hx,hc2,hc3⟩,hk⟩ hK
    gi_wp2
    obtain⟨p1,x1,he,hy1⟩:=hS;have hy':y=(0,x.2):=by
      have:=List.append_inj' he rfl;cases this.2;exact hy1 hx
    have hlen:w.heap.size+4<=D:=by simp only[World.size_alloc]at hD;omega
    refine⟨by simp, .inl ⟨_,_,rfl,run_takeDeferred hK,?_⟩⟩;have hg:=grownBy_putObj' W D (.deferred none);have hr':∀r,some D=some r->∃o:Obj,W.heap[r]? =some o/\o.isCells=false:=λr e=>by cases e;exact⟨_,hK,rfl⟩
    have hc5:=cell_kept hc2 hg hr';have hc6:=cell_kept hc3 hg hr';refine⟨.tuple #[.int .i64 0, .int .i64 x.2],?_,by rw[hy'],?_⟩
    · simp[results,Tryz.f49,go_sem,hc5,hc6]
    · refine⟨λb hb _=>(hg.block b (Nat.lt_of_lt_of_le hb hk.gr.le) (λe=>?_)).trans (hk.same b hb trivial),hk.gr.trans ⟨hg.size,hg.os,hg.tape,hg.output⟩⟩
      cases e;omega
  case Acq=>
    have h:=World.alloc_heap_new (((w.alloc (.cells #[.int .i64 0] 3)).alloc (.cells #[.int .i64 0] 25)).alloc (.cells #[.int .i64 0] 3)) (.cells #[.slice p len cap] 22);simp only[World.size_alloc]at h;exact h
  case hn=>simp;omega
  case hI=>
    rintro s A B row ⟨hz,⟨hc,hf⟩,⟨v2,hc2,hf2⟩,⟨v3,hc3,hf3⟩,hk⟩ hg hr;have hr':∀r,row=some r->∃o:Obj,A.heap[r]? =some o/\o.isCells=false:=λr e=>(hr r e).2;refine⟨hz,⟨cell_kept hc hg hr',(frozen_kept hc hg hr').trans hf⟩,⟨v2,cell_kept hc2 hg hr',(frozen_kept hc2 hg hr').trans hf2⟩,⟨v3,cell_kept hc3 hg hr',(frozen_kept hc3 hg hr').trans hf3⟩,?_⟩;refine⟨λb hb _=>(hg.block b (Nat.lt_of_lt_of_le hb hk.gr.le) (λe=>?_)).trans (hk.same b hb trivial),hk.gr.trans ⟨hg.size,hg.os,hg.tape,hg.output⟩⟩;have:=(hr b e.symm).1;simp at this;omega
  case hIx=>
    rintro c s A B row ⟨hc,⟨Apn,x,hs,hx,hc2,hc3⟩,hk⟩ hg hr;have hr':∀r,row=some r->∃o:Obj,A.heap[r]? =some o/\o.isCells=false:=λr e=>(hr r e).2;refine⟨hc,⟨Apn,x,hs,hx,cell_kept hc2 hg hr',cell_kept hc3 hg hr'⟩,?_⟩;refine⟨λb hb _=>(hg.block b (Nat.lt_of_lt_of_le hb hk.gr.le) (λe=>?_)).trans (hk.same b hb trivial),hk.gr.trans ⟨hg.size,hg.os,hg.tape,hg.output⟩⟩;have:=(hr b e.symm).1;simp at this;omega
  case hKb=>
    intro W l o o' hl h _ _;have hlt:=(Array.getElem?_eq_some_iff.1 h).1;simp at hl;have hg:=grownBy_putObj' W l o';exact⟨hg.size,hg.block _ (by omega) (λe=>by cases e;omega),λk hk=>hg.block k (by omega) (λe=>by cases e;omega)⟩
  case hgl=>
    intro q hq;refine⟨by simp;have:=(hgl q hq).1;omega,(hgl q hq).2.1,?_⟩;have hb:=((((Below.refl w.heap.size w).alloc (Nat.le_refl _) (.cells #[.int .i64 0] 3)).alloc (by simp) (.cells #[.int .i64 0] 25)).alloc (by simp;omega) (.cells #[.int .i64 0] 3)).alloc (by simp;omega) (.cells #[.slice p len cap] 22);rw[hb.block _ (hgl q hq).1];exact(hgl q hq).2.2
  case hv=>
    have hb:=((((Below.refl w.heap.size w).alloc (Nat.le_refl _) (.cells #[.int .i64 0] 3)).alloc (by simp) (.cells #[.int .i64 0] 25)).alloc (by simp;omega) (.cells #[.int .i64 0] 3)).alloc (by simp;omega) (.cells #[.slice p len cap] 22);exact Bc.step (λ_ h=>h) (λk hk=>hb.block k hk) hv
  case h0=>
    have c0:=pA w (.int .i64 0) 3;have c1:=pA (w.alloc (.cells #[.int .i64 0] 3)) (.int .i64 0) 25;have c2:=pA ((w.alloc (.cells #[.int .i64 0] 3)).alloc (.cells #[.int .i64 0] 25)) (.int .i64 0) 3;simp only[World.size_alloc]at c1 c2;have hb:=((((Below.refl w.heap.size w).alloc (Nat.le_refl _) (.cells #[.int .i64 0] 3)).alloc (by simp) (.cells #[.int .i64 0] 25)).alloc (by simp;omega) (.cells #[.int .i64 0] 3)).alloc (by simp;omega) (.cells #[.slice p len cap] 22);exact⟨by simp,⟨Nd _ c2.1,Wj _ c2.1 c2.2⟩,⟨_,Nd _ (Nd _ (Nd _ c0.1)),Wj _ (Nd _ (Nd _ c0.1)) (Wj _ (Nd _ c0.1) (Wj _ c0.1 c0.2))⟩,
      ⟨_,Nd _ (Nd _ c1.1),Wj _ (Nd _ c1.1) (Wj _ c1.1 c1.2)⟩,⟨λb hb' _=>hb.block b hb',⟨hb.size,hb.os,hb.tape,hb.output⟩⟩⟩
def GU:Con:=⟨[.lf (.list (.int .u8)) none],[.lf (.int .i64) none, .lf (.int .i64) none],λx=>Kg x⟩
theorem zY{gl:List (Nat×List Value)}(hE:Ent Tryz.prog 49)(hC:ConOk Tryz.prog gl 190 ⟨[.lf (.list (.int .u8)) none],[.lf (.int .i64) none, .lf (.int .i64) none],CU⟩):ConOk Tryz.prog gl 49 GU:=by
  refine⟨hE,?_⟩;intro R N w L0 vs ps x y hargs hlen hit vH hvs hgl hy;obtain rfl:=Option.some.inj (show some [PV.val (.list (.int .u8)) x]=some ps from hargs);obtain⟨v,_,rfl,h1,rfl⟩:=hvs;have h2:Bc (λb=>R b/\N b) w (.list (.int .u8)) x [v]:=h1;have h3:=Bc.step (B':=λk=>k<w.heap.size) (λ_ h=>h.1) (λ_ _=>rfl) (DA h2);obtain⟨p,len,cap,rfl⟩:∃p len cap,v= .slice p len cap:=by
    obtain⟨v1,c0,e1,⟨p,len,cap,rfl,_⟩,_⟩:=h2;cases e1;exact⟨_,_,_,rfl⟩
  refine(callsIn_wide.1 (Aic 3 (Nat.le_refl _) p len cap x y gl hC w h3 (λq hq=>⟨(hgl q hq).1,(hgl q hq).1,(hgl q hq).2.2⟩) hy)).mono ?_;rintro e w' ⟨rfl,hk⟩;refine⟨[.int .i64 y.1, .int .i64 y.2],rfl,⟨λb hb _=>hk.same b hb trivial,hk.gr⟩,λ_=>False,[],λ_ h=>h.elim,?_,?_⟩
  · trivial
  · intro s L B' hl _ _
    refine⟨[.val (.int .i64) y.1, .val (.int .i64) y.2],[],(show s=⟨s.sl,s.it++[],s.st⟩ by simp),rfl,?_,rfl,λi a m h=>by simp at h⟩;exact⟨_,_,rfl,rfl,_,_,rfl,rfl,rfl⟩
abbrev Ahw:List Sh:=[.lf .str none, .lf (.list (.cons .str (.cons (.list (.int .u8)) .nil))) none]
abbrev Aiw:List Sh:=[.lf (.list (.int .u8)) (some 5), .lf (.int .i64) none]
def Tryz.Afg:Go.Shelf.Ren:=⟨λ|178=>174|251=>263|252=>264|181=>326|184=>327|290=>328|324=>362|n=>n,λ|130=>342|9=>9|3=>3|75=>238|0=>0|93=>236|91=>234|131=>323|4=>4|37=>22|20=>20|80=>444|5=>5|n=>n,λ|14=>5|n=>n⟩
theorem Tryz.Aug:Go.Proofs.LaysM.n178 Tryz.prog Tryz.Afg:={
  mixed:=by kernel_rfl
  f178:=Tryz.func174.trans (congrArg some (by kernel_rfl))
  f181:=Tryz.func326.trans (congrArg some (by kernel_rfl))
  f184:=Tryz.func327.trans (congrArg some (by kernel_rfl))
  f251:=Tryz.func263.trans (congrArg some (by kernel_rfl))
  f252:=Tryz.func264.trans (congrArg some (by kernel_rfl))
  f290:=Tryz.func328.trans (congrArg some (by kernel_rfl))
  f324:=Tryz.func362.trans (congrArg some (by kernel_rfl))
  t0:=Tryz.underlying0
  a0:=Tryz.isAgg0
  z0:=Tryz.sizeOf0
  v0:=Tryz.zeroValue0
  t3:=Tryz.underlying3
  a3:=Tryz.isAgg3
  z3:=Tryz.sizeOf3
  v3:=Tryz.zeroValue3
  t4:=Tryz.underlying4
  a4:=Tryz.isAgg4
  z4:=Tryz.sizeOf4
  v4:=Tryz.zeroValue4
  t9:=Tryz.underlying9
  a9:=Tryz.isAgg9
  z9:=Tryz.sizeOf9
  v9:=Tryz.zeroValue9
  t20:=Tryz.underlying20
  a20:=Tryz.isAgg20
  z20:=Tryz.sizeOf20
  v20:=Tryz.zeroValue20
  t37:=Tryz.underlying22
  a37:=Tryz.isAgg22
  z37:=Tryz.sizeOf22
  v37:=Tryz.zeroValue22
  t75:=Tryz.underlying238
  a75:=Tryz.isAgg238
  z75:=Tryz.sizeOf238
  v75:=Tryz.zeroValue238
  t91:=Tryz.underlying234
  a91:=Tryz.isAgg234
  z91:=Tryz.sizeOf234
  v91:=Tryz.zeroValue234
  t93:=Tryz.underlying236
  a93:=Tryz.isAgg236
  z93:=Tryz.sizeOf236
  v93:=Tryz.zeroValue236
  t130:=Tryz.underlying342
  a130:=Tryz.isAgg342
  z130:=Tryz.sizeOf342
  v130:=Tryz.zeroValue342
  t131:=Tryz.underlying323
  a131:=Tryz.isAgg323
  z131:=Tryz.sizeOf323
  v131:=Tryz.zeroValue323
  g14:=by kernel_rfl
  t5:=Tryz.underlying5
  a5:=Tryz.isAgg5
  z5:=Tryz.sizeOf5
  v5:=Tryz.zeroValue5
  t80:=Tryz.underlying444
  a80:=Tryz.isAgg444
  z80:=Tryz.sizeOf444
  v80:=Tryz.zeroValue444
  i0:=by kernel_rfl
  i3:=by kernel_rfl
  i4:=by kernel_rfl
  i5:=by kernel_rfl
  i9:=by kernel_rfl
  i20:=by kernel_rfl
  i37:=by kernel_rfl
  i75:=by kernel_rfl
  i80:=by kernel_rfl
  i91:=by kernel_rfl
  i93:=by kernel_rfl
  i130:=by kernel_rfl
  i131:=by kernel_rfl
  m14:=by kernel_rfl}
def Tryz.Ahk:Go.Shelf.Ren:=⟨λ|180=>175|251=>263|252=>264|181=>326|184=>327|290=>328|324=>362|n=>n,λ|130=>342|37=>22|3=>3|75=>238|0=>0|93=>236|91=>234|131=>323|4=>4|20=>20|5=>5|80=>444|9=>9|n=>n,λ|14=>5|n=>n⟩
theorem Tryz.Ap0:Go.Proofs.LaysM.n180 Tryz.prog Tryz.Ahk:={
  mixed:=by kernel_rfl
  f180:=Tryz.func175.trans (congrArg some (by kernel_rfl))
  f181:=Tryz.func326.trans (congrArg some (by kernel_rfl))
  f184:=Tryz.func327.trans (congrArg some (by kernel_rfl))
  f251:=Tryz.func263.trans (congrArg some (by kernel_rfl))
  f252:=Tryz.func264.trans (congrArg some (by kernel_rfl))
  f290:=Tryz.func328.trans (congrArg some (by kernel_rfl))
  f324:=Tryz.func362.trans (congrArg some (by kernel_rfl))
  t0:=Tryz.underlying0
  a0:=Tryz.isAgg0
  z0:=Tryz.sizeOf0
  v0:=Tryz.zeroValue0
  t3:=Tryz.underlying3
  a3:=Tryz.isAgg3
  z3:=Tryz.sizeOf3
  v3:=Tryz.zeroValue3
  t4:=Tryz.underlying4
  a4:=Tryz.isAgg4
  z4:=Tryz.sizeOf4
  v4:=Tryz.zeroValue4
  t20:=Tryz.underlying20
  a20:=Tryz.isAgg20
  z20:=Tryz.sizeOf20
  v20:=Tryz.zeroValue20
  t37:=Tryz.underlying22
  a37:=Tryz.isAgg22
  z37:=Tryz.sizeOf22
  v37:=Tryz.zeroValue22
  t75:=Tryz.underlying238
  a75:=Tryz.isAgg238
  z75:=Tryz.sizeOf238
  v75:=Tryz.zeroValue238
  t91:=Tryz.underlying234
  a91:=Tryz.isAgg234
  z91:=Tryz.sizeOf234
  v91:=Tryz.zeroValue234
  t93:=Tryz.underlying236
  a93:=Tryz.isAgg236
  z93:=Tryz.sizeOf236
  v93:=Tryz.zeroValue236
  t130:=Tryz.underlying342
  a130:=Tryz.isAgg342
  z130:=Tryz.sizeOf342
  v130:=Tryz.zeroValue342
  t131:=Tryz.underlying323
  a131:=Tryz.isAgg323
  z131:=Tryz.sizeOf323
  v131:=Tryz.zeroValue323
  g14:=by kernel_rfl
  t5:=Tryz.underlying5
  a5:=Tryz.isAgg5
  z5:=Tryz.sizeOf5
  v5:=Tryz.zeroValue5
  t9:=Tryz.underlying9
  a9:=Tryz.isAgg9
  z9:=Tryz.sizeOf9
  v9:=Tryz.zeroValue9
  t80:=Tryz.underlying444
  a80:=Tryz.isAgg444
  z80:=Tryz.sizeOf444
  v80:=Tryz.zeroValue444
  i0:=by kernel_rfl
  i3:=by kernel_rfl
  i4:=by kernel_rfl
  i5:=by kernel_rfl
  i9:=by kernel_rfl
  i20:=by kernel_rfl
  i37:=by kernel_rfl
  i75:=by kernel_rfl
  i80:=by kernel_rfl
  i91:=by kernel_rfl
  i93:=by kernel_rfl
  i130:=by kernel_rfl
  i131:=by kernel_rfl
  m14:=by kernel_rfl}
def Tryz.Ae3:Go.Shelf.Ren:=⟨λ|183=>177|n=>n,λ|130=>342|37=>22|0=>0|93=>236|3=>3|5=>5|91=>234|n=>n,λ|n=>n⟩
theorem Tryz.Au2:Go.Proofs.LaysM.n183 Tryz.prog Tryz.Ae3:={
  mixed:=by kernel_rfl
  f183:=Tryz.func177.trans (congrArg some (by kernel_rfl))
  t0:=Tryz.underlying0
  a0:=Tryz.isAgg0
  z0:=Tryz.sizeOf0
  v0:=Tryz.zeroValue0
  t3:=Tryz.underlying3
  a3:=Tryz.isAgg3
  z3:=Tryz.sizeOf3
  v3:=Tryz.zeroValue3
  t37:=Tryz.underlying22
  a37:=Tryz.isAgg22
  z37:=Tryz.sizeOf22
  v37:=Tryz.zeroValue22
  t93:=Tryz.underlying236
  a93:=Tryz.isAgg236
  z93:=Tryz.sizeOf236
  v93:=Tryz.zeroValue236
  t130:=Tryz.underlying342
  a130:=Tryz.isAgg342
  z130:=Tryz.sizeOf342
  v130:=Tryz.zeroValue342
  t5:=Tryz.underlying5
  a5:=Tryz.isAgg5
  z5:=Tryz.sizeOf5
  v5:=Tryz.zeroValue5
  t91:=Tryz.underlying234
  a91:=Tryz.isAgg234
  z91:=Tryz.sizeOf234
  v91:=Tryz.zeroValue234
  i0:=by kernel_rfl
  i3:=by kernel_rfl
  i5:=by kernel_rfl
  i37:=by kernel_rfl
  i91:=by kernel_rfl
  i93:=by kernel_rfl
  i130:=by kernel_rfl}
theorem Tryz.Auv:Tryz.f173.ntmps=17:=by kernel_rfl
theorem Tryz.Avt:Tryz.f96.ntmps=48:=by kernel_rfl
theorem YH{l m r:LB}(h:Cz l m=some r):r=l++m/\l.length+m.length<=17179869184:=by
  unfold Cz Z1 at h;split at h
  · cases h;exact⟨rfl,by assumption⟩
  · cases h
theorem Ac8(B b:Nat)(bs l:List UInt8)(w:World)(h:Lib.IsBuffer 236 5 B b (Lib.byteCells bs) w)(hf:bs=[]->w.cell? ⟨b,0,none⟩=some (.slice none 0 0)/\1<=l.length/\l.length<=64)
    (hBw:B<=w.heap.size) (hlim:bs.length+l.length<=140737488355328):
    Calls Tryz.prog 174 #[.pointer (some ⟨b,0,none⟩),sv l] w λe w'=>e= .returned (.tuple #[.int .i64 l.length, .nilIface])/\Lib.IsBuffer 236 5 B b (Lib.byteCells (bs++l)) w'/\Below B w w'/\Rf.mA b w w':=
  Rf.Afp Tryz.Aug B b bs l w h hf hBw hlim
theorem V3{A:Nat->Prop}(B b:Nat)(bs l:List UInt8)(v:Value)(w:World)(h:Lib.IsBuffer 236 5 B b (Lib.byteCells bs) w)(hBw:B<=w.heap.size)(hs:Rf.Src A w l v)(hA:¬A b)(hlim:bs.length+l.length<=140737488355328):
    Calls Tryz.prog 175 #[.pointer (some ⟨b,0,none⟩),v] w λe w'=>e= .returned (.tuple #[.int .i64 l.length, .nilIface])/\Lib.IsBuffer 236 5 B b (Lib.byteCells (bs++l)) w'/\Below B w w'/\Lib.OthersKept 5 (some b) w w':=
  Rf.Ae8 Tryz.Ap0 B b bs l v w h hBw hs hA hlim
theorem Al9(B b:Nat)(bs:List Value)(w:World)(h:Lib.IsBuffer 236 5 B b bs w):
    Calls Tryz.prog 177 #[.pointer (some ⟨b,0,none⟩)] w λe w'=>∃v,e= .returned v/\w'.ownsRow B 5 1 v bs.length bs/\∃n,w'=w.drewN n:=
  Any.Buffer_Bytes Tryz.Au2 B b bs w h
theorem qN{l id l':LB}{k:Int}(h:UX l id k=some l'):∃c,l'=l++id++c:=by
  obtain⟨⟨c,e⟩,_,h⟩:=Go.Lv.bind_some h;obtain⟨p,hp,h⟩:=Go.Lv.bind_some h;obtain⟨rfl,_⟩:=YH hp;obtain⟨rfl,_⟩:=YH h;exact⟨c,rfl⟩
set_option maxHeartbeats 2000000 in
set_option maxRecDepth 100000 in
theorem rF(n:Nat)(gl:List (Nat×List Value))(hC:ConOk Tryz.prog gl 103 ⟨[.lf (.int .u64) none, .lf (.int .i64) none],[.lf (.list (.int .u8)) (some 5), .lf (.int .i64) none],λx=>Yo x.1 x.2⟩)
    (B b:Nat) (l id l':LB) (k:Int) (W:World) (h:Lib.IsBuffer 236 5 B b (Lib.byteCells l) W) (hf:l=[]->W.cell? ⟨b,0,none⟩=some (.slice none 0 0)/\1<=id.length/\id.length<=64)
    (hBw:B<=W.heap.size) (hgl:GlOk gl (λ_=>True) W) (hy:UX l id k=some l'):
    CallsIn Fence.wide n Tryz.prog 173 #[sv id, .int .i64 k, .pointer (some ⟨b,0,none⟩)] W λe W'=>e= .returned (.tuple #[])/\Lib.IsBuffer 236 5 B b (Lib.byteCells l') W'/\Below B W W'/\Lib.OthersKept 5 (some b) W W':=by
  obtain⟨⟨c,e⟩,hle,hy⟩:=Go.Lv.bind_some hy;obtain⟨p,hp,hy⟩:=Go.Lv.bind_some hy;obtain⟨rfl,q1⟩:=YH hp;obtain⟨rfl,q2⟩:=YH hy;rw[List.length_append]at q2;refine callsIn_of_wp Tryz.func173 rfl trivial ?_ rfl;simp only[Tryz.Auv,List.size_toArray,List.length_cons,List.length_nil,Nat.reduceAdd,Nat.reduceSub,Array.replicate_succ,Array.replicate_zero,List.push_toArray,List.append_toArray,List.nil_append,List.cons_append];have hz:iv (Ad k:UInt64)= .int .u64 (IntKind.u64.wrap k):=congrArg (Value.int .u64) (GI.toZ_ofZ _);have hcall:=Rf.Apf hC (W:=W) (x:=Ad k) (n:=4) hgl hle;rw[hz]at hcall
  gi_wp2
  refine⟨trivial,(λh=>nomatch h),(callsIn_wide.2 hcall).mono ?_⟩;rintro e1 W1 ⟨v,rfl,hk,hs⟩;have hb1:=Rf.xW hk;have h1:=Rf.vJ h hb1.block;have hlt:=h.lt;have hc1:W1.cell? ⟨b,0,none⟩=W.cell? ⟨b,0,none⟩:=World.cell?_of_block (hb1.block b hlt)
  gi_wp2
  refine⟨trivial,(λh=>nomatch h),(callsIn_wide.2 (Ac8 B b l id W1 h1 (λe=>⟨hc1.trans (hf e).1,(hf e).2⟩) (Nat.le_trans hBw hb1.size) (by omega))).mono ?_⟩;rintro e2 W2 ⟨rfl,h2,hb2,hr2⟩;have hs2:Rf.Src (λk=>W.heap.size<=k/\k<W1.heap.size) W2 c v:=hs.keep λj hj=>hr2 j hj.2 (λe=>absurd hlt (by omega)) λad n c hc e=>by
    rw[hc1]at hc;have:=Rf.Asf h hc;omega
  gi_wp2
  refine⟨trivial,(λh=>nomatch h),(callsIn_wide.2 (V3 B b (l++id) c v W2 h2 (Nat.le_trans hBw (Nat.le_trans hb1.size hb2.size)) hs2 (λh=>by omega) (by rw[List.length_append];omega))).mono ?_⟩;rintro e3 W3 ⟨rfl,h3,hb3,ho3⟩
  gi_wp2
  go_end0
  exact⟨rfl,h3,((hb1.mono hBw).trans hb2).trans hb3,(((Lib.OthersKept.refl _ _ W).below hb1).trans (Rf.H2 h1 hr2)).trans ho3⟩
theorem Y2{gl:List (Nat×List Value)}{w W:World}{B:Nat}(h:GlOk gl (λ_=>True) w)(hB:w.heap.size<=B)(hb:Below B w W):GlOk gl (λ_=>True) W:=
  λp hp=>⟨Nat.lt_of_lt_of_le (h p hp).1 hb.size,trivial,by rw[hb.block _ (Nat.lt_of_lt_of_le (h p hp).1 hB)];exact(h p hp).2.2⟩
set_option maxHeartbeats 4000000 in
set_option maxRecDepth 100000 in
theorem G6(n:Nat)(gl:List (Nat×List Value))(hCk:ConOk Tryz.prog gl 172 ⟨[.lf .str none, .lf (.list (.cons .str (.cons (.list (.int .u8)) .nil))) none],[.lf (.int .i64) none],λx=>CR x.1 x.2⟩)(hSz:ConOk Tryz.prog gl 176 ⟨[.lf (.list (.cons .str (.cons (.list (.int .u8)) .nil))) none],[.lf (.int .i64) none],OP⟩)(hLe:ConOk Tryz.prog gl 103 ⟨[.lf (.int .u64) none, .lf (.int .i64) none],[.lf (.list (.int .u8)) (some 5), .lf (.int .i64) none],λx=>Yo x.1 x.2⟩)
    (w:World) (a:LB) (bl:List (LB×LB×Unit)) (vl:Value) (hv:Bc (λk=>k<w.heap.size) w (.list Rf.CH) bl [vl]) (hgl:GlOk gl (λ_=>True) w) (y:LB×Int) (hy:PQ a bl=some y):
    CallsIn Fence.wide n Tryz.prog 96 #[sv a,vl] w λe w'=>∃v,e= .returned (.tuple #[v, .int .i64 y.2])/\KeepN (λ_=>True) w w'/\∃o,(Mob.own 1 5 v (Lib.byteCells y.1)).holds o w'/\∀k,o=some k->w.heap.size<=k/\k<w'.heap.size:=by
  unfold PQ at hy;obtain⟨e,hck,hy⟩:=Go.Lv.bind_some hy;have hcall:=Rf.Aos (s:=a) hCk hv hgl hck;refine callsIn_of_wp Tryz.func96 rfl trivial ?_ rfl;simp only[Tryz.Avt,List.size_toArray,List.length_cons,List.length_nil,Nat.reduceAdd,Nat.reduceSub,Array.replicate_succ,Array.replicate_zero,List.push_toArray,List.append_toArray,List.nil_append,List.cons_append]
  gi_wp2
  refine⟨trivial,(λh=>nomatch h),(callsIn_wide.2 hcall).mono ?_⟩;rintro e1 w1 ⟨rfl,hk1⟩;have hlim:e=0->bl.length<=20:=λhe=>by
    by_cases hg:Fb (Ac bl) 20=true
    · have h4:CR a bl=some 4:=by unfold CR QA;rw[if_pos hg]
      rw[h4,he]at hck;cases hck
    · have:¬((20:Int)<(bl.length:Int)):=λh=>hg (by simpa [Fb,Ac,GI.toZ]using h)
      omega
  have e5:Bq e 0=(e !=0):=rfl;rw[e5]at hy;by_cases he:e=0
  case neg=>
    rw[if_pos (by simpa using he)]at hy;cases hy
    gi_wp2
    go_ret2
    exact⟨_,rfl,hk1,none,Rf.Aej,λk h=>nomatch h⟩
  have hlim:=hlim he;subst he;rw[if_neg (by simp)]at hy
  gi_wp2
  obtain⟨n1,hsz,hy⟩:=Go.Lv.bind_some hy;obtain⟨f,hf,hy⟩:=Go.Lv.bind_some hy;obtain⟨g,hg,hy⟩:=Go.Lv.bind_some hy;obtain⟨h,hh,hy⟩:=Go.Lv.bind_some hy;cases hy;have hb1:=Rf.xW hk1;have hI0:=Lib.fresh_isBuffer 236 5 w1;have hc0:(w1.alloc (.cells #[.slice none 0 0, .int .i64 0, .int .i8 0] 236)).cell? ⟨w1.heap.size,0,none⟩=some (.slice none 0 0):=by rw[Lib.cell_of_heap (World.alloc_heap_new w1 _)];rfl
  have hb0:=(Below.refl w1.heap.size w1).alloc (Nat.le_refl _) (.cells #[.slice none 0 0, .int .i64 0, .int .i8 0] 236);generalize(w1.alloc (.cells #[.slice none 0 0, .int .i64 0, .int .i8 0] 236))=W0 at hI0 hc0 hb0⊢;have hbw0:=(hb1.trans (hb0.mono hb1.size));have hv0:Bc (λk=>k<w.heap.size) W0 (.list Rf.CH) bl [vl]:=Bc.step (λ_ h=>h) (λk hk=>hbw0.block k hk) hv;refine⟨trivial,(λh=>nomatch h),(callsIn_wide.2 (Rf.An8 hSz hv0 (Y2 hgl (Nat.le_refl _) hbw0) hsz)).mono ?_⟩;rintro e2 W2 ⟨rfl,hk2⟩;have hb2:=Rf.xW hk2;have hI2:=Rf.vJ hI0 hb2.block;have hc2:W2.cell? ⟨w1.heap.size,0,none⟩=some (.slice none 0 0):=(World.cell?_of_block (hb2.block _ hI0.lt)).trans hc0;have hbw2:Below w1.heap.size w1 W2:=hb0.trans (hb2.mono hb0.size);clear hI0 hc0 hb0 hbw0 hv0 hb2 hk2
  gi_wp2
  refine⟨trivial,(λh=>nomatch h),(rF (n-1) gl hLe w1.heap.size w1.heap.size [] [82,73,70,70] f n1 W2 hI2 (λ_=>⟨hc2,by decide,by decide⟩) hbw2.size (Y2 hgl (Nat.le_refl _) (hb1.trans (hbw2.mono hb1.size))) hf).mono ?_⟩;rintro e3 W3 ⟨rfl,hI3,hb3,ho3⟩;obtain⟨c3,hf3⟩:=qN hf;have hfn:f≠ []:=by rw[hf3];simp
  have Asz:=hbw2.trans hb3;obtain⟨rfl,q1⟩:=YH hg
  gi_wp2
  refine⟨trivial,(λh=>nomatch h),(callsIn_wide.2 (Ac8 _ _ f a W3 hI3 (λe=>absurd e hfn) Asz.size (by omega))).mono ?_⟩;rintro e4 W4 ⟨rfl,hI4,hb4,hr4⟩;have Aw5:=Asz.trans hb4;have hgn:f++a≠ []:=by simp[hfn]
  clear hI2 hc2 hI3 hb3 ho3 hr4 hbw2 Asz hb4 hf3;obtain⟨v1,c0,e1,⟨p,len,cap,rfl,hl1,hl2,hl3,hl4⟩,hall⟩:=(show∃v c0,[vl]=[v]/\Rd _ w 2 v c0/\Cv (Bc _ w Rf.CH) bl c0 from hv);cases e1;have hlen:bl.length=len:=by
    have:=Cv.len (z:=2) (λx c h=>Rf.Ark h) hall;omega
  gi_wp2
  refine qz (bl.length+1) (λq a W=>∃(i:Nat) (l:LB) (z:Int) (x0 x1 x2 x3 x4 x5 x6 x9 x10 x11 x12 x13 x14 x15 x16 x17 x18 x19 x20 x21 x22 x23 x27 x28 x29 x30 x31 x32 x33 x34 x35 x36 x37 x38 x39 x40 x41 x42 x43 x44 x45 x46 x47:Value),a={tmps:= #[x0,x1,x2,x3,x4,x5,x6, .pointer (some ⟨w1.heap.size,0,none⟩), .func (.func 173) #[] #[.pointer (some ⟨w1.heap.size,0,none⟩)],x9,x10,x11,x12,x13,x14,x15,x16,x17,x18,x19,x20,x21,x22,x23, .slice p len cap, .int .i64 len, .int .i64 z,x27,x28,x29,x30,x31,x32,x33,x34,x35,x36,x37,x38,x39,x40,x41,x42,x43,x44,x45,x46,x47],defers:=[]}/\z=(i:Int)/\q+i=bl.length+1/\i<=bl.length/\
    Lib.IsBuffer 236 5 w1.heap.size w1.heap.size (Lib.byteCells l) W/\l≠ []/\Below w1.heap.size w1 W/\QS (bl.drop i) l=some h) ?_ ?_ ?_
  · rintro a W ⟨i,l,z,x0,x1,x2,x3,x4,x5,x6,x9,x10,x11,x12,x13,x14,x15,x16,x17,x18,x19,x20,x21,x22,x23,x27,x28,x29,x30,x31,x32,x33,x34,x35,x36,x37,x38,x39,x40,x41,x42,x43,x44,x45,x46,x47,_,_,hq,hi,_⟩
    omega
  · rintro q a W ⟨i,l,_,x0,x1,x2,x3,x4,x5,x6,x9,x10,x11,x12,x13,x14,x15,x16,x17,x18,x19,x20,x21,x22,x23,x27,x28,x29,x30,x31,x32,x33,x34,x35,x36,x37,x38,x39,x40,x41,x42,x43,x44,x45,x46,x47,rfl,rfl,hq,hi,hI,hl,hb,hr⟩
    by_cases hlt:i<bl.length
    · obtain⟨c,hc⟩:∃c,bl[i]? =some c:=⟨_,List.getElem?_eq_getElem hlt⟩
      have hd:bl.drop i=c::bl.drop (i+1):=by
        rw[List.drop_eq_getElem_cons hlt];rw[List.getElem?_eq_getElem hlt]at hc;rw[Option.some.inj hc]
      rw[hd]at hr;simp only[QS]at hr;obtain⟨l1,r1,hr⟩:=Go.Lv.bind_some hr;obtain⟨l2,r2,hr⟩:=Go.Lv.bind_some hr;obtain⟨z,r3,hr⟩:=Go.Lv.bind_some hr;obtain⟨l3,r4,hr⟩:=Go.Lv.bind_some hr;obtain⟨vd,g1,g2,g3⟩:=Rf.qb hall hc;obtain⟨bk,off,arr,T,fr,rfl,hbk,hheap,hsz2,hcells⟩:=hl4 (by omega);have hsrc:=Rf.Aq1 g3;obtain⟨pd,_,Acr,rfl,rfl,d2,d3⟩:=id hsrc;have Aw6:Below w.heap.size w W:=hb1.trans (hb.mono hb1.size);have hW:W.heap[bk]? =some (.cells arr T fr):=(Aw6.block _ hbk).trans hheap;have ha0:W.cell? ⟨bk,off+i*2,none⟩=some (sv c.1):=by rw[Lib.cell_of_heap hW,Nat.mul_comm i 2];exact(hcells (2*i) (by omega)).trans g1
      have ha1:W.cell? ⟨bk,off+i*2+1,none⟩=some (.slice pd c.2.1.length Acr):=by rw[Lib.cell_of_heap hW,Nat.mul_comm i 2,Nat.add_assoc];exact(hcells (2*i+1) (by omega)).trans g2
      gi_wp2
      have hIa:=Rf.vJ hI (λk hk=>Below.heap_alloc W (.cells #[sv c.1, .slice pd c.2.1.length Acr] 149) k hk);have hka:(W.alloc (.cells #[sv c.1, .slice pd c.2.1.length Acr] 149)).heap[W.heap.size]? =some (.cells #[sv c.1, .slice pd c.2.1.length Acr] 149 (0,0)):=World.alloc_heap_new W _;have hba:=hb.alloc hb.size (.cells #[sv c.1, .slice pd c.2.1.length Acr] 149);have hkb:W.heap.size≠w1.heap.size:=λe=>absurd hI.lt (by omega);refine⟨trivial,(λh=>nomatch h),(rF (n-1) gl hLe _ _ l c.1 l1 _ _ hIa (λe=>absurd e hl) hba.size (Y2 hgl (Nat.le_refl _) (hb1.trans (hba.mono hb1.size))) r1).mono ?_⟩;rintro e5 W5 ⟨rfl,hI5,hb5,ho5⟩;have hk5:=ho5 _ _ hka (λe=>hkb (Option.some.inj e)) (λc fz e=>by cases e);have c5:W5.cell? ⟨W.heap.size,1,none⟩=some (.slice pd c.2.1.length Acr):=by rw[Lib.cell_of_heap hk5];rfl
      have hb5':=hba.trans hb5;obtain⟨rfl,q2⟩:=YH r2;obtain⟨rfl,q3⟩:=YH r4;obtain⟨c1,hl1⟩:=qN r1
      gi_wp2
      refine⟨trivial,(λh=>nomatch h),(callsIn_wide.2 (V3 (A:=λk=>k<w.heap.size) _ _ l1 c.2.1 _ W5 hI5 hb5'.size (hsrc.keep λk hk=>(hb1.trans (hb5'.mono hb1.size)).block k hk) (λh=>absurd hb1.size (by omega)) (by omega))).mono ?_⟩;rintro e6 W6 ⟨rfl,hI6,hb6,ho6⟩;have hk6:=ho6 _ _ hk5 (λe=>hkb (Option.some.inj e)) (λc fz e=>by cases e);have c6:W6.cell? ⟨W.heap.size,1,none⟩=some (.slice pd c.2.1.length Acr):=by rw[Lib.cell_of_heap hk6];rfl
      have hb6':=hb5'.trans hb6;clear hIa hka hba hI5 hb5 ho5 hk5 c5 hb5' hb6 ho6 hk6 ha0 ha1 hW;have hbit:bits BinOp.and IntKind.i64 (c.2.1.length:Int) 1=((c.2.1.length %2:Nat):Int):=Rf.Ajq c.2.1.length (by omega);obtain⟨m,hm2⟩:∃m:Nat,m=c.2.1.length %2:=⟨_,rfl⟩;rw[<-hm2]at hbit;have Aqo:Kr (Ac c.2.1) 1=(m:Int):=hbit;rw[Aqo]at r3;have hm1:m<=1:=by omega
      obtain rfl:z=List.replicate m 0:=by
        unfold mkI at r3;split at r3
        · cases r3;rfl
        · cases r3
      obtain⟨i0,hi0,hz0,hz1,hz2⟩:=info_parts Tryz.Ap0.i5;obtain⟨M,hmk,hms⟩:=Rf.Abl (P:=Tryz.prog) (TB:=22) (U8:=5) Tryz.underlying22 hi0 hz0 hz1 hz2 m hm1;clear hm2 Aqo r3 hi0 hz0 hz1 hz2
      gi_wp2
      refine⟨trivial,(λh=>nomatch h),(callsIn_wide.2 (V3 (A:=λk=>k=W6.heap.size) _ _ (l1++c.2.1) (List.replicate m 0) _ _ (Rf.vJ hI6 (λk hk=>Below.heap_alloc W6 (.cells M 5) k hk)) (hb6'.alloc hb6'.size (.cells M 5)).size (hms W6) (λe=>absurd hI6.lt (by omega)) (by rw[List.length_append];rw[List.length_append]at q3;omega))).mono ?_⟩;rintro e8 W8 ⟨rfl,hI8,hb8,ho8⟩;have hb8':=(hb6'.alloc hb6'.size (.cells M 5)).trans hb8
      gi_wp2
      exact⟨i+1,l1++c.2.1++List.replicate m 0,_,_,_,_,_,_,_,_,_,_,_,_,_,_,_,_,_,_,_,_,_,_,_,_,_,_,_,_,_,_,_,_,_,_,_,_,_,_,_,_,_,_,_,_,rfl,by omega,by omega,by omega,hI8,by simp[hl1,hl],hb8',hr⟩
    · obtain rfl:i=bl.length:=by omega
      rw[List.drop_length]at hr;obtain rfl:l=h:=Option.some.inj hr
      gi_wp2
      refine⟨trivial,(λh=>nomatch h),(callsIn_wide.2 (Al9 _ _ _ W hI)).mono ?_⟩;rintro e9 W9 ⟨v,rfl,hown,n9,rfl⟩
      gi_wp2
      go_ret2
      have hbf:=(hb1.trans (hb.mono hb1.size)).trans (Rf.qm _ W n9);obtain⟨o,ho1,ho2⟩:=Rf.Abt hown;exact⟨_,rfl,Rf.Amt hbf,o,ho1,λk hk=>⟨Nat.le_trans hb1.size (ho2 k hk).1,(ho2 k hk).2⟩⟩
  · exact⟨0,f++a,_,_,_,_,_,_,_,_,_,_,_,_,_,_,_,_,_,_,_,_,_,_,_,_,_,_,_,_,_,_,_,_,_,_,_,_,_,_,_,_,_,_,_,_,rfl,rfl,by omega,Nat.zero_le _,hI4,hgn,Aw5,by simpa using hh⟩
noncomputable def eJ:Con:=⟨Ahw,Aiw,λx=>PQ x.1 x.2⟩
theorem H7{gl:List (Nat×List Value)}(hE:Ent Tryz.prog 96)(hCk:ConOk Tryz.prog gl 172 ⟨[.lf .str none, .lf (.list (.cons .str (.cons (.list (.int .u8)) .nil))) none],[.lf (.int .i64) none],λx=>CR x.1 x.2⟩)(hSz:ConOk Tryz.prog gl 176 ⟨[.lf (.list (.cons .str (.cons (.list (.int .u8)) .nil))) none],[.lf (.int .i64) none],OP⟩)(hLe:ConOk Tryz.prog gl 103 ⟨[.lf (.int .u64) none, .lf (.int .i64) none],[.lf (.list (.int .u8)) (some 5), .lf (.int .i64) none],λx=>Yo x.1 x.2⟩):ConOk Tryz.prog gl 96 eJ:=by
  refine⟨hE,?_⟩;rintro R N w L0 vs ps ⟨a,bl⟩ y hargs hlen hit vH hvs hgl hy;obtain rfl:=Option.some.inj (show some [PV.val .str a,PV.val (.list Rf.CH) bl]=some ps from hargs);obtain⟨v0,_,rfl,h0,v,_,rfl,h1,rfl⟩:=hvs;obtain rfl:v0=sv a:=by cases(show [v0]=[sv a]from h0);rfl
  have h2:Bc (λb=>R b/\N b) w (.list Rf.CH) bl [v]:=h1;have h3:=Bc.step (B':=λk=>k<w.heap.size) (λ_ h=>h.1) (λ_ _=>rfl) (DA h2);refine(callsIn_wide.1 (G6 3 gl hCk hSz hLe w a bl v h3 (λq hq=>⟨(hgl q hq).1,trivial,(hgl q hq).2.2⟩) y hy)).mono ?_;rintro e w' ⟨u,rfl,hk,o,ho1,ho2⟩;refine⟨[u, .int .i64 y.2],rfl,⟨λb hb _=>hk.same b hb trivial,hk.gr⟩,λ_=>False,[.own 1 5 u (Lib.byteCells y.1)],λ_ h=>h.elim,?_,?_⟩
  · exact⟨o,ho1,λb hb=>⟨λh=>h.elim id λh=>absurd (ho2 b hb).1 (by have:=h.1;omega),(ho2 b hb).2⟩,trivial⟩
  · intro s L B' hl _ _
    refine⟨[.own s.it.length, .val (.int .i64) y.2],[.arr 5 (.int .u8) y.1],rfl,rfl,?_,rfl,λi a m h1 h2=>?_⟩
    · refine⟨_,_,rfl,⟨1,5,u,Lib.byteCells y.1,?_,rfl⟩,_,_,rfl,rfl,rfl⟩
      rw[<-hl];simp
    · cases i with
      |zero=>
        cases h1;cases h2;exact⟨rfl,rfl,Rf.D5 y.1⟩
      |succ i=>simp at h1
end Go.Proofs.YtjjeabieimfcpaaGreatDoor
