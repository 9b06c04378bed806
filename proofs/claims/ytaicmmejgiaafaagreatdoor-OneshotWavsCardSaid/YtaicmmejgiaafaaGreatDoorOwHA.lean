/- A part of a proof (see the text that ends in Proof). No conditions. -/
import Derived.Test.YtaicmmejgiaafaaGreatDoorOwPA
import Derived.Test.YtaicmmejgiaafaaGreatDoorProg
import Derived.KernelRfl
import Derived.RangeFuncKeeps
import Derived.RangeFuncWrites
import Derived.Shelf.Abstract
import Derived.Test.YtaicmmejgiaafaaGreatDoorOwRA
namespace Go
theorem F5{p:Prop}(h:p:=by kernel_rfl):p:=h
end Go
set_option linter.unusedVariables false
set_option linter.unusedSimpArgs false
namespace Go.Proofs.YtaicmmejgiaafaaGreatDoor
open Go.RowKit Go.Shelf Go Go.Rx Go.Lv Go.Pl
attribute [local go_sem] Oper.semAt_some
theorem Aem{W W':World}(h:KeepN (λ_=>True) W W'):W.grownBy W' none:=⟨h.gr.os,h.gr.tape,h.gr.output,h.gr.le,λk hk _=>h.same k hk trivial⟩
theorem Al0{F:Fence}{n:Nat}{P:Program}{Q:Exit->Act->World->Prop}{a:Act}{w:World}{c:Code}(m:Nat)(I:Nat->Act->World->Prop)(h0:∀a w,¬I 0 a w)
    (hs:∀q a w,I (q+1) a w->c.wpIn F n P (Exit.then (I q) Q) a w) (h:I m a w):(Code.loop c).wpIn F n P Q a w:=by
  refine wpIn_loop_rounds m ?_
  induction m generalizing a w with
  |zero=>exact absurd h (h0 a w)
  |succ m ih=>
    rw[roundsIn_succ];refine wpIn_mono (hs m a w h) λe a' w' hh=>?_;cases e<;>first|exact ih hh|exact hh
theorem Bls{α:Type}{c:Prop} [Decidable c]{a b y:α}(h:(if c then a else b)=y)(hc:¬c):b=y:=by rw[if_neg hc]at h;exact h
theorem Be4{A:Reg}{w:World}{v:Value}{k:Kd}{l y:List k.T}{a:Int}(h:Bb A w (.list (.int k)) l [v])(hc:Br l a (Ac l)=some y):
    ∃(p:Option Addr) (len cap m:Nat),v= .slice p len cap/\a=(m:Int)/\m<=len/\len<=cap/\Bb A w (.list (.int k)) y [.slice (if cap=m then p else p.map (·.add m)) (len-m) (cap-m)]:=by
  obtain⟨v1,c0,e1,h1,h2⟩:=h;cases e1;obtain⟨p,len,cap,rfl,g1,g2,g3,g4⟩:=h1;obtain⟨k1,k2,k3,k4,rfl⟩:=YR hc;simp only[ET.size,Nat.mul_one]at g1 g4;have hll:=h2.len (z:=1) λx c h=>by rw[show c=_ from h];rfl
  have hln:l.length=len:=F0
  have hto:(Ac l).toNat=len:=by simp[Ac,hln]
  rw[hto]at k3⊢;refine⟨p,len,cap,a.toNat,rfl,k1,k3,g2,_,c0.drop a.toNat,rfl,⟨_,_,_,rfl,?_,F0,λhp=>?_,λhcap=>?_⟩,?_⟩
  · simp only[ET.size,List.length_drop];omega
  · split at hp
    · omega
    · rename_i hne
      cases p with
      |none=>have:=g3 rfl;omega
      |some a=>cases hp
  · rw[if_neg F0]
    obtain⟨b,off,arr,T,fr,rfl,e2,e3,e4,e5⟩:=g4 F0;refine⟨b,off+a.toNat,arr,T,fr,by simp[Addr.add],e2,e3,by simp only[ET.size];omega,λi hi=>?_⟩;simp only[ET.size]at hi;rw[List.getElem?_drop,<-e5 (a.toNat+i) F0,Nat.add_assoc]
  · have:=Cv.drop (z:=1) (λx c h=>by rw[show c=_ from h];rfl) a.toNat h2
    rw[Nat.mul_one]at this;rw[List.take_of_length_le F0];exact this
theorem Bkm{P:Program}{f:Nat}{gl:List (Nat×List Value)}{F:List UInt8->Option (Int×Int)}(hC:ConOk P gl f ⟨[.lf (.list (.int .u8)) none],[.lf (.int .i64) none, .lf (.int .i64) none],F⟩){A:Reg}{W:World}{v:Value}{s:List UInt8}{r:Int×Int}
    (hv:Bb A W (.list (.int .u8)) s [v]) (hgl:GlOk gl A W) (h:F s=some r):Calls P f #[v] W λe W'=>e= .returned (.tuple #[.int .i64 r.1, .int .i64 r.2])/\KeepN (λ_=>True) W W':=by
  have hv':Bb (λ_=>True/\True) W (.list (.int .u8)) s [v]:=Bb.step (λ_ _=>⟨trivial,trivial⟩) (λ_ _=>rfl) hv;refine(hC.ok (λ_=>True) (λ_=>True) W [] [v] [.val (.list (.int .u8)) s] s r rfl rfl (λi a m _ h=>by simp at h) trivial ⟨v,[],rfl,hv',rfl⟩ (λp hp=>⟨(hgl p hp).1,trivial,(hgl p hp).2.2⟩) h).mono ?_;rintro e w' ⟨us,rfl,hk,A1,L1,g1,g2,g3⟩;obtain⟨ps,its,k1,k2,k3,k4,k5⟩:=g3 ⟨[],[],[]⟩ [] (λ_=>True) rfl (λ_ _=>trivial) (λ_ _ _=>trivial);refine⟨?_,hk⟩;obtain rfl:=Option.some.inj (show some [PV.val (.int .i64) r.1,PV.val (.int .i64) r.2]=some ps from k2);obtain⟨_,_,rfl,e1,_,_,rfl,e2,rfl⟩:=k3;cases(show [_]=[Value.int .i64 r.1]from e1);cases(show [_]=[Value.int .i64 r.2]from e2);rfl
structure KpF (n₀ Bx:Nat) (A B:World):Prop where
  le:A.heap.size<=B.heap.size
  box:B.heap[Bx]? =A.heap[Bx]?
  old:∀k,k<n₀->B.heap[k]? =A.heap[k]?
def smT(l:List (Int×Int)):Int:=l.foldl (λs x=>Ae s x.1) 0
def fin(y:Int×Int)(xs:List (Int×Int)):Prop:=(∃x∈xs,x.2≠0)\/y=(smT xs,0)
def Az8(y:Int×Int)(pre:List (Int×Int)):Prop:=∃p x,pre=p++[x]/\ (x.2≠0->y=(0,x.2))
theorem Tryz.Bkj:Tryz.f167.ntmps=35:=F5
theorem Tryz.u25:Tryz.prog.underlying 22=some (.slice 5):=F5
theorem Tryz.sz5:Ls Tryz.prog 5 1:=Ls.mk F5
set_option maxHeartbeats 2000000 in
set_option maxRecDepth 100000 in
theorem Bd8(n:Nat)(l Bx n₀:Nat)(v:Value)(b:List UInt8)(y:Int×Int)(J Jx:List (Int×Int)->World->Prop)(gl:List (Nat×List Value))
    (hC:ConOk Tryz.prog gl 168 ⟨[.lf (.list (.int .u8)) none],[.lf (.int .i64) none, .lf (.int .i64) none],AN⟩)
    (hY:∀pre x W,J pre W->pre.length<Au->YieldAt Fence.wide (n-1) Tryz.prog l #[.int .i64 x.1, .int .i64 x.2] W λe W'=>
      (e= .returned (.bool true)/\J (pre++[x]) W'/\KpF n₀ Bx W W')\/ (e= .returned (.bool false)/\Jx (pre++[x]) W'))
    (W0:World) (hJ:AbidesFrom W0.heap.size J) (Aqs:W0.heap[Bx]? =some (.cells #[v] 22 (0,0))) (hn:n₀<=W0.heap.size) (hv:Bb (λk=>k<n₀) W0 (.list (.int .u8)) b [v]) (hgl:GlOk gl (λk=>k<n₀) W0)
    (h0:J [] W0) (hy:Ju b=some y):
    CallsIn Fence.wide n Tryz.prog 167 #[.func (.yield l) #[] #[], .pointer (some ⟨Bx,0,none⟩)] W0 λe W'=>(∃v,e= .returned v)/\ ((∃ys,fin y ys/\J ys W')\/ (∃pre,Az8 y pre/\Jx pre W')):=by
  refine callsIn_of_wp Tryz.func167 rfl trivial ?_ rfl;simp only[Tryz.Bkj,List.size_toArray,List.length_cons,List.length_nil,Nat.reduceAdd,Nat.reduceSub,Array.replicate_succ,Array.replicate_zero,List.push_toArray,List.append_toArray,List.nil_append,List.cons_append]
  gi_wp2
  refine Al0 Au (λq a W=>∃(pre:List (Int×Int)) (x:Int) (v2 v4 v5 v6 v7 v8 v9 v10 v11 v12 v13 v14 v15 v16 v17 v18 v19 v20 v21 v22 v23 v24 v25 v26 v27 v28 v29 v30 v31 v32 v33 v34:Value),a={tmps:= #[.func (.yield l) #[] #[], .pointer (some ⟨Bx,0,none⟩),v2, .int .i64 x,v4,v5,v6,v7,v8,v9,v10,v11,v12,v13,v14,v15,v16,v17,v18,v19,v20,v21,v22,v23,v24,v25,v26,v27,v28,v29,v30,v31,v32,v33,v34],defers:=[]}/\Yd b q x=some y/\smT pre=x/\pre.length+q=Au/\J pre W/\KpF n₀ Bx W0 W/\W0.heap.size<=W.heap.size) ?_ ?_ ?_
  · rintro a W ⟨pre,x,v2,v4,v5,v6,v7,v8,v9,v10,v11,v12,v13,v14,v15,v16,v17,v18,v19,v20,v21,v22,v23,v24,v25,v26,v27,v28,v29,v30,v31,v32,v33,v34,_,h,_⟩
    cases h
  · rintro q a W ⟨pre,x,v2,v4,v5,v6,v7,v8,v9,v10,v11,v12,v13,v14,v15,v16,v17,v18,v19,v20,v21,v22,v23,v24,v25,v26,v27,v28,v29,v30,v31,v32,v33,v34,rfl,h,hx,hl,hJ1,hk,hs⟩
    simp only[Yd]at h;obtain⟨s,hcut,h⟩:=Go.Lv.bind_some h;obtain⟨r,hsz,h⟩:=Go.Lv.bind_some h;have hvW:Bb (λk=>k<n₀) W (.list (.int .u8)) b [v]:=Bb.step (λ_ h=>h) (λk hk'=>hk.old k hk') hv;obtain⟨p,len,cap,m,rfl,rfl,hm,hlc,hsv⟩:=Be4 (k:= .u8) hvW hcut;have hc:W.cell? ⟨Bx,0,none⟩=some (.slice p len cap):=by
      have:=hk.box;simp only[World.cell?,this,Aqs];rfl
    have hu:=Tryz.u25;have hz:=Tryz.sz5;obtain⟨k,e⟩:=r;have e1:geq e 6=(e==6):=rfl;have e2:geq e 0=(e==0):=rfl;have e3:Ae (m:Int) k=RowKit.wrap64 (m+k):=by
      simp only[Ae,GI.ofZ,GI.toZ,Go.Lv.wrap64,RowKit.wrap64];exact IntKind.wrap_i64 _
    have e4:Dx (RowKit.wrap64 (m+k)) 4000=decide (4000<RowKit.wrap64 (m+k)):=rfl;have e5:Bg e 0=(e !=0):=rfl;rw[e1,e2,e3,e4,e5]at h;have hp:=h;have hgW:GlOk gl (λk=>k<n₀) W:=λp hp=>⟨Nat.lt_of_lt_of_le (hgl p hp).1 hs,(hgl p hp).2.1,by rw[hk.old _ (hgl p hp).2.1];exact(hgl p hp).2.2⟩;have hcall:∀v',Bb (λk=>k<n₀) W (.list (.int .u8)) s [v']->CallsIn Fence.wide (n-1) Tryz.prog 168 #[v'] W λe0 W'=>e0= .returned (.tuple #[.int .i64 k, .int .i64 e])/\KeepN (λ_=>True) W W':=
      λv' hv'=>callsIn_wide.2 (Bkm hC hv' hgW hsz)
    have hsm:∀z:Int,smT (pre++[(k,z)])=RowKit.wrap64 (m+k):=λz=>by rw[<-e3,<-hx];simp[smT]
    have hlt:Bx<W.heap.size:=Nat.lt_of_lt_of_le (Array.getElem?_eq_some_iff.1 Aqs).1 hs
    gi_wp2
    all_goals
      refine⟨trivial,(λh=>nomatch h),(hcall _ (by first|(rw[if_neg (by assumption)]at hsv;exact hsv)|(simpa [*]using hsv))).mono ?_⟩;rintro e0 W1 ⟨rfl,hk1⟩;have hJ2:=hJ pre W W1 none hJ1 (Aem hk1) (λr e=>by cases e);have hyl:∀e',YieldAt Fence.wide (n-1) Tryz.prog l #[Value.int IntKind.i64 k,Value.int IntKind.i64 e'] W1 _:=λe'=>hY pre (k,e') W1 hJ2 F0
      gi_wp2
      · rename_i h6
        rw[if_pos h6]at hp;refine bodyPost_ret (results_none rfl _ _ _) rfl ?_;exact⟨⟨_,rfl⟩, .inl ⟨pre, .inr (by rw[hx];cases hp;rfl),hJ2⟩⟩
      · obtain⟨fn,tmps,assign,body,hy1,hR⟩:=hyl 4
        rw[hy1]
        gi_wp2
        refine⟨(λh=>nomatch h),hR.mono ?_⟩;rintro e3 W3 (⟨rfl,hJ3,hk3⟩|⟨rfl,hJx3⟩)
        · gi_wp2
          refine bodyPost_ret (results_none rfl _ _ _) rfl ?_;exact⟨⟨_,rfl⟩, .inl ⟨pre++[(k,4)], .inl ⟨(k,4),Bpj,Bpj⟩,hJ3⟩⟩
        · gi_wp2
          refine bodyPost_ret (results_none rfl _ _ _) rfl ?_;refine⟨⟨_,rfl⟩, .inr ⟨pre++[(k,4)],⟨pre,(k,4),rfl,λhne=>?_⟩,hJx3⟩⟩;simp at hne
          all_goals simp_all
      · obtain⟨fn,tmps,assign,body,hy1,hR⟩:=hyl 0
        rw[hy1]
        gi_wp2
        refine⟨(λh=>nomatch h),hR.mono ?_⟩;rintro e3 W3 (⟨rfl,hJ3,hk3⟩|⟨rfl,hJx3⟩)
        · gi_wp2
          refine⟨pre++[(k,0)],_,_,_,_,_,_,_,_,_,_,_,_,_,_,_,_,_,_,_,_,_,_,_,_,_,_,_,_,_,_,_,_,_,rfl,?_,‹∀z:Int,smT (pre++[(k,z)])=RowKit.wrap64 ((m:Int)+k)› 0,by simp;omega,hJ3,⟨?_,?_,?_⟩,?_⟩
          · simp_all
            exact Bls (by assumption) F0
          · exact Nat.le_trans hk.le (Nat.le_trans hk1.gr.le hk3.le)
          · exact hk3.box.trans ((hk1.same _ ‹Bx<W.heap.size› trivial).trans hk.box)
          · exact λj hj=>(hk3.old j hj).trans ((hk1.same j (Nat.lt_of_lt_of_le hj (Nat.le_trans hn hs)) trivial).trans (hk.old j hj))
          · exact Nat.le_trans hs (Nat.le_trans hk1.gr.le hk3.le)
        · gi_wp2
          refine bodyPost_ret (results_none rfl _ _ _) rfl ?_;exact⟨⟨_,rfl⟩, .inr ⟨pre++[(k,0)],⟨pre,(k,0),rfl,λhne=>absurd rfl hne⟩,hJx3⟩⟩
      · obtain⟨fn,tmps,assign,body,hy1,hR⟩:=hyl e
        rw[hy1]
        gi_wp2
        refine⟨(λh=>nomatch h),hR.mono ?_⟩;rintro e3 W3 (⟨rfl,hJ3,hk3⟩|⟨rfl,hJx3⟩)
        · gi_wp2
          rename_i hne;refine bodyPost_ret (results_none rfl _ _ _) rfl ?_;exact⟨⟨_,rfl⟩, .inl ⟨pre++[(k,e)], .inl ⟨(k,e),Bpj,by simpa using hne⟩,hJ3⟩⟩
        · gi_wp2
          refine bodyPost_ret (results_none rfl _ _ _) rfl ?_;refine⟨⟨_,rfl⟩, .inr ⟨pre++[(k,e)],⟨pre,(k,e),rfl,λhne=>?_⟩,hJx3⟩⟩;simp at hne
          all_goals simp_all
  · exact⟨[],0,_,_,_,_,_,_,_,_,_,_,_,_,_,_,_,_,_,_,_,_,_,_,_,_,_,_,_,_,_,_,_,_,rfl,hy,rfl,Bpj,h0,⟨Nat.le_refl _,rfl,λ_ _=>rfl⟩,Nat.le_refl _⟩
theorem Bij(n Bx n₀:Nat)(v:Value)(b:List UInt8)(y:Int×Int)(gl:List (Nat×List Value))
    (hC:ConOk Tryz.prog gl 168 ⟨[.lf (.list (.int .u8)) none],[.lf (.int .i64) none, .lf (.int .i64) none],AN⟩)
    (w:World) (Aqs:w.heap[Bx]? =some (.cells #[v] 22 (0,0))) (hn:n₀<=w.heap.size) (hv:Bb (λk=>k<n₀) w (.list (.int .u8)) b [v]) (hgl:GlOk gl (λk=>k<n₀) w) (hy:Ju b=some y):
    SeqStopsK Fence.wide n Tryz.prog 167 #[.pointer (some ⟨Bx,0,none⟩)] (λx:Int×Int=> #[.int .i64 x.1, .int .i64 x.2]) (KpF n₀ Bx) (fin y) (Az8 y) Au w:=by
  intro l J Jx W hW hJ hJx hY h0;have hlt:=(Array.getElem?_eq_some_iff.1 Aqs).1;have hb:∀k,k<n₀->W.heap[k]? =w.heap[k]? :=λk hk=>hW.block k (Nat.lt_of_lt_of_le hk hn);exact Bd8 n l Bx n₀ v b y J Jx gl hC hY W hJ ((hW.block Bx hlt).trans Aqs) (Nat.le_trans hn hW.size) (Bb.step (λ_ h=>h) hb hv)
    (λp hp=>⟨Nat.lt_of_lt_of_le (hgl p hp).1 hW.size,(hgl p hp).2.1,by rw[hb _ (hgl p hp).2.1];exact(hgl p hp).2.2⟩) h0 hy
theorem qX{w W:World}{a:Addr}{v:Value}(h:KeepN (λ_=>True) w W)(ha:w.heap.size<=a.block):KeepN (λ_=>True) w (W.setCell a v):=by
  have hb:=(Below.refl w.heap.size W).setCell (p:=a) ha v;exact⟨λb hb' _=>(hb.block b hb').trans (h.same b hb' trivial),h.gr.trans ⟨hb.size,hb.os,hb.tape,hb.output⟩⟩
theorem heap_set{W:World}{a:Addr}{v:Value}{k:Nat}(h:k≠a.block):(W.setCell a v).heap[k]? =W.heap[k]? :=
  ((Below.refl (k+1) {W with heap:=W.heap}).block k F0▸(by
    show(W.heap.modify a.block _)[k]? =W.heap[k]?;rw[Array.getElem?_modify,if_neg (Ne.symm h)]))
theorem Aoa{W:World}{B:Nat}{v:Value}{t:TypeId}(h:W.heap[B]? =some (.cells #[v] t (0,0))):W.cell? ⟨B,0,none⟩=some v/\W.frozen? ⟨B,0,none⟩=false:=by
  constructor<;>simp[World.cell?,World.frozen?,h]
theorem D2(W:World)(v:Value)(t:TypeId):(W.alloc (.cells #[v] t)).cell? ⟨W.heap.size,0,none⟩=some v/\ (W.alloc (.cells #[v] t)).frozen? ⟨W.heap.size,0,none⟩=false:=Aoa (World.alloc_heap_new W _)
theorem Nc{W:World}{a:Addr}{v:Value}(o:Obj)(h:W.cell? a=some v):(W.alloc o).cell? a=some v:=cell_kept h (World.grownBy_alloc W o none) (λr e=>by cases e)
theorem Vk{W:World}{a:Addr}{v:Value}(o:Obj)(h:W.cell? a=some v)(hf:W.frozen? a=false):(W.alloc o).frozen? a=false:=(frozen_kept h (World.grownBy_alloc W o none) (λr e=>by cases e)).trans hf
theorem Tryz.Bk2:Tryz.f112.ntmps=4:=F5
theorem Tryz.Bm3:Tryz.f60.ntmps=18:=F5
set_option maxHeartbeats 1000000 in
set_option maxRecDepth 100000 in
theorem Bdy(n:Nat)(p:Option Addr)(len cap:Nat)(w:World):
    CallsIn Fence.wide n Tryz.prog 112 #[.slice p len cap] w λe w'=>e= .returned (.func (.func 167) #[] #[.pointer (some ⟨w.heap.size,0,none⟩)])/\w'=w.alloc (.cells #[.slice p len cap] 22):=by
  refine callsIn_of_wp Tryz.func112 rfl trivial ?_ rfl;simp only[Tryz.Bk2,List.size_toArray,List.length_cons,List.length_nil,Nat.reduceAdd,Nat.reduceSub,Array.replicate_succ,Array.replicate_zero,List.push_toArray,List.append_toArray,List.nil_append,List.cons_append]
  gi_wp2
  go_ret
  exact⟨rfl,rfl⟩
set_option maxHeartbeats 1000000 in
set_option maxRecDepth 100000 in
theorem Axy(n:Nat)(h1:3<=n)(p:Option Addr)(len cap:Nat)(b:List UInt8)(y:Int×Int)(gl:List (Nat×List Value))
    (hC:ConOk Tryz.prog gl 168 ⟨[.lf (.list (.int .u8)) none],[.lf (.int .i64) none, .lf (.int .i64) none],AN⟩)
    (w:World) (hv:Bb (λk=>k<w.heap.size) w (.list (.int .u8)) b [.slice p len cap]) (hgl:GlOk gl (λk=>k<w.heap.size) w) (hy:Ju b=some y):
    CallsIn Fence.wide n Tryz.prog 60 #[.slice p len cap] w λe w'=>e= .returned (.tuple #[.int .i64 y.1, .int .i64 y.2])/\KeepN (λ_=>True) w w':=by
  refine callsIn_of_wp_marks Tryz.func60 rfl trivial ?_ rfl;simp only[Tryz.Bm3,List.size_toArray,List.length_cons,List.length_nil,Nat.reduceAdd,Nat.reduceSub,Array.replicate_succ,Array.replicate_zero,List.push_toArray,List.append_toArray,List.nil_append,List.cons_append]
  gi_wp2
  refine⟨trivial,(λh=>nomatch h),(Bdy (n-1) _ _ _ _).mono ?_⟩;rintro e w' ⟨rfl,rfl⟩
  gi_wp2
  refine wpIn_rangeFunc_ownG (Kp:=KpF w.heap.size (w.heap.size+1+1+1)) rfl F0 (gf:=167) (lb:= #[.pointer (some ⟨w.heap.size+1+1+1,0,none⟩)]) rfl trivial (enters_of Tryz.func167 F5 rfl)
    (Bij (n-1) (w.heap.size+1+1+1) w.heap.size (.slice p len cap) b y gl hC _ ?Aqs ?hn ?hv ?hgl hy)
    (λh k=>⟨Nat.le_trans h.le k.le,k.box.trans h.box,λj hj=>(k.old j hj).trans (h.old j hj)⟩) ?hKb (Below.refl _ _) (λ_=>rfl)
    (λpre W=>(∀x∈pre,x.2=0)/\ (W.cell? ⟨w.heap.size+1+1,0,none⟩=some (.int .i64 (smT pre))/\W.frozen? ⟨w.heap.size+1+1,0,none⟩=false)/\
      (∃v,W.cell? ⟨w.heap.size,0,none⟩=some v/\W.frozen? ⟨w.heap.size,0,none⟩=false)/\ (∃v,W.cell? ⟨w.heap.size+1,0,none⟩=some v/\W.frozen? ⟨w.heap.size+1,0,none⟩=false)/\KeepN (λ_=>True) w W)
    (λc pre W=>c= .ret/\ (∃Bgd x,pre=Bgd++[x]/\x.2≠0/\W.cell? ⟨w.heap.size,0,none⟩=some (.int .i64 0)/\W.cell? ⟨w.heap.size+1,0,none⟩=some (.int .i64 x.2))/\KeepN (λ_=>True) w W)
    ?hI ?hIx ?h0
    (λx=>{tmps:= #[.slice p len cap,undef, .pointer (some ⟨w.heap.size,0,none⟩), .pointer (some ⟨w.heap.size+1,0,none⟩), .pointer (some ⟨w.heap.size+1+1,0,none⟩), .int .i64 x.1, .int .i64 x.2, .slice p len cap, .func (.func 167) #[] #[.pointer (some ⟨w.heap.size+1+1+1,0,none⟩)], .int .i64 x.1, .int .i64 x.2,undef,undef,undef,undef,undef,undef,undef],defers:=[]}) ?assign ?body ?done ?stop
  case assign=>
    intro l x W K hK
    gi_wp2
    exact hK
  case body=>
    rintro l pre x W ⟨hz,⟨hc,hf⟩,⟨v2,hc2,hf2⟩,⟨v3,hc3,hf3⟩,hk⟩ _
    gi_wp2
    · rename_i hx
      refine⟨(KeepsOthers.trans (KeepsOthers.setCell _ _ _) (KeepsOthers.setCell _ _ _)).from _,rfl,⟨pre,x,rfl,by simpa using hx,?_,?_⟩,qX (qX hk (Nat.le_refl _)) (Nat.le_succ _)⟩
      · refine(World.cell?_setCell_other _ _ _ _ Bpj).trans ?_
        exact World.cell?_setCell_same' _ _ _ (by rw[hc2];rfl)
      · refine World.cell?_setCell_same' _ _ _ ?_
        rw[World.cell?_setCell_other W ⟨w.heap.size,0,none⟩ ⟨w.heap.size+1,0,none⟩ _ Bpj,hc3];rfl
    · rename_i hx
      have hx0:x.2=0:=by simpa using hx
      refine⟨(KeepsOthers.setCell _ _ _).from _,⟨((Below.refl 0 W).setCell (p:=⟨w.heap.size+1+1,0,none⟩) (Nat.zero_le _) _).size,heap_set Bpj,λk hk'=>heap_set F7⟩,?_,⟨?_,by rw[World.frozen?_setCell];exact hf⟩,⟨v2,?_,by rw[World.frozen?_setCell];exact hf2⟩,⟨v3,?_,by rw[World.frozen?_setCell];exact hf3⟩,qX hk F7⟩
      · intro z hz'
        rcases List.mem_append.1 hz' with h|h
        · exact hz z h
        · simp at h;subst h;exact hx0
      · have e:smT (pre++[x])=RowKit.wrap64 (smT pre+x.1):=by
          simp only[smT,List.foldl_append,List.foldl_cons,List.foldl_nil,Ae,GI.ofZ,GI.toZ,Go.Lv.wrap64,RowKit.wrap64];exact IntKind.wrap_i64 _
        rw[e];exact World.cell?_setCell_same' _ _ _ (by rw[hc];rfl)
      · exact(World.cell?_setCell_other _ _ _ _ (by simp;try omega)).trans hc2
      · exact(World.cell?_setCell_other _ _ _ _ Bpj).trans hc3
  case done=>
    rintro D xs W hD hS ⟨hz,⟨hc,hf⟩,⟨v2,hc2,hf2⟩,⟨v3,hc3,hf3⟩,hk⟩ hK
    gi_wp2
    have hy':y=(smT xs,0):=hS.elim (λ⟨x,hx,hne⟩=>absurd (hz x hx) hne) id;have hlen:w.heap.size+4<=D:=by simp only[World.size_alloc]at hD;omega
    have hK':=((KeepsOthers.setCell W ⟨w.heap.size,0,none⟩ (.int .i64 (smT xs))).trans (KeepsOthers.setCell _ ⟨w.heap.size+1,0,none⟩ (.int .i64 0))).same D _ hK rfl;have hk2:=qX (v:= .int .i64 0) (a:=⟨w.heap.size+1,0,none⟩) (qX (v:= .int .i64 (smT xs)) (a:=⟨w.heap.size,0,none⟩) hk (Nat.le_refl _)) (Nat.le_succ _);have d0:((W.setCell ⟨w.heap.size,0,none⟩ (.int .i64 (smT xs))).setCell ⟨w.heap.size+1,0,none⟩ (.int .i64 0)).cell? ⟨w.heap.size,0,none⟩=some (.int .i64 (smT xs)):=
      (World.cell?_setCell_other _ _ _ _ Bpj).trans (World.cell?_setCell_same' _ _ _ (by rw[hc2];rfl))
    have d1:((W.setCell ⟨w.heap.size,0,none⟩ (.int .i64 (smT xs))).setCell ⟨w.heap.size+1,0,none⟩ (.int .i64 0)).cell? ⟨w.heap.size+1,0,none⟩=some (.int .i64 0):=
      World.cell?_setCell_same' _ _ _ (by rw[World.cell?_setCell_other W ⟨w.heap.size,0,none⟩ ⟨w.heap.size+1,0,none⟩ _ Bpj,hc3];rfl)
    refine⟨Bpj, .inl ⟨_,_,rfl,run_takeDeferred hK',?_⟩⟩;have hg:=grownBy_putObj' ((W.setCell ⟨w.heap.size,0,none⟩ (.int .i64 (smT xs))).setCell ⟨w.heap.size+1,0,none⟩ (.int .i64 0)) D (.deferred none);have hr':∀r,some D=some r->∃o:Obj,((W.setCell ⟨w.heap.size,0,none⟩ (.int .i64 (smT xs))).setCell ⟨w.heap.size+1,0,none⟩ (.int .i64 0)).heap[r]? =some o/\o.isCells=false:=λr e=>by cases e;exact⟨_,hK',rfl⟩
    have hc5:=cell_kept d0 hg hr';have hc6:=cell_kept d1 hg hr';refine⟨.tuple #[.int .i64 (smT xs), .int .i64 0],?_,by rw[hy'],?_⟩
    · simp[results,Tryz.f60,go_sem,hc5,hc6]
    · refine⟨λb hb _=>(hg.block b (Nat.lt_of_lt_of_le hb hk2.gr.le) (λe=>?_)).trans (hk2.same b hb trivial),hk2.gr.trans ⟨hg.size,hg.os,hg.tape,hg.output⟩⟩
      cases e;omega
  case stop=>
    rintro D c pre W hD hS ⟨rfl,⟨Bgd,x,rfl,hx,hc2,hc3⟩,hk⟩ hK
    gi_wp2
    obtain⟨p1,x1,he,hy1⟩:=hS;have hy':y=(0,x.2):=by
      have:=List.append_inj' he rfl;cases this.2;exact hy1 hx
    have hlen:w.heap.size+4<=D:=by simp only[World.size_alloc]at hD;omega
    refine⟨Bpj, .inl ⟨_,_,rfl,run_takeDeferred hK,?_⟩⟩;have hg:=grownBy_putObj' W D (.deferred none);have hr':∀r,some D=some r->∃o:Obj,W.heap[r]? =some o/\o.isCells=false:=λr e=>by cases e;exact⟨_,hK,rfl⟩
    have hc5:=cell_kept hc2 hg hr';have hc6:=cell_kept hc3 hg hr';refine⟨.tuple #[.int .i64 0, .int .i64 x.2],?_,by rw[hy'],?_⟩
    · simp[results,Tryz.f60,go_sem,hc5,hc6]
    · refine⟨λb hb _=>(hg.block b (Nat.lt_of_lt_of_le hb hk.gr.le) (λe=>?_)).trans (hk.same b hb trivial),hk.gr.trans ⟨hg.size,hg.os,hg.tape,hg.output⟩⟩
      cases e;omega
  case Aqs=>
    have h:=World.alloc_heap_new (((w.alloc (.cells #[.int .i64 0] 3)).alloc (.cells #[.int .i64 0] 26)).alloc (.cells #[.int .i64 0] 3)) (.cells #[.slice p len cap] 22);simp only[World.size_alloc]at h;exact h
  case hn=>simp;omega
  case hI=>
    rintro s A B row ⟨hz,⟨hc,hf⟩,⟨v2,hc2,hf2⟩,⟨v3,hc3,hf3⟩,hk⟩ hg hr;have hr':∀r,row=some r->∃o:Obj,A.heap[r]? =some o/\o.isCells=false:=λr e=>(hr r e).2;refine⟨hz,⟨cell_kept hc hg hr',(frozen_kept hc hg hr').trans hf⟩,⟨v2,cell_kept hc2 hg hr',(frozen_kept hc2 hg hr').trans hf2⟩,⟨v3,cell_kept hc3 hg hr',(frozen_kept hc3 hg hr').trans hf3⟩,?_⟩;refine⟨λb hb _=>(hg.block b (Nat.lt_of_lt_of_le hb hk.gr.le) (λe=>?_)).trans (hk.same b hb trivial),hk.gr.trans ⟨hg.size,hg.os,hg.tape,hg.output⟩⟩;have:=(hr b e.symm).1;simp at this;omega
  case hIx=>
    rintro c s A B row ⟨hc,⟨Bgd,x,hs,hx,hc2,hc3⟩,hk⟩ hg hr;have hr':∀r,row=some r->∃o:Obj,A.heap[r]? =some o/\o.isCells=false:=λr e=>(hr r e).2;refine⟨hc,⟨Bgd,x,hs,hx,cell_kept hc2 hg hr',cell_kept hc3 hg hr'⟩,?_⟩;refine⟨λb hb _=>(hg.block b (Nat.lt_of_lt_of_le hb hk.gr.le) (λe=>?_)).trans (hk.same b hb trivial),hk.gr.trans ⟨hg.size,hg.os,hg.tape,hg.output⟩⟩;have:=(hr b e.symm).1;simp at this;omega
  case hKb=>
    intro W l o o' hl h _ _;have hlt:=(Array.getElem?_eq_some_iff.1 h).1;simp at hl;have hg:=grownBy_putObj' W l o';exact⟨hg.size,hg.block _ F0 (λe=>by cases e;omega),λk hk=>hg.block k F0 (λe=>by cases e;omega)⟩
  case hgl=>
    intro q hq;refine⟨by simp;have:=(hgl q hq).1;omega,(hgl q hq).2.1,?_⟩;have hb:=((((Below.refl w.heap.size w).alloc (Nat.le_refl _) (.cells #[.int .i64 0] 3)).alloc Bpj (.cells #[.int .i64 0] 26)).alloc F7 (.cells #[.int .i64 0] 3)).alloc F7 (.cells #[.slice p len cap] 22);rw[hb.block _ (hgl q hq).1];exact(hgl q hq).2.2
  case hv=>
    have hb:=((((Below.refl w.heap.size w).alloc (Nat.le_refl _) (.cells #[.int .i64 0] 3)).alloc Bpj (.cells #[.int .i64 0] 26)).alloc F7 (.cells #[.int .i64 0] 3)).alloc F7 (.cells #[.slice p len cap] 22);exact Bb.step (λ_ h=>h) (λk hk=>hb.block k hk) hv
  case h0=>
    have c0:=D2 w (.int .i64 0) 3;have c1:=D2 (w.alloc (.cells #[.int .i64 0] 3)) (.int .i64 0) 26;have c2:=D2 ((w.alloc (.cells #[.int .i64 0] 3)).alloc (.cells #[.int .i64 0] 26)) (.int .i64 0) 3;simp only[World.size_alloc]at c1 c2;have hb:=((((Below.refl w.heap.size w).alloc (Nat.le_refl _) (.cells #[.int .i64 0] 3)).alloc Bpj (.cells #[.int .i64 0] 26)).alloc F7 (.cells #[.int .i64 0] 3)).alloc F7 (.cells #[.slice p len cap] 22);exact⟨Bpj,⟨Nc _ c2.1,Vk _ c2.1 c2.2⟩,⟨_,Nc _ (Nc _ (Nc _ c0.1)),Vk _ (Nc _ (Nc _ c0.1)) (Vk _ (Nc _ c0.1) (Vk _ c0.1 c0.2))⟩,
      ⟨_,Nc _ (Nc _ c1.1),Vk _ (Nc _ c1.1) (Vk _ c1.1 c1.2)⟩,⟨λb hb' _=>hb.block b hb',⟨hb.size,hb.os,hb.tape,hb.output⟩⟩⟩
def Yg:Con:=⟨[.lf (.list (.int .u8)) none],[.lf (.int .i64) none, .lf (.int .i64) none],λx=>Ju x⟩
theorem Acp{gl:List (Nat×List Value)}(hE:Ent Tryz.prog 60)(hC:ConOk Tryz.prog gl 168 ⟨[.lf (.list (.int .u8)) none],[.lf (.int .i64) none, .lf (.int .i64) none],AN⟩):ConOk Tryz.prog gl 60 Yg:=by
  refine⟨hE,?_⟩;intro R N w L0 vs ps x y hargs hlen hit ql hvs hgl hy;obtain rfl:=Option.some.inj (show some [PV.val (.list (.int .u8)) x]=some ps from hargs);obtain⟨v,_,rfl,h1,rfl⟩:=hvs;have h2:Bb (λb=>R b/\N b) w (.list (.int .u8)) x [v]:=h1;have h3:=Bb.step (B':=λk=>k<w.heap.size) (λ_ h=>h.1) (λ_ _=>rfl) (AV h2);obtain⟨p,len,cap,rfl⟩:∃p len cap,v= .slice p len cap:=by
    obtain⟨v1,c0,e1,⟨p,len,cap,rfl,_⟩,_⟩:=h2;cases e1;exact⟨_,_,_,rfl⟩
  refine(callsIn_wide.1 (Axy 3 (Nat.le_refl _) p len cap x y gl hC w h3 (λq hq=>⟨(hgl q hq).1,(hgl q hq).1,(hgl q hq).2.2⟩) hy)).mono ?_;rintro e w' ⟨rfl,hk⟩;refine⟨[.int .i64 y.1, .int .i64 y.2],rfl,⟨λb hb _=>hk.same b hb trivial,hk.gr⟩,λ_=>False,[],λ_ h=>h.elim,?_,?_⟩
  · trivial
  · intro s L B' hl _ _
    refine⟨[.val (.int .i64) y.1, .val (.int .i64) y.2],[],(show s=⟨s.sl,s.it++[],s.st⟩ by simp),rfl,?_,rfl,λi a m h=>by simp at h⟩;exact⟨_,_,rfl,rfl,_,_,rfl,rfl,rfl⟩
abbrev Axf:List Sh:=[.lf .str none, .lf (.list (.cons .str (.cons (.list (.int .u8)) .nil))) none]
abbrev Ayl:List Sh:=[.lf (.list (.int .u8)) (some 5), .lf (.int .i64) none]
def Tryz.Aud:Go.Shelf.Ren:=⟨λ|178=>105|251=>163|252=>164|181=>207|184=>208|290=>209|324=>232|n=>n,λ|130=>254|9=>9|3=>3|75=>166|0=>0|93=>164|91=>162|131=>228|4=>4|37=>22|20=>20|80=>336|5=>5|n=>n,λ|14=>5|n=>n⟩
theorem Tryz.Ble:Go.Proofs.LaysM.n178 Tryz.prog Tryz.Aud:={
  mixed:=F5
  f178:=Tryz.func105.trans (congrArg some F5)
  f181:=Tryz.func207.trans (congrArg some F5)
  f184:=Tryz.func208.trans (congrArg some F5)
  f251:=Tryz.func163.trans (congrArg some F5)
  f252:=Tryz.func164.trans (congrArg some F5)
  f290:=Tryz.func209.trans (congrArg some F5)
  f324:=Tryz.func232.trans (congrArg some F5)
  t0:=Tryz.underlying0
  a0:=Tryz.isAgg0
  z0:=Tryz.sizeOf0
  v0:=Tryz.zeroValue0
  t3:=Tryz.underlying3
  a3:=Tryz.isAgg3
  z3:=Tryz.sizeOf3
  v3:=Tryz.zeroValue3
  t4:=Tryz.underlying4
  a4:=Tryz.isAgg4
  z4:=Tryz.sizeOf4
  v4:=Tryz.zeroValue4
  t9:=Tryz.underlying9
  a9:=Tryz.isAgg9
  z9:=Tryz.sizeOf9
  v9:=Tryz.zeroValue9
  t20:=Tryz.underlying20
  a20:=Tryz.isAgg20
  z20:=Tryz.sizeOf20
  v20:=Tryz.zeroValue20
  t37:=Tryz.underlying22
  a37:=Tryz.isAgg22
  z37:=Tryz.sizeOf22
  v37:=Tryz.zeroValue22
  t75:=Tryz.underlying166
  a75:=Tryz.isAgg166
  z75:=Tryz.sizeOf166
  v75:=Tryz.zeroValue166
  t91:=Tryz.underlying162
  a91:=Tryz.isAgg162
  z91:=Tryz.sizeOf162
  v91:=Tryz.zeroValue162
  t93:=Tryz.underlying164
  a93:=Tryz.isAgg164
  z93:=Tryz.sizeOf164
  v93:=Tryz.zeroValue164
  t130:=Tryz.underlying254
  a130:=Tryz.isAgg254
  z130:=Tryz.sizeOf254
  v130:=Tryz.zeroValue254
  t131:=Tryz.underlying228
  a131:=Tryz.isAgg228
  z131:=Tryz.sizeOf228
  v131:=Tryz.zeroValue228
  g14:=F5
  t5:=Tryz.underlying5
  a5:=Tryz.isAgg5
  z5:=Tryz.sizeOf5
  v5:=Tryz.zeroValue5
  t80:=Tryz.underlying336
  a80:=Tryz.isAgg336
  z80:=Tryz.sizeOf336
  v80:=Tryz.zeroValue336
  i0:=F5
  i3:=F5
  i4:=F5
  i5:=F5
  i9:=F5
  i20:=F5
  i37:=F5
  i75:=F5
  i80:=F5
  i91:=F5
  i93:=F5
  i130:=F5
  i131:=F5
  m14:=by kernel_rfl}
def Tryz.Awx:Go.Shelf.Ren:=⟨λ|180=>106|251=>163|252=>164|181=>207|184=>208|290=>209|324=>232|n=>n,λ|130=>254|37=>22|3=>3|75=>166|0=>0|93=>164|91=>162|131=>228|4=>4|20=>20|5=>5|80=>336|9=>9|n=>n,λ|14=>5|n=>n⟩
theorem Tryz.Bgn:Go.Proofs.LaysM.n180 Tryz.prog Tryz.Awx:={
  mixed:=F5
  f180:=Tryz.func106.trans (congrArg some F5)
  f181:=Tryz.func207.trans (congrArg some F5)
  f184:=Tryz.func208.trans (congrArg some F5)
  f251:=Tryz.func163.trans (congrArg some F5)
  f252:=Tryz.func164.trans (congrArg some F5)
  f290:=Tryz.func209.trans (congrArg some F5)
  f324:=Tryz.func232.trans (congrArg some F5)
  t0:=Tryz.underlying0
  a0:=Tryz.isAgg0
  z0:=Tryz.sizeOf0
  v0:=Tryz.zeroValue0
  t3:=Tryz.underlying3
  a3:=Tryz.isAgg3
  z3:=Tryz.sizeOf3
  v3:=Tryz.zeroValue3
  t4:=Tryz.underlying4
  a4:=Tryz.isAgg4
  z4:=Tryz.sizeOf4
  v4:=Tryz.zeroValue4
  t20:=Tryz.underlying20
  a20:=Tryz.isAgg20
  z20:=Tryz.sizeOf20
  v20:=Tryz.zeroValue20
  t37:=Tryz.underlying22
  a37:=Tryz.isAgg22
  z37:=Tryz.sizeOf22
  v37:=Tryz.zeroValue22
  t75:=Tryz.underlying166
  a75:=Tryz.isAgg166
  z75:=Tryz.sizeOf166
  v75:=Tryz.zeroValue166
  t91:=Tryz.underlying162
  a91:=Tryz.isAgg162
  z91:=Tryz.sizeOf162
  v91:=Tryz.zeroValue162
  t93:=Tryz.underlying164
  a93:=Tryz.isAgg164
  z93:=Tryz.sizeOf164
  v93:=Tryz.zeroValue164
  t130:=Tryz.underlying254
  a130:=Tryz.isAgg254
  z130:=Tryz.sizeOf254
  v130:=Tryz.zeroValue254
  t131:=Tryz.underlying228
  a131:=Tryz.isAgg228
  z131:=Tryz.sizeOf228
  v131:=Tryz.zeroValue228
  g14:=F5
  t5:=Tryz.underlying5
  a5:=Tryz.isAgg5
  z5:=Tryz.sizeOf5
  v5:=Tryz.zeroValue5
  t9:=Tryz.underlying9
  a9:=Tryz.isAgg9
  z9:=Tryz.sizeOf9
  v9:=Tryz.zeroValue9
  t80:=Tryz.underlying336
  a80:=Tryz.isAgg336
  z80:=Tryz.sizeOf336
  v80:=Tryz.zeroValue336
  i0:=F5
  i3:=F5
  i4:=F5
  i5:=F5
  i9:=F5
  i20:=F5
  i37:=F5
  i75:=F5
  i80:=F5
  i91:=F5
  i93:=F5
  i130:=F5
  i131:=F5
  m14:=by kernel_rfl}
def Tryz.Atw:Go.Shelf.Ren:=⟨λ|183=>108|n=>n,λ|130=>254|37=>22|0=>0|93=>164|3=>3|5=>5|91=>162|n=>n,λ|n=>n⟩
theorem Tryz.Blw:Go.Proofs.LaysM.n183 Tryz.prog Tryz.Atw:={
  mixed:=F5
  f183:=Tryz.func108.trans (congrArg some F5)
  t0:=Tryz.underlying0
  a0:=Tryz.isAgg0
  z0:=Tryz.sizeOf0
  v0:=Tryz.zeroValue0
  t3:=Tryz.underlying3
  a3:=Tryz.isAgg3
  z3:=Tryz.sizeOf3
  v3:=Tryz.zeroValue3
  t37:=Tryz.underlying22
  a37:=Tryz.isAgg22
  z37:=Tryz.sizeOf22
  v37:=Tryz.zeroValue22
  t93:=Tryz.underlying164
  a93:=Tryz.isAgg164
  z93:=Tryz.sizeOf164
  v93:=Tryz.zeroValue164
  t130:=Tryz.underlying254
  a130:=Tryz.isAgg254
  z130:=Tryz.sizeOf254
  v130:=Tryz.zeroValue254
  t5:=Tryz.underlying5
  a5:=Tryz.isAgg5
  z5:=Tryz.sizeOf5
  v5:=Tryz.zeroValue5
  t91:=Tryz.underlying162
  a91:=Tryz.isAgg162
  z91:=Tryz.sizeOf162
  v91:=Tryz.zeroValue162
  i0:=F5
  i3:=F5
  i5:=F5
  i37:=F5
  i91:=F5
  i93:=F5
  i130:=by kernel_rfl}
theorem Tryz.Bky:Tryz.f104.ntmps=17:=F5
theorem Tryz.Bm6:Tryz.f55.ntmps=48:=F5
theorem cJ{l m r:LB}(h:Dt l m=some r):r=l++m/\l.length+m.length<=17179869184:=by
  unfold Dt LIM at h;split at h
  · cases h;exact⟨rfl,by assumption⟩
  · cases h
theorem Ari(B b:Nat)(bs l:List UInt8)(w:World)(h:Lib.IsBuffer 164 5 B b (Lib.byteCells bs) w)(hf:bs=[]->w.cell? ⟨b,0,none⟩=some (.slice none 0 0)/\1<=l.length/\l.length<=64)
    (hBw:B<=w.heap.size) (hlim:bs.length+l.length<=140737488355328):
    Calls Tryz.prog 105 #[.pointer (some ⟨b,0,none⟩),sv l] w λe w'=>e= .returned (.tuple #[.int .i64 l.length, .nilIface])/\Lib.IsBuffer 164 5 B b (Lib.byteCells (bs++l)) w'/\Below B w w'/\Rf.wK b w w':=
  Rf.Auo Tryz.Ble B b bs l w h hf hBw hlim
theorem Ais{A:Nat->Prop}(B b:Nat)(bs l:List UInt8)(v:Value)(w:World)(h:Lib.IsBuffer 164 5 B b (Lib.byteCells bs) w)(hBw:B<=w.heap.size)(hs:Rf.Src A w l v)(hA:¬A b)(hlim:bs.length+l.length<=140737488355328):
    Calls Tryz.prog 106 #[.pointer (some ⟨b,0,none⟩),v] w λe w'=>e= .returned (.tuple #[.int .i64 l.length, .nilIface])/\Lib.IsBuffer 164 5 B b (Lib.byteCells (bs++l)) w'/\Below B w w'/\Lib.OthersKept 5 (some b) w w':=
  Rf.At1 Tryz.Bgn B b bs l v w h hBw hs hA hlim
theorem Bci(B b:Nat)(bs:List Value)(w:World)(h:Lib.IsBuffer 164 5 B b bs w):
    Calls Tryz.prog 108 #[.pointer (some ⟨b,0,none⟩)] w λe w'=>∃v,e= .returned v/\w'.ownsRow B 5 1 v bs.length bs/\∃n,w'=w.drewN n:=
  Any.Buffer_Bytes Tryz.Blw B b bs w h
theorem K6{l id l':LB}{k:Int}(h:YL l id k=some l'):∃c,l'=l++id++c:=by
  obtain⟨⟨c,e⟩,_,h⟩:=Go.Lv.bind_some h;obtain⟨p,hp,h⟩:=Go.Lv.bind_some h;obtain⟨rfl,_⟩:=cJ hp;obtain⟨rfl,_⟩:=cJ h;exact⟨c,rfl⟩
set_option maxHeartbeats 2000000 in
set_option maxRecDepth 100000 in
theorem N7(n:Nat)(gl:List (Nat×List Value))(hC:ConOk Tryz.prog gl 83 ⟨[.lf (.int .u64) none, .lf (.int .i64) none],[.lf (.list (.int .u8)) (some 5), .lf (.int .i64) none],λx=>Qf x.1 x.2⟩)
    (B b:Nat) (l id l':LB) (k:Int) (W:World) (h:Lib.IsBuffer 164 5 B b (Lib.byteCells l) W) (hf:l=[]->W.cell? ⟨b,0,none⟩=some (.slice none 0 0)/\1<=id.length/\id.length<=64)
    (hBw:B<=W.heap.size) (hgl:GlOk gl (λ_=>True) W) (hy:YL l id k=some l'):
    CallsIn Fence.wide n Tryz.prog 104 #[sv id, .int .i64 k, .pointer (some ⟨b,0,none⟩)] W λe W'=>e= .returned (.tuple #[])/\Lib.IsBuffer 164 5 B b (Lib.byteCells l') W'/\Below B W W'/\Lib.OthersKept 5 (some b) W W':=by
  obtain⟨⟨c,e⟩,hle,hy⟩:=Go.Lv.bind_some hy;obtain⟨p,hp,hy⟩:=Go.Lv.bind_some hy;obtain⟨rfl,q1⟩:=cJ hp;obtain⟨rfl,q2⟩:=cJ hy;rw[List.length_append]at q2;refine callsIn_of_wp Tryz.func104 rfl trivial ?_ rfl;simp only[Tryz.Bky,List.size_toArray,List.length_cons,List.length_nil,Nat.reduceAdd,Nat.reduceSub,Array.replicate_succ,Array.replicate_zero,List.push_toArray,List.append_toArray,List.nil_append,List.cons_append];have hz:iv (Ad k:UInt64)= .int .u64 (IntKind.u64.wrap k):=congrArg (Value.int .u64) (GI.toZ_ofZ _);have hcall:=Rf.Bf6 hC (W:=W) (x:=Ad k) (n:=4) hgl hle;rw[hz]at hcall
  gi_wp2
  refine⟨trivial,(λh=>nomatch h),(callsIn_wide.2 hcall).mono ?_⟩;rintro e1 W1 ⟨v,rfl,hk,hs⟩;have hb1:=Rf.Aaq hk;have h1:=Rf.qo h hb1.block;have hlt:=h.lt;have hc1:W1.cell? ⟨b,0,none⟩=W.cell? ⟨b,0,none⟩:=World.cell?_of_block (hb1.block b hlt)
  gi_wp2
  refine⟨trivial,(λh=>nomatch h),(callsIn_wide.2 (Ari B b l id W1 h1 (λe=>⟨hc1.trans (hf e).1,(hf e).2⟩) (Nat.le_trans hBw hb1.size) F0)).mono ?_⟩;rintro e2 W2 ⟨rfl,h2,hb2,hr2⟩;have hs2:Rf.Src (λk=>W.heap.size<=k/\k<W1.heap.size) W2 c v:=hs.keep λj hj=>hr2 j hj.2 (λe=>absurd hlt F0) λad n c hc e=>by
    rw[hc1]at hc;have:=Rf.Bi8 h hc;omega
  gi_wp2
  refine⟨trivial,(λh=>nomatch h),(callsIn_wide.2 (Ais B b (l++id) c v W2 h2 (Nat.le_trans hBw (Nat.le_trans hb1.size hb2.size)) hs2 (λh=>by omega) (by rw[List.length_append];omega))).mono ?_⟩;rintro e3 W3 ⟨rfl,h3,hb3,ho3⟩
  gi_wp2
  go_end0
  exact⟨rfl,h3,((hb1.mono hBw).trans hb2).trans hb3,(((Lib.OthersKept.refl _ _ W).below hb1).trans (Rf.Aer h1 hr2)).trans ho3⟩
theorem Ajm{gl:List (Nat×List Value)}{w W:World}{B:Nat}(h:GlOk gl (λ_=>True) w)(hB:w.heap.size<=B)(hb:Below B w W):GlOk gl (λ_=>True) W:=
  λp hp=>⟨Nat.lt_of_lt_of_le (h p hp).1 hb.size,trivial,by rw[hb.block _ (Nat.lt_of_lt_of_le (h p hp).1 hB)];exact(h p hp).2.2⟩
set_option maxHeartbeats 4000000 in
set_option maxRecDepth 100000 in
theorem Ael(n:Nat)(gl:List (Nat×List Value))(hCk:ConOk Tryz.prog gl 103 ⟨[.lf .str none, .lf (.list (.cons .str (.cons (.list (.int .u8)) .nil))) none],[.lf (.int .i64) none],λx=>AL x.1 x.2⟩)(hSz:ConOk Tryz.prog gl 107 ⟨[.lf (.list (.cons .str (.cons (.list (.int .u8)) .nil))) none],[.lf (.int .i64) none],PA⟩)(hLe:ConOk Tryz.prog gl 83 ⟨[.lf (.int .u64) none, .lf (.int .i64) none],[.lf (.list (.int .u8)) (some 5), .lf (.int .i64) none],λx=>Qf x.1 x.2⟩)
    (w:World) (a:LB) (bl:List (LB×LB×Unit)) (vl:Value) (hv:Bb (λk=>k<w.heap.size) w (.list Rf.CH) bl [vl]) (hgl:GlOk gl (λ_=>True) w) (y:LB×Int) (hy:QR a bl=some y):
    CallsIn Fence.wide n Tryz.prog 55 #[sv a,vl] w λe w'=>∃v,e= .returned (.tuple #[v, .int .i64 y.2])/\KeepN (λ_=>True) w w'/\∃o,(Mob.own 1 5 v (Lib.byteCells y.1)).holds o w'/\∀k,o=some k->w.heap.size<=k/\k<w'.heap.size:=by
  unfold QR at hy;obtain⟨e,hck,hy⟩:=Go.Lv.bind_some hy;have hcall:=Rf.Bfi (s:=a) hCk hv hgl hck;refine callsIn_of_wp Tryz.func55 rfl trivial ?_ rfl;simp only[Tryz.Bm6,List.size_toArray,List.length_cons,List.length_nil,Nat.reduceAdd,Nat.reduceSub,Array.replicate_succ,Array.replicate_zero,List.push_toArray,List.append_toArray,List.nil_append,List.cons_append]
  gi_wp2
  refine⟨trivial,(λh=>nomatch h),(callsIn_wide.2 hcall).mono ?_⟩;rintro e1 w1 ⟨rfl,hk1⟩;have hlim:e=0->bl.length<=20:=λhe=>by
    by_cases hg:Dx (Ac bl) 20=true
    · have h4:AL a bl=some 4:=by unfold AL QW;rw[if_pos hg]
      rw[h4,he]at hck;cases hck
    · have:¬((20:Int)<(bl.length:Int)):=λh=>hg (by simpa [Dx,Ac,GI.toZ]using h)
      omega
  have e5:Bg e 0=(e !=0):=rfl;rw[e5]at hy;by_cases he:e=0
  case neg=>
    rw[if_pos (by simpa using he)]at hy;cases hy
    gi_wp2
    go_ret2
    exact⟨_,rfl,hk1,none,Rf.As3,λk h=>nomatch h⟩
  have hlim:=hlim he;subst he;rw[if_neg Bpj]at hy
  gi_wp2
  obtain⟨n1,hsz,hy⟩:=Go.Lv.bind_some hy;obtain⟨f,hf,hy⟩:=Go.Lv.bind_some hy;obtain⟨g,hg,hy⟩:=Go.Lv.bind_some hy;obtain⟨h,hh,hy⟩:=Go.Lv.bind_some hy;cases hy;have hb1:=Rf.Aaq hk1;have hI0:=Lib.fresh_isBuffer 164 5 w1;have hc0:(w1.alloc (.cells #[.slice none 0 0, .int .i64 0, .int .i8 0] 164)).cell? ⟨w1.heap.size,0,none⟩=some (.slice none 0 0):=by rw[Lib.cell_of_heap (World.alloc_heap_new w1 _)];rfl
  have hb0:=(Below.refl w1.heap.size w1).alloc (Nat.le_refl _) (.cells #[.slice none 0 0, .int .i64 0, .int .i8 0] 164);generalize(w1.alloc (.cells #[.slice none 0 0, .int .i64 0, .int .i8 0] 164))=W0 at hI0 hc0 hb0⊢;have hbw0:=(hb1.trans (hb0.mono hb1.size));have hv0:Bb (λk=>k<w.heap.size) W0 (.list Rf.CH) bl [vl]:=Bb.step (λ_ h=>h) (λk hk=>hbw0.block k hk) hv;refine⟨trivial,(λh=>nomatch h),(callsIn_wide.2 (Rf.Bev hSz hv0 (Ajm hgl (Nat.le_refl _) hbw0) hsz)).mono ?_⟩;rintro e2 W2 ⟨rfl,hk2⟩;have hb2:=Rf.Aaq hk2;have hI2:=Rf.qo hI0 hb2.block;have hc2:W2.cell? ⟨w1.heap.size,0,none⟩=some (.slice none 0 0):=(World.cell?_of_block (hb2.block _ hI0.lt)).trans hc0;have hbw2:Below w1.heap.size w1 W2:=hb0.trans (hb2.mono hb0.size);clear hI0 hc0 hb0 hbw0 hv0 hb2 hk2
  gi_wp2
  refine⟨trivial,(λh=>nomatch h),(N7 (n-1) gl hLe w1.heap.size w1.heap.size [] [82,73,70,70] f n1 W2 hI2 (λ_=>⟨hc2,F2,F2⟩) hbw2.size (Ajm hgl (Nat.le_refl _) (hb1.trans (hbw2.mono hb1.size))) hf).mono ?_⟩;rintro e3 W3 ⟨rfl,hI3,hb3,ho3⟩;obtain⟨c3,hf3⟩:=K6 hf;have hfn:f≠ []:=by rw[hf3];simp
  have Bjt:=hbw2.trans hb3;obtain⟨rfl,q1⟩:=cJ hg
  gi_wp2
  refine⟨trivial,(λh=>nomatch h),(callsIn_wide.2 (Ari _ _ f a W3 hI3 (λe=>absurd e hfn) Bjt.size F0)).mono ?_⟩;rintro e4 W4 ⟨rfl,hI4,hb4,hr4⟩;have Bn2:=Bjt.trans hb4;have hgn:f++a≠ []:=by simp[hfn]
  clear hI2 hc2 hI3 hb3 ho3 hr4 hbw2 Bjt hb4 hf3;obtain⟨v1,c0,e1,⟨p,len,cap,rfl,hl1,hl2,hl3,hl4⟩,hall⟩:=(show∃v c0,[vl]=[v]/\Rd _ w 2 v c0/\Cv (Bb _ w Rf.CH) bl c0 from hv);cases e1;have hlen:bl.length=len:=by
    have:=Cv.len (z:=2) (λx c h=>Rf.Bif h) hall;omega
  gi_wp2
  refine Al0 (bl.length+1) (λq a W=>∃(i:Nat) (l:LB) (z:Int) (x0 x1 x2 x3 x4 x5 x6 x9 x10 x11 x12 x13 x14 x15 x16 x17 x18 x19 x20 x21 x22 x23 x27 x28 x29 x30 x31 x32 x33 x34 x35 x36 x37 x38 x39 x40 x41 x42 x43 x44 x45 x46 x47:Value),a={tmps:= #[x0,x1,x2,x3,x4,x5,x6, .pointer (some ⟨w1.heap.size,0,none⟩), .func (.func 104) #[] #[.pointer (some ⟨w1.heap.size,0,none⟩)],x9,x10,x11,x12,x13,x14,x15,x16,x17,x18,x19,x20,x21,x22,x23, .slice p len cap, .int .i64 len, .int .i64 z,x27,x28,x29,x30,x31,x32,x33,x34,x35,x36,x37,x38,x39,x40,x41,x42,x43,x44,x45,x46,x47],defers:=[]}/\z=(i:Int)/\q+i=bl.length+1/\i<=bl.length/\
    Lib.IsBuffer 164 5 w1.heap.size w1.heap.size (Lib.byteCells l) W/\l≠ []/\Below w1.heap.size w1 W/\SG (bl.drop i) l=some h) ?_ ?_ ?_
  · rintro a W ⟨i,l,z,x0,x1,x2,x3,x4,x5,x6,x9,x10,x11,x12,x13,x14,x15,x16,x17,x18,x19,x20,x21,x22,x23,x27,x28,x29,x30,x31,x32,x33,x34,x35,x36,x37,x38,x39,x40,x41,x42,x43,x44,x45,x46,x47,_,_,hq,hi,_⟩
    omega
  · rintro q a W ⟨i,l,_,x0,x1,x2,x3,x4,x5,x6,x9,x10,x11,x12,x13,x14,x15,x16,x17,x18,x19,x20,x21,x22,x23,x27,x28,x29,x30,x31,x32,x33,x34,x35,x36,x37,x38,x39,x40,x41,x42,x43,x44,x45,x46,x47,rfl,rfl,hq,hi,hI,hl,hb,hr⟩
    by_cases hlt:i<bl.length
    · obtain⟨c,hc⟩:∃c,bl[i]? =some c:=⟨_,List.getElem?_eq_getElem hlt⟩
      have hd:bl.drop i=c::bl.drop (i+1):=by
        rw[List.drop_eq_getElem_cons hlt];rw[List.getElem?_eq_getElem hlt]at hc;rw[Option.some.inj hc]
      rw[hd]at hr;simp only[SG]at hr;obtain⟨l1,r1,hr⟩:=Go.Lv.bind_some hr;obtain⟨l2,r2,hr⟩:=Go.Lv.bind_some hr;obtain⟨z,r3,hr⟩:=Go.Lv.bind_some hr;obtain⟨l3,r4,hr⟩:=Go.Lv.bind_some hr;obtain⟨vd,g1,g2,g3⟩:=Rf.All hall hc;obtain⟨bk,off,arr,T,fr,rfl,hbk,hheap,hsz2,hcells⟩:=hl4 F0;have hsrc:=Rf.Bhv g3;obtain⟨pd,_,Aqt,rfl,rfl,d2,d3⟩:=id hsrc;have Bn3:Below w.heap.size w W:=hb1.trans (hb.mono hb1.size);have hW:W.heap[bk]? =some (.cells arr T fr):=(Bn3.block _ hbk).trans hheap;have ha0:W.cell? ⟨bk,off+i*2,none⟩=some (sv c.1):=by rw[Lib.cell_of_heap hW,Nat.mul_comm i 2];exact(hcells (2*i) F0).trans g1
      have ha1:W.cell? ⟨bk,off+i*2+1,none⟩=some (.slice pd c.2.1.length Aqt):=by rw[Lib.cell_of_heap hW,Nat.mul_comm i 2,Nat.add_assoc];exact(hcells (2*i+1) F0).trans g2
      gi_wp2
      have hIa:=Rf.qo hI (λk hk=>Below.heap_alloc W (.cells #[sv c.1, .slice pd c.2.1.length Aqt] 97) k hk);have hka:(W.alloc (.cells #[sv c.1, .slice pd c.2.1.length Aqt] 97)).heap[W.heap.size]? =some (.cells #[sv c.1, .slice pd c.2.1.length Aqt] 97 (0,0)):=World.alloc_heap_new W _;have hba:=hb.alloc hb.size (.cells #[sv c.1, .slice pd c.2.1.length Aqt] 97);have hkb:W.heap.size≠w1.heap.size:=λe=>absurd hI.lt F0;refine⟨trivial,(λh=>nomatch h),(N7 (n-1) gl hLe _ _ l c.1 l1 _ _ hIa (λe=>absurd e hl) hba.size (Ajm hgl (Nat.le_refl _) (hb1.trans (hba.mono hb1.size))) r1).mono ?_⟩;rintro e5 W5 ⟨rfl,hI5,hb5,ho5⟩;have hk5:=ho5 _ _ hka (λe=>hkb (Option.some.inj e)) (λc fz e=>by cases e);have c5:W5.cell? ⟨W.heap.size,1,none⟩=some (.slice pd c.2.1.length Aqt):=by rw[Lib.cell_of_heap hk5];rfl
      have hb5':=hba.trans hb5;obtain⟨rfl,q2⟩:=cJ r2;obtain⟨rfl,q3⟩:=cJ r4;obtain⟨c1,hl1⟩:=K6 r1
      gi_wp2
      refine⟨trivial,(λh=>nomatch h),(callsIn_wide.2 (Ais (A:=λk=>k<w.heap.size) _ _ l1 c.2.1 _ W5 hI5 hb5'.size (hsrc.keep λk hk=>(hb1.trans (hb5'.mono hb1.size)).block k hk) (λh=>absurd hb1.size F0) F0)).mono ?_⟩;rintro e6 W6 ⟨rfl,hI6,hb6,ho6⟩;have hk6:=ho6 _ _ hk5 (λe=>hkb (Option.some.inj e)) (λc fz e=>by cases e);have c6:W6.cell? ⟨W.heap.size,1,none⟩=some (.slice pd c.2.1.length Aqt):=by rw[Lib.cell_of_heap hk6];rfl
      have hb6':=hb5'.trans hb6;clear hIa hka hba hI5 hb5 ho5 hk5 c5 hb5' hb6 ho6 hk6 ha0 ha1 hW;have hbit:bits BinOp.and IntKind.i64 (c.2.1.length:Int) 1=((c.2.1.length %2:Nat):Int):=Rf.Azq c.2.1.length F0;obtain⟨m,hm2⟩:∃m:Nat,m=c.2.1.length %2:=⟨_,rfl⟩;rw[<-hm2]at hbit;have Bhd:Ez (Ac c.2.1) 1=(m:Int):=hbit;rw[Bhd]at r3;have hm1:m<=1:=F0
      obtain rfl:z=List.replicate m 0:=by
        unfold mkI at r3;split at r3
        · cases r3;rfl
        · cases r3
      obtain⟨i0,hi0,hz0,hz1,hz2⟩:=info_parts Tryz.Bgn.i5;obtain⟨M,hmk,hms⟩:=Rf.Apg (P:=Tryz.prog) (TB:=22) (U8:=5) Tryz.underlying22 hi0 hz0 hz1 hz2 m hm1;clear hm2 Bhd r3 hi0 hz0 hz1 hz2
      gi_wp2
      refine⟨trivial,(λh=>nomatch h),(callsIn_wide.2 (Ais (A:=λk=>k=W6.heap.size) _ _ (l1++c.2.1) (List.replicate m 0) _ _ (Rf.qo hI6 (λk hk=>Below.heap_alloc W6 (.cells M 5) k hk)) (hb6'.alloc hb6'.size (.cells M 5)).size (hms W6) (λe=>absurd hI6.lt F0) (by rw[List.length_append];rw[List.length_append]at q3;omega))).mono ?_⟩;rintro e8 W8 ⟨rfl,hI8,hb8,ho8⟩;have hb8':=(hb6'.alloc hb6'.size (.cells M 5)).trans hb8
      gi_wp2
      exact⟨i+1,l1++c.2.1++List.replicate m 0,_,_,_,_,_,_,_,_,_,_,_,_,_,_,_,_,_,_,_,_,_,_,_,_,_,_,_,_,_,_,_,_,_,_,_,_,_,_,_,_,_,_,_,_,rfl,F0,F0,F0,hI8,by simp[hl1,hl],hb8',hr⟩
    · obtain rfl:i=bl.length:=F0
      rw[List.drop_length]at hr;obtain rfl:l=h:=Option.some.inj hr
      gi_wp2
      refine⟨trivial,(λh=>nomatch h),(callsIn_wide.2 (Bci _ _ _ W hI)).mono ?_⟩;rintro e9 W9 ⟨v,rfl,hown,n9,rfl⟩
      gi_wp2
      go_ret2
      have hbf:=(hb1.trans (hb.mono hb1.size)).trans (Rf.Alu _ W n9);obtain⟨o,ho1,ho2⟩:=Rf.Aps hown;exact⟨_,rfl,Rf.Bc3 hbf,o,ho1,λk hk=>⟨Nat.le_trans hb1.size (ho2 k hk).1,(ho2 k hk).2⟩⟩
  · exact⟨0,f++a,_,_,_,_,_,_,_,_,_,_,_,_,_,_,_,_,_,_,_,_,_,_,_,_,_,_,_,_,_,_,_,_,_,_,_,_,_,_,_,_,_,_,_,_,rfl,rfl,F0,Nat.zero_le _,hI4,hgn,Bn2,by simpa using hh⟩
noncomputable def nH:Con:=⟨Axf,Ayl,λx=>QR x.1 x.2⟩
theorem Aev{gl:List (Nat×List Value)}(hE:Ent Tryz.prog 55)(hCk:ConOk Tryz.prog gl 103 ⟨[.lf .str none, .lf (.list (.cons .str (.cons (.list (.int .u8)) .nil))) none],[.lf (.int .i64) none],λx=>AL x.1 x.2⟩)(hSz:ConOk Tryz.prog gl 107 ⟨[.lf (.list (.cons .str (.cons (.list (.int .u8)) .nil))) none],[.lf (.int .i64) none],PA⟩)(hLe:ConOk Tryz.prog gl 83 ⟨[.lf (.int .u64) none, .lf (.int .i64) none],[.lf (.list (.int .u8)) (some 5), .lf (.int .i64) none],λx=>Qf x.1 x.2⟩):ConOk Tryz.prog gl 55 nH:=by
  refine⟨hE,?_⟩;rintro R N w L0 vs ps ⟨a,bl⟩ y hargs hlen hit ql hvs hgl hy;obtain rfl:=Option.some.inj (show some [PV.val .str a,PV.val (.list Rf.CH) bl]=some ps from hargs);obtain⟨v0,_,rfl,h0,v,_,rfl,h1,rfl⟩:=hvs;obtain rfl:v0=sv a:=by cases(show [v0]=[sv a]from h0);rfl
  have h2:Bb (λb=>R b/\N b) w (.list Rf.CH) bl [v]:=h1;have h3:=Bb.step (B':=λk=>k<w.heap.size) (λ_ h=>h.1) (λ_ _=>rfl) (AV h2);refine(callsIn_wide.1 (Ael 3 gl hCk hSz hLe w a bl v h3 (λq hq=>⟨(hgl q hq).1,trivial,(hgl q hq).2.2⟩) y hy)).mono ?_;rintro e w' ⟨u,rfl,hk,o,ho1,ho2⟩;refine⟨[u, .int .i64 y.2],rfl,⟨λb hb _=>hk.same b hb trivial,hk.gr⟩,λ_=>False,[.own 1 5 u (Lib.byteCells y.1)],λ_ h=>h.elim,?_,?_⟩
  · exact⟨o,ho1,λb hb=>⟨λh=>h.elim id λh=>absurd (ho2 b hb).1 (by have:=h.1;omega),(ho2 b hb).2⟩,trivial⟩
  · intro s L B' hl _ _
    refine⟨[.own s.it.length, .val (.int .i64) y.2],[.arr 5 (.int .u8) y.1],rfl,rfl,?_,rfl,λi a m h1 h2=>?_⟩
    · refine⟨_,_,rfl,⟨1,5,u,Lib.byteCells y.1,?_,rfl⟩,_,_,rfl,rfl,rfl⟩
      rw[<-hl];simp
    · cases i with
      |zero=>
        cases h1;cases h2;exact⟨rfl,rfl,Rf.Ad0 y.1⟩
      |succ i=>simp at h1
noncomputable def zm:Con:=⟨[.lf (.int .i64) none, .lf (.int .i64) none],[.lf (.list (.int .i64)) (some 3), .lf (.int .i64) none],λx=>AI x.1 x.2⟩
noncomputable def AS(gl:List (Nat×List Value)):Tab:=⟨[(117,zm)],gl,false⟩
noncomputable abbrev QA{R:Type}(gl:List (Nat×List Value)):U0 R:=PM Tryz.prog (AS gl) 8 []
noncomputable def Bbk:Code:=fB Tryz.f136
noncomputable def Atq:Code:=cB Bbk
noncomputable def Arh:Code:=cB Atq
noncomputable def Ag7:Code:=cA (cA (cB Arh))
noncomputable def Atc:Code:=cB (cB Ag7)
noncomputable def Aih:Code:=cA (cA Atc)
noncomputable def Ab8:Code:=cB (cB Aih)
noncomputable def Aqv:Code:=cA Bbk
noncomputable def Aso:Code:=cA Atq
noncomputable def Aqu:Code:=cA Arh
noncomputable def Atb:Code:=cA Ag7
noncomputable def Aq8:Code:=cA (cB Ag7)
noncomputable def Aq4:Code:=cB Atc
noncomputable def Atn:Code:=cA Aih
noncomputable def Ar4:Code:=cA (cB Aih)
noncomputable def As2:Code:=cB Ab8
noncomputable def Aiu:List Oper:=cO (cA (cA Ab8))
noncomputable def Air:Code:=cB (cA Ab8)
noncomputable def J4:List Oper:=Aiu.take 6
noncomputable def nN:Oper:=oAt Aiu 6
noncomputable def vK:Oper:=oAt Aiu 7
theorem Avo:Tryz.f136.body=some (.seq Aqv (.seq Aso (.seq Aqu (.block 0 (.loop (.seq Atb (.seq Aq8 (.seq (.block 1 (.seq Atn (.seq Ar4 (.seq (.seq (.region 6 (J4++nN::[vK]).toArray false) Air) As2)))) Aq4)))))))):=F5
theorem Bf2:Tryz.f136.ntmps=43:=F5
theorem Ay7:nN.guard=none:=F5
theorem Ba6:nN.dst=some 39:=F5
theorem Akp:nN.op= .call ⟨.value (.tmp 33), #[.tmp 38], #[32]⟩:=F5
abbrev Mw(a f h:Int)(b:LX):PV:= .agg [vi a,vi f,vi h,vw b]
abbrev ZM(y:Value)(v:PV)(ls:LI)(i x:Int):Slots:=[(0, .cst y),(1, .rptr v),(5,vi x),(21,vl ls),(22,vi (Ac ls)),(23,vi i)]
abbrev gU(lv:List Nat):K (Nat×S):=kC lv []
abbrev Hy(l:Nat):Value:= .func (.yield l) #[] #[]
theorem Bdd(gl:List (Nat×List Value))(l:Nat)(a f h:Int)(b:LX):ex Tryz.prog (AS gl) (QA gl) 43 Aqv .d (kC [0,1,3] [⟨3,[], .ro (.int .i64)⟩]) ⟨[(0, .cst (Hy l)),(1, .rptr (Mw a f h b))],[],[]⟩=
    Option.bind (Jg (Bg a 0)) λ_=>Option.bind (AI h (Bq (Ac b) a)) λp=>some (0,⟨[(0, .cst (Hy l)),(1, .rptr (Mw a f h b)),(3,vl p.1)],[],[]⟩):=F5
theorem Beq(gl:List (Nat×List Value))(l:Nat)(v:PV)(ls:LI):ex Tryz.prog (AS gl) (QA gl) 43 Aso .d (gU [0,1,3,5]) ⟨[(0, .cst (Hy l)),(1, .rptr v),(3,vl ls)],[],[]⟩=some (0,⟨[(0, .cst (Hy l)),(1, .rptr (ren [] v)),(3,vl ls),(5,vi 0)],[],[]⟩):=F5
theorem Bfd(gl:List (Nat×List Value))(l:Nat)(a f h:Int)(b:LX)(ls:LI):ex Tryz.prog (AS gl) (QA gl) 43 Aqu .d (gU [0,1,5,21,22,23]) ⟨[(0, .cst (Hy l)),(1, .rptr (Mw a f h b)),(3,vl ls),(5,vi 0)],[],[]⟩=
    some (0,⟨ZM (Hy l) (Mw a f h b) ls 0 0,[],[]⟩):=F5
theorem Bc6(gl:List (Nat×List Value))(l:Nat)(a f h:Int)(b:LX)(ls:LI)(i x:Int):ex Tryz.prog (AS gl) (QA gl) 43 Atb .d (gU [0,1,5,21,22,23,24]) ⟨ZM (Hy l) (Mw a f h b) ls i x,[],[]⟩=
    some (0,⟨ZM (Hy l) (Mw a f h b) ls i x++[(24,vt (Cj i (Ac ls)))],[],[]⟩):=F5
theorem Asv(gl:List (Nat×List Value))(l:Nat)(a f h:Int)(b:LX)(ls:LI)(i x:Int)(t:Bool):ex Tryz.prog (AS gl) (QA gl) 43 Aq8 .d (gU [0,1,5,21,22,23]) ⟨ZM (Hy l) (Mw a f h b) ls i x++[(24,vt t)],[],[]⟩=
    if t=true then some (0,⟨ZM (Hy l) (Mw a f h b) ls i x,[],[]⟩)else some (2,⟨ZM (Hy l) (Mw a f h b) ls i x,[],[]⟩):=F5
theorem Bec(gl:List (Nat×List Value))(l:Nat)(a f h:Int)(b:LX)(ls:LI)(i x:Int):ex Tryz.prog (AS gl) (QA gl) 43 Atn .d (gU [0,1,5,7,21,22,23]) ⟨ZM (Hy l) (Mw a f h b) ls i x,[],[]⟩=
    Option.bind (Am ls i) λn=>some (0,⟨[(0, .cst (Hy l)),(1, .rptr (Mw a f h b)),(5,vi x),(7,vi n),(21,vl ls),(22,vi (Ac ls)),(23,vi i)],[],[]⟩):=F5
theorem Bfk(gl:List (Nat×List Value))(l:Nat)(a f h:Int)(b:LX)(ls:LI)(i x n:Int):ex Tryz.prog (AS gl) (QA gl) 43 Ar4 .d (gU [0,1,5,8,21,22,23]) ⟨[(0, .cst (Hy l)),(1, .rptr (Mw a f h b)),(5,vi x),(7,vi n),(21,vl ls),(22,vi (Ac ls)),(23,vi i)],[],[]⟩=
    some (0,⟨[(0, .cst (Hy l)),(1, .rptr (Mw a f h b)),(5,vi x),(8,vi (Ae x (Bi n a))),(21,vl ls),(22,vi (Ac ls)),(23,vi i)],[],[]⟩):=F5
abbrev Atm(y:Value)(v:PV)(ls:LI)(i x z:Int)(p:LX):Slots:=[(0, .cst y),(1, .rptr v),(5,vi x),(8,vi z),(21,vl ls),(22,vi (Ac ls)),(23,vi i),(33, .cst y),(38,vw p)]
theorem Bfq(gl:List (Nat×List Value))(l:Nat)(a f h:Int)(b:LX)(ls:LI)(i x z:Int):xU Tryz.prog (AS gl) (QA gl) 43 (J4++nN::[vK]).toArray J4 ⟨[(0, .cst (Hy l)),(1, .rptr (Mw a f h b)),(5,vi x),(8,vi z),(21,vl ls),(22,vi (Ac ls)),(23,vi i)],[],[]⟩ (cnP [0,1,5,8,21,22,23,33,38] [] 0)=
    Option.bind (Br b x z) λp=>some (0,⟨Atm (Hy l) (Mw a f h b) ls i x z p,[],[]⟩):=F5
theorem Bfm(gl:List (Nat×List Value))(l:Nat)(a f h:Int)(b:LX)(ls:LI)(i x z:Int)(p:LX)(t:Bool):xU Tryz.prog (AS gl) (QA gl) 43 (J4++nN::[vK]).toArray [vK] ⟨Au4 (Atm (Hy l) (Mw a f h b) ls i x z p) 39 (vt t),[],[]⟩ (cnP [0,1,5,8,21,22,23,40] [] 0)=
    some (0,⟨[(0, .cst (Hy l)),(1, .rptr (Mw a f h b)),(5,vi x),(8,vi z),(21,vl ls),(22,vi (Ac ls)),(23,vi i),(40,vt (!t))],[],[]⟩):=F5
theorem Bdt(gl:List (Nat×List Value))(l:Nat)(a f h:Int)(b:LX)(ls:LI)(i x z:Int)(t:Bool):ex Tryz.prog (AS gl) (QA gl) 43 Air .d (gU [0,1,5,8,21,22,23]) ⟨[(0, .cst (Hy l)),(1, .rptr (Mw a f h b)),(5,vi x),(8,vi z),(21,vl ls),(22,vi (Ac ls)),(23,vi i),(40,vt t)],[],[]⟩=
    if t=true then some (1,⟨[(0, .cst (Hy l)),(1, .rptr (Mw a f h b)),(5,vi x),(8,vi z),(21,vl ls),(22,vi (Ac ls)),(23,vi i)],[],[]⟩)else some (0,⟨[(0, .cst (Hy l)),(1, .rptr (Mw a f h b)),(5,vi x),(8,vi z),(21,vl ls),(22,vi (Ac ls)),(23,vi i)],[],[]⟩):=F5
theorem Bdn(gl:List (Nat×List Value))(l:Nat)(a f h:Int)(b:LX)(ls:LI)(i x z:Int):ex Tryz.prog (AS gl) (QA gl) 43 As2 .d (gU [0,1,5,21,22,23]) ⟨[(0, .cst (Hy l)),(1, .rptr (Mw a f h b)),(5,vi x),(8,vi z),(21,vl ls),(22,vi (Ac ls)),(23,vi i)],[],[]⟩=
    some (0,⟨ZM (Hy l) (Mw a f h b) ls i z,[],[]⟩):=F5
theorem Bgb(gl:List (Nat×List Value))(l:Nat)(a f h:Int)(b:LX)(ls:LI)(i x:Int):ex Tryz.prog (AS gl) (QA gl) 43 Aq4 .d (gU [0,1,5,21,22,23]) ⟨ZM (Hy l) (Mw a f h b) ls i x,[],[]⟩=
    some (0,⟨ZM (Hy l) (Mw a f h b) ls (Ae i 1) x,[],[]⟩):=F5
theorem Bau:xU Tryz.prog ⟨[],[],false⟩ (PM Tryz.prog ⟨[],[],false⟩ 8 []) 43 (J4++nN::[vK]).toArray [vK] ⟨[(39,vt false)],[],[]⟩ (cnP [40] [] 0)=some (0,⟨[(40,vt true)],[],[]⟩):=F5
theorem Ayz:ex Tryz.prog ⟨[],[],false⟩ (PM Tryz.prog ⟨[],[],false⟩ 8 []) 43 Air .d (gU []) ⟨[(40,vt true)],[],[]⟩=some (1,⟨[],[],[]⟩):=F5
theorem Ayp{i:Nat}(h:i<17179869184):Ae (i:Int) 1=((i+1:Nat):Int):=by
  rw[show Ae (i:Int) 1=Go.Lv.wrap64 ((i:Int)+1)from rfl,Go.Lv.Cz F0 F0];omega
def Ab1:PV->Option (List LX)
  | .agg [.val (.int .i64) a, .val (.int .i64) _, .val (.int .i64) h, .val (.list (.int .i32)) b]=>bT a h b
  |_=>none
theorem Apb{v:PV}{xs:List LX}(h:Ab1 v=some xs):∃a f r b,v=Mw a f r b/\bT a r b=some xs:=by
  unfold Ab1 at h;split at h
  · exact⟨_,_,_,_,rfl,h⟩
  · cases h
theorem pI{a:Int}{b:LX}{n:Int}{l:LI}{x:Int}{ps:List LX}(h:Tw a b (n::l) x=some ps):∃p r,Br b x (Ae x (Bi n a))=some p/\Tw a b l (Ae x (Bi n a))=some r/\ps=p::r:=by
  simp only[Tw]at h;obtain⟨p,h1,h⟩:=Go.Lv.bind_some h;obtain⟨r,h2,h⟩:=Go.Lv.bind_some h;cases h;exact⟨p,r,h1,h2,rfl⟩
theorem tQ{a:Int}{b:LX}:∀{l:LI} {x:Int} {ps:List LX},Tw a b l x=some ps->ps.length=l.length
  |[],x,ps,h=>by simp only[Tw,Option.some.injEq]at h;subst h;rfl
  |n::l,x,ps,h=>by
    obtain⟨p,r,_,h2,rfl⟩:=pI h;simp[tQ h2]
theorem Aww{gl:List (Nat×List Value)}(hC:ConOk Tryz.prog gl 117 zm)(hE:Ent Tryz.prog 136):ItOk Tryz.prog gl 136 ⟨34, .list (.int .i32),Ab1⟩:=by
  refine⟨hE,λm B w b v cells xs hB hb hcell henc hgl hF=>?_⟩;have hF:Ab1 v=some xs:=hF;obtain⟨a,f,h,s,rfl,hF⟩:=Apb hF;have hM:Tryz.prog.follows .mixedOrders=true:=F5
  have hT:NS Tryz.prog (AS gl):= .cons hC .nil;have hI:∀{R:Type},NO (R:=R) Tryz.prog (AS gl).gl (QA gl):=G9 hM hT An0.nil 8;unfold bT at hF;obtain⟨u0,hok,hF⟩:=Go.Lv.bind_some hF;obtain⟨p0,hall,hF⟩:=Go.Lv.bind_some hF;obtain⟨u1,hlim,hF⟩:=Go.Lv.bind_some hF;have hlim:p0.1.length<=17179869184:=by
    unfold Jg at hlim;split at hlim
    · rename_i h;have h':=of_decide_eq_true h;unfold Ac at h';omega
    · cases hlim
  have hlen:=tQ hF;intro l J Jx W hk hJ hJx hY h0;refine callsIn_of_wp_marks Tryz.func136 Avo trivial ?_ rfl;have hGr:∀i V X Y,J i V X->KeepN (λ_=>True) X Y->J i (grown V X Y) Y:=λi V X Y h k=>hJ i V X Y h k;have hbW:W.heap[b]? =some (.cells cells.toArray 34 (0,0)):=(hk.same b (hB b hb) trivial).trans hcell;have hm0:MemI gl B W ⟨[(0, .cst (Hy l)),(1, .rptr (Mw a f h s))],[],[]⟩ (xO [Hy l, .pointer (some ⟨b,0,none⟩)]):=by
    refine⟨λk hk'=>Nat.lt_of_lt_of_le (hB k hk') hk.gr.le,rfl,rfl,λp hp=>?_,hgl.keep (λ_ h=>h) (λk hk'=>hk.same k (hB k hk') trivial) hk.gr⟩;rcases List.mem_cons.1 hp with rfl|hp
    · exact(show _/\ _ from⟨rfl,rfl⟩)
    rcases List.mem_cons.1 hp with rfl|hp
    · exact⟨_,cells,rfl,⟨b,0,cells.toArray,_,_,rfl,hb,hbW,λi _=>by simp⟩,Bo.step (λ_ h=>h) (λk hk'=>hk.same k (hB k hk') trivial) (.refl []) henc⟩
    · cases hp
  have ha0:=Abb (fn:=Tryz.f136) (vs:=[Hy l, .pointer (some ⟨b,0,none⟩)]) F5;have e0:(#[Value.func (.yield l) #[] #[]]++ #[Value.pointer (some ⟨b,0,none⟩)]:Array Value)=[Hy l, .pointer (some ⟨b,0,none⟩)].toArray:=by simp
  rw[e0]
  revert ha0
  generalize({tmps:=_,defers:=[]}:Act)=Bqk;rw[Bf2];intro ha0;refine A7 hM hT hI (J:=J 0) (hGr 0) .d [0,1,3] [⟨3,[], .ro (.int .i64)⟩] ((Bdd gl l a f h s).trans (by rw[hok,hall];rfl)) rfl hm0 h0 ha0 λσ1 V1 w1 a1 f1 j1 m1=>?_;refine A7 hM hT hI (J:=J 0) (hGr 0) .d [0,1,3,5] [] (Beq gl l _ p0.1) rfl m1 j1 f1 λσ2 V2 w2 a2 f2 j2 m2=>?_;refine A7 hM hT hI (J:=J 0) (hGr 0) .d [0,1,5,21,22,23] [] (Bfd gl l a f h s p0.1) rfl m2 j2 f2 λσ3 V3 w3 a3 f3 j3 m3=>?_;have fin:∀{σ:Env} {a':Act} {w':World},Fits [] 43 a' σ-> ((∃V,J xs.length V w')\/Jx w')->LeavesInM (wr none) m Tryz.prog Tryz.f136 a'.tmps (λe W'=>(∃v,e= .returned v)/\ ((∃V,J xs.length V W')\/Jx W')) a'.defers .returning w':=by
    intro σ a' w' hf hh;rw[hf.defers];exact⟨_,dJ (rs:=[]) (vs:=[]) F5 hf trivial,⟨_,rfl⟩,hh⟩
  refine wpIn_block (wJ (p0.1.length+1) (λq a' w'=>∃(i:Nat) (x:Int) (V:Reg) (σ:Env),q+i=p0.1.length+1/\i<=p0.1.length/\Fits [] 43 a' σ/\J i V w'/\MemI gl V w' ⟨ZM (Hy l) (Mw a f h s) p0.1 (i:Int) x,[],[]⟩ σ/\Tw a s (p0.1.drop i) x=some (xs.drop i)) ?_ ?_
    ⟨0,0,V3,σ3,rfl,Nat.zero_le _,f3,j3,m3,hF⟩)
  · rintro a' w' ⟨i,x,V,σ,hq,hi,_⟩
    omega
  rintro q a' w' ⟨i,x,V,σ,hq,hi,hf,hj,hm,hp⟩;refine A7 hM hT hI (J:=J i) (hGr i) .d [0,1,5,21,22,23,24] [] (Bc6 gl l a f h s p0.1 i x) rfl hm hj hf λσ4 V4 w4 a4 f4 j4 m4=>?_;by_cases hlt:i<p0.1.length
  · have hg:Cj (i:Int) (Ac p0.1)=true:=by simp[Cj,Ac,GI.toZ];exact hlt
    rw[hg]at m4;refine A7 hM hT hI (J:=J i) (hGr i) .d [0,1,5,21,22,23] [] (Asv gl l a f h s p0.1 i x true) rfl m4 j4 f4 λσ5 V5 w5 a5 f5 j5 m5=>?_;obtain⟨n,hn⟩:∃n,p0.1[i]? =some n:=⟨_,List.getElem?_eq_getElem hlt⟩;have hgn:Go.Lv.Am p0.1 (i:Int)=some n:=by simp[Go.Lv.Am,hn]
    have hd:p0.1.drop i=n::p0.1.drop (i+1):=by rw[List.drop_eq_getElem_cons hlt];congr 1;rw[List.getElem?_eq_getElem hlt]at hn;exact Option.some.inj hn
    rw[hd]at hp;obtain⟨p,r,hcut,hp',hxs⟩:=pI hp;have hi':i<xs.length:=F0
    have hx:xs[i]? =some p:=by
      have:=congrArg List.head? hxs;rw[List.head?_drop]at this;exact this
    have hr:xs.drop (i+1)=r:=by
      have:=congrArg List.tail hxs;rw[List.tail_drop]at this;exact this
    refine wpIn_seq (wpIn_block ?_);refine A7 hM hT hI (J:=J i) (hGr i) .d [0,1,5,7,21,22,23] [] ((Bec gl l a f h s p0.1 i x).trans (by rw[hgn];rfl)) rfl m5 j5 f5 λσ6 V6 w6 a6 f6 j6 m6=>?_;refine A7 hM hT hI (J:=J i) (hGr i) .d [0,1,5,8,21,22,23] [] (Bfk gl l a f h s p0.1 i x n) rfl m6 j6 f6 λσ7 V7 w7 a7 f7 j7 m7=>?_;refine wpIn_seq (wpIn_seq (wpIn_region_lit ?_));refine Ahl (T:=AS gl) hT hI (J:=J i) (hGr i) [0,1,5,8,21,22,23,33,38] F5 ((Bfq gl l a f h s p0.1 i x (Ae x (Bi n a))).trans (by rw[hcut];rfl)) rfl m7 j7 f7 λσ8 V8 w8 a8 f8 j8 m8=>?_;have v33:σ8 33=Hy l:=by
      have:=m8.val (t:=33) (p:= .cst (Hy l)) Bpj rfl;exact(show [σ8 33]=[Hy l]/\ _ from this).1|>List.head_eq_of_cons_eq
    have v38:Je V8 w8 [] (vw p) (σ8 38):=(mJ rfl).1 (m8.val (t:=38) (p:=vw p) Bpj rfl);refine Az7 Ay7 Ba6 F2 (λc hc=>by rw[Akp]at hc;cases hc) (Alo Akp v33 rfl) (hY i V8 w8 (σ8 38) hi' j8 (λx' hx'=>by rw[hx]at hx';cases hx';exact v38)) ?_ f8;rintro e w9 (⟨rfl,j9,hgr,hsame⟩|⟨rfl,jx⟩)
    · refine⟨_,rfl,λa9 f9=>?_⟩
      have m9:=(m8.round hgr hsame).set (d:=39) (p:=vt true) (v:= .bool true) rfl (show [Value.bool true]=[Value.bool true]from rfl);refine Ahl (T:=AS gl) (l2:=[]) hT hI (J:=J (i+1)) (hGr (i+1)) [0,1,5,8,21,22,23,40] F5 (Bfm gl l a f h s p0.1 i x (Ae x (Bi n a)) p true) rfl m9 j9 f9 λσb Vb wb ab fb jb mb=>?_;refine wpIn_mono (vI hM hT hI (J:=J (i+1)) (hGr (i+1)) (an:= .d) (lv:=[0,1,5,8,21,22,23]) (co:=[]) (Bdt gl l a f h s p0.1 i x (Ae x (Bi n a)) false) rfl mb jb fb) ?_;rintro e ac wc ⟨he,σc,Vc,fc,jc,mc⟩;cases e with
      |normal=>
        refine wpIn_mono (vI hM hT hI (J:=J (i+1)) (hGr (i+1)) (an:= .d) (lv:=[0,1,5,21,22,23]) (co:=[]) (Bdn gl l a f h s p0.1 i x (Ae x (Bi n a))) rfl mc jc fc) ?_;rintro e ad wd ⟨he,σd,Vd,fd,jd,md⟩;cases e with
        |normal=>
          refine wpIn_mono (vI hM hT hI (J:=J (i+1)) (hGr (i+1)) (an:= .d) (lv:=[0,1,5,21,22,23]) (co:=[]) (Bgb gl l a f h s p0.1 i (Ae x (Bi n a))) rfl md jd fd) ?_;rintro e ae we ⟨he,σe,Ve,fe,je,me⟩;cases e with
          |normal=>
            have hadd:Ae (i:Int) 1=((i+1:Nat):Int):=Ayp F0;rw[hadd]at me;exact⟨i+1,_,Ve,σe,F0,F0,fe,je,me,by rw[hr];exact hp'⟩
          |ret=>simp[A9]at he
          |exit id=>simp[A9]at he
          |goto l=>cases he
          |panic c=>cases he
          |outgrown=>cases he
        |ret=>simp[A9]at he
        |exit id=>simp[A9]at he
        |goto l=>cases he
        |panic c=>cases he
        |outgrown=>cases he
      |ret=>simp[A9]at he
      |exit id=>simp[A9]at he
      |goto l=>cases he
      |panic c=>cases he
      |outgrown=>cases he
    · refine⟨_,rfl,λa9 f9=>?_⟩
      have hT0:NS Tryz.prog ⟨[],[],false⟩:= .nil;have hI0:∀{R:Type},NO (R:=R) Tryz.prog [] (PM Tryz.prog ⟨[],[],false⟩ 8 []):=G9 hM hT0 An0.nil 8;have m9:MemI [] (λ_=>False) w9 ⟨[(39,vt false)],[],[]⟩ (Zu σ8 39 (.bool false)):=⟨λ_ h=>h.elim,rfl,rfl,(λp hp=>by
        rcases List.mem_cons.1 hp with rfl|hp
        · exact Lh.put rfl (show [Value.bool false]=[Value.bool false]from rfl)
        · cases hp),λp hp=>by cases hp⟩
      refine Ahl (T:=⟨[],[],false⟩) (l2:=[]) hT0 hI0 (J:=λ_ W=>Jx W) (λ_ X Y h k=>hJx X Y h k) [40] F5 Bau rfl m9 jx f9 λσb Vb wb ab fb jb mb=>?_;refine wpIn_mono (vI (T:=⟨[],[],false⟩) hM hT0 hI0 (J:=λ_ W=>Jx W) (λ_ X Y h k=>hJx X Y h k) (an:= .d) (lv:=[]) (co:=[]) Ayz rfl mb jb fb) ?_;rintro e ac wc ⟨he,σc,Vc,fc,jc,mc⟩;cases e with
      |ret=>exact fin fc (.inr jc)
      |normal=>simp[A9]at he
      |exit id=>simp[A9]at he
      |goto l=>cases he
      |panic c=>cases he
      |outgrown=>cases he
  · have hi2:i=p0.1.length:=F0
    have hg:Cj (i:Int) (Ac p0.1)=false:=by subst hi2;simp[Cj,Ac,GI.toZ]
    rw[hg]at m4;refine wpIn_seq (wpIn_mono (vI hM hT hI (J:=J i) (hGr i) (an:= .d) (lv:=[0,1,5,21,22,23]) (co:=[]) (Asv gl l a f h s p0.1 i x false) rfl m4 j4 f4) ?_);rintro e ac wc ⟨he,σc,Vc,fc,jc,mc⟩;cases e with
    |exit id=>
      obtain rfl:id=0:=by simpa [A9]using he
      exact fin fc (.inl ⟨Vc,by rw[hlen,<-hi2];exact jc⟩)
    |ret=>simp[A9]at he
    |normal=>simp[A9]at he
    |goto l=>cases he
    |panic c=>cases he
    |outgrown=>cases he
abbrev Ac0:List Sh:=[.agg [.lf (.int .i64) none, .lf (.int .i64) none, .lf (.int .i64) none, .lf (.list (.int .i32)) none], .lf .str none]
abbrev TS:List Sh:=[.lf (.list (.list (.int .u8))) (some 22), .lf (.int .i64) none]
noncomputable def Anv:Con:=⟨[.agg [.lf (.int .i64) none, .lf (.int .i64) none, .lf (.int .i64) none, .lf (.list (.int .i32)) none]],[.lf (.int .i64) none],λx=>Cl x.1 x.2.1 x.2.2.1 x.2.2.2⟩
noncomputable def Ajw:Con:=⟨[.lf .str none],[.lf (.vec 16 (.int .i32)) none, .lf (.int .i64) none],Oa⟩
noncomputable def Akk:Con:=⟨[.agg [.lf (.int .i64) none, .lf (.int .i64) none], .lf (.vec 16 (.int .i32)) none, .lf (.list (.int .i32)) none],[.lf (.list (.int .u8)) (some 5), .lf (.int .i64) none],λx=>Nt x.1 x.2.1 x.2.2.1 x.2.2.2⟩
noncomputable def Anq:Con:=⟨[.agg [.lf (.int .i64) none, .lf (.int .i64) none, .lf (.int .i64) none, .lf (.list (.int .i32)) none]],[.agg [.lf (.int .i64) none, .lf (.int .i64) none]],λx=>PD x.1 x.2.1 x.2.2.1 x.2.2.2⟩
noncomputable def K3(gl:List (Nat×List Value)):Tab:=⟨[(52,Anv),(30,Ajw),(80,Akk),(81,Anq)],gl,true⟩
noncomputable def Am1:List (Nat×ItC):=[(136,⟨34, .list (.int .i32),Ab1⟩)]
noncomputable def Adf:List (Nat×An):=[(79, .d)]
noncomputable abbrev Asx{R:Type}(gl:List (Nat×List Value)):U0 R:=PM Tryz.prog (K3 gl) 8 Adf
noncomputable def vg:An:= .loop [2,4,5,7,9] [⟨9,[], .own 22 (.list (.int .u8))⟩] .d
noncomputable def Arb:An:= .seq .d (.seq .d (.seq .d (.seq .d (.seq .d (.seq (.seq .d (.blk vg)) .d)))))
noncomputable def Bds:Code:=fB Tryz.f37
noncomputable def Aq7:Code:=cB (cB (cB (cB (cB Bds))))
noncomputable def As0:Code:=cA (cB (cA Aq7))
noncomputable def Avz:Code:=cB Aq7
def rfA:Code->Code| .rangeFunc _ _ a _=>a|c=>c
def rfB:Code->Code| .rangeFunc _ _ _ b=>b|c=>c
noncomputable def Aif:K (KQ (Yc TS)):={n:=wY Tryz.prog TS Tryz.f37.results.toList,x:=λ_ _=>none,r:=wY Tryz.prog TS Tryz.f37.results.toList}
noncomputable def Ard(gl:List (Nat×List Value))(s:S):Option (KQ (Yc TS)):=ex Tryz.prog (K3 gl) (Asx gl) 45 Avz .d Aif s
noncomputable def Atk(gl:List (Nat×List Value)):K (KQ (Yc TS)):=⟨Ard gl,λid s=>Dy (Nat.beq id 0) (Ard gl s)<|Aif.x id s,Aif.r⟩
noncomputable def O5(gl:List (Nat×List Value)):List LX->S->Option (KQ (Yc TS)):=rnd vg (uL Tryz.prog (K3 gl) (Asx gl) 45 28 (rfA As0) (rfB As0) vg (Atk gl) (.list (.int .i32))) (Atk gl).n
def N4(a f h:Int)(b t:LX)(o:List LB):S:=⟨[(2, .ptr 0 []),(4, .ptr 1 []),(5, .ptr 2 []),(7, .ptr 3 []),(9, .ptr 4 [])],
  [.box 34 (.agg [vi a,vi f,vi h,vw b]), .box 76 .nils, .box 26 (vi 0), .box 64 (.val (.vec 16 (.int .i32)) t), .box 76 (.own 5), .arr 22 (.list (.int .u8)) o],[]⟩
theorem Bd6(gl:List (Nat×List Value))(a f h:Int)(b t:LX)(o:List LB):O5 gl [] (N4 a f h b t o)=some (o,(0:Int)):=F5
theorem Be2(gl:List (Nat×List Value))(a f h:Int)(b t:LX)(o:List LB)(x:LX)(xs:List LX):O5 gl (x::xs) (N4 a f h b t o)=
    Option.bind (Nt a f t x) λy=>if(Bg y.2 0)=true then some ([],y.2)else Option.bind (Dt o [y.1]) λo'=>O5 gl xs (N4 a f h b t o'):=F5
theorem Atl(gl:List (Nat×List Value))(a f h:Int)(b t:LX):∀(xs:List LX) (o:List LB),O5 gl xs (N4 a f h b t o)=Ts a f t xs o
  |[],o=>Bd6 gl a f h b t o
  |x::xs,o=>by
    rw[Be2,Ts];simp only[Atl gl a f h b t xs];rfl
theorem Axl(gl:List (Nat×List Value))(x:KQ (Yc Ac0)):Ben Tryz.prog (K3 gl) Adf Am1 Tryz.f37 Arb Ac0 TS x=SU x.1 x.2.1 x.2.2.1 x.2.2.2.1 x.2.2.2.2:=by
  refine Eq.trans (b:=Option.bind (Cl x.1 x.2.1 x.2.2.1 x.2.2.2.1) λe=>if(Bg e 0)=true then some ([],e)else Option.bind (Oa x.2.2.2.2) λt=>if(Bg t.2 0)=true then some ([],t.2)
    else Option.bind (bT x.1 x.2.2.1 x.2.2.2.1) λxs=>O5 gl xs (N4 x.1 x.2.1 x.2.2.1 x.2.2.2.1 t.1 [])) F5 ?_
  simp only[Atl];rfl
noncomputable def gN:Con:=⟨Ac0,TS,λx=>SU x.1 x.2.1 x.2.2.1 x.2.2.2.1 x.2.2.2.2⟩
theorem Abl{gl:List (Nat×List Value)}(hCk:ConOk Tryz.prog gl 52 Anv)(hTp:ConOk Tryz.prog gl 30 Ajw)(hAl:ConOk Tryz.prog gl 117 zm)(hEn:ConOk Tryz.prog gl 80 Akk)(hSh:ConOk Tryz.prog gl 81 Anq):
    ConOk Tryz.prog gl 37 gN:=by
  have hE:∀{f:Nat} {fn:Func},Tryz.prog.funcs[f]? =some fn→(!(fn.name== "runtime.NumGoroutine")&&fn.body.isSome)=true→Ent Tryz.prog f:=by
    intro f fn hf hb;simp only[Bool.and_eq_true,Bool.not_eq_true']at hb;obtain⟨c,hc⟩:=Option.isSome_iff_exists.1 hb.2;exact Ent.mk hf hb.1 hc
  refine Alb (T:=K3 gl) (its:=Am1) (ans:=Adf) (an:=Arb) F5 Tryz.func37 (hE Tryz.func37 F5) (.cons hCk (.cons hTp (.cons hEn (.cons hSh .nil)))) (An0.cons (hE Tryz.func79 F5) An0.nil) ?_ F5 (Axl gl);intro p hp;rcases List.mem_cons.1 hp with rfl|hp
  · exact Aww hAl (hE Tryz.func136 F5)
  · cases hp
end Go.Proofs.YtaicmmejgiaafaaGreatDoor
