/- A part of a proof (see the text that ends in Proof). No conditions. -/
import Derived.Tactics
import Derived.OrdersHeld
import Derived.Below
import Derived.LoopNIn
import Derived.OrdersIn
import Derived.TacticsIn
import Derived.RangeFuncCalls
import GoSem.Core.View
import Derived.Laws.Entries
import Derived.Laws.Strings
import Derived.Laws.Append
import Derived.Laws.IdiomStrings
import Derived.StillTail
import Derived.WalkKit
import Derived.OpenShut
import Derived.Laws.StructEq
import Derived.ChangeKeysEq
set_option linter.unusedVariables false
set_option linter.unusedSimpArgs false
namespace Go
theorem A7{p:Prop}(h:p:=by omega):p:=h
theorem A9{p:Prop}(h:p:=by simp):p:=h
end Go
set_option linter.defProp false
namespace Go
def uJ:=@Bool.and_eq_true
def uK:=@Go.Result.andThen_ok
def uL:=@Go.run_underlying
def uM:=@Nat.mul_le_mul_right
def uN:=@Option.some.injEq
def uO:=@List.getElem?_append_left
def uP:=@Go.Sem.run_bind
def uQ:=@Nat.eq_of_mul_eq_mul_right
def uR:=@List.length_append
def uS:=@List.getD_eq_getElem?_getD
def uT:=@Go.Sem.run_pure
def uU:=@List.getElem?_append_right
def uV:=@Nat.eq_of_beq_eq_true
def uW:=@Int.eq_ofNat_of_zero_le
def uX:=@List.getElem?_eq_getElem
def uY:=@List.getElem?_take
def uZ:=@Nat.le_of_ble_eq_true
def vA:=@Nat.add_mul
def vB:=@Bool.not_eq_true'
def vC:=@Array.getD_eq_getD_getElem?
def vD:=@Nat.le_refl
def vE:=@Nat.lt_of_lt_of_le
def vF:=@Bool.false_eq_true
def vG:=@List.length_take
def vH:=@Nat.add_assoc
def vI:=@List.size_toArray
def vJ:=@List.getElem?_set_ne
def vK:=@List.append_nil
def vL:=@if_neg
def vM:=@List.getElem?_set_self
def vN:=@List.map_cons
def vO:=@Array.getElem?_setIfInBounds_ne
def vP:=@if_pos
def vQ:=@List.getElem?_toArray
def vR:=@Go.World.putObj_heap_other
def vS:=@List.eq_nil_of_length_eq_zero
def vT:=@List.append_assoc
def vU:=@of_decide_eq_true
def vV:=@List.getElem?_drop
def vW:=@List.mem_of_getElem?
def vX:=@Go.wpIn_mono
def vY:=@Option.map_eq_some_iff
def vZ:=@List.getElem?_map
def wA:=@Int.toNat_natCast
def wB:=@Classical.byContradiction
def wC:=@List.getElem?_eq_none
def wD:=@Int.natCast_nonneg
def wE:=@List.length_cons
def wF:=@Prod.mk.injEq
def wG:=@Nat.lt_or_ge
def wH:=@List.getElem?_append
def wI:=@Bool.or_eq_false_iff
def wJ:=@List.ext_getElem?
def wK:=@Option.map_none
def wL:=@Option.map_some
def wM:=@Array.getElem?_replicate
def wN:=@decide_eq_true_eq
def wO:=@Nat.zero_add
def wP:=@Nat.succ_mul
def wQ:=@if_false
def wR:=@List.drop_of_length_le
def wS:=@List.nil_append
def wT:=@Array.getElem?_setIfInBounds_self_of_lt
def wU:=@Nat.sub_mul
def wV:=@Bool.or_eq_true
def wW:=@List.map_append
def wX:=@Bool.not_true
def wY:=@List.mem_cons_of_mem
def wZ:=@Bool.false_and
def xA:=@List.cons_append
def xB:=@List.length_drop
def xC:=@Array.length_toList
def xD:=@List.map_set
def xE:=@Ne.symm
def xF:=@Bool.true_and
def xG:=@List.cons.injEq
def xH:=@Bool.not_eq_false'
def xI:=@Array.getElem?_eq_none
def xJ:=@List.take_of_length_le
def xK:=@Go.World.putObj_heap_same
def xL:=@cond_false
def xM:=@Nat.mul_le_mul
def xN:=@List.perm_append_comm
def xO:=@List.map_nil
def xP:=@Go.run_equalIn_bool
def xQ:=@List.take_append_of_le_length
def xR:=@List.all_eq_true
def xS:=@Int.mul_le_mul_of_nonneg_left
def xT:=@Go.Region.noSelect_spec
def xU:=@Option.some.inj
def xV:=@List.take_length_add_append
def xW:=@List.length_set
def xX:=@Int.fdiv_eq_ediv_of_nonneg
def xY:=@Nat.add_zero
def xZ:=@Nat.le_of_eq
def yA:=@Nat.eq_zero_or_pos
def yB:=@if_true
def yC:=@Array.getElem?_eq_getElem
def yD:=@List.take_zero
def yE:=@List.drop_eq_getElem_cons
def yF:=@Array.ext'
def yG:=@List.flatten_cons
def yH:=@Int.emod_eq_of_lt
def yI:=@List.getElem?_set_self'
def yJ:=@List.mem_cons
def yK:=@List.zipIdx_cons
def yL:=@Nat.min_eq_right
def yM:=@Go.MapKept.run_getObj_map
def yN:=@Go.wpList_plain
def yO:=@Nat.le_trans
def yP:=@Array.getElem?_append
def yQ:=@List.set_set
def yR:=@List.Perm.append_left
def yS:=@Nat.min_eq_left
def yT:=@Array.toArray_toList
def yU:=@Go.MapKept.run_checkKey
def yV:=@Go.World.alloc_heap_new
def yW:=@Go.growslice_fits
def yX:=@List.drop_left
def yY:=@Iff.rfl
def yZ:=@Nat.add_comm
def zA:=@Nat.zero_mul
def zB:=@Go.wpList_step
def zC:=@Go.wpOp_mono
def zD:=@Go.getD_set_ne
def zE:=@Nat.mul_pos
def zF:=@Go.wpIn_seq
def zG:=@and_true
end Go
namespace Go.Lv
variable{a:Act}{b want:Bool}{c x y:Code}{f:FuncId}
abbrev Env:=Nat->Value
def Hi(σ:Env)(d:Nat)(v:Value):Env:=λt=>match Nat.beq t d with|true=>v|false=>σ t
def ev(σ:Env):Operand->Value
 | .tmp t=>σ t
 | .const v=>v
 | .global g=> .pointer (some ⟨g,0,none⟩)
 | .func f=> .func (.func f) #[] #[]
structure Fits (ds:List Deferred) (n:Nat) (a:Act) (σ:Env):Prop where
 size:a.tmps.size=n
 defers:a.defers=ds
 get:∀t,a.tmps.getD t undef=σ t
theorem Fits.eval{ds:List Deferred}{n:Nat}{a:Act}{σ:Env}(h:Fits ds n a σ):a.eval=ev σ:=by
 funext x;cases x<;>simp only[Act.eval,ev,h.get]
theorem Jq(σ:Env)(d:Nat)(v:Value):Hi σ d v d=v:=by simp[Hi]
theorem Wi(σ:Env){d t:Nat}(v:Value)(h:t≠d):Hi σ d v t=σ t:=by
 unfold Hi;have:Nat.beq t d=false:=by
  cases hb:Nat.beq t d with
  |false=>rfl
  |true=>exact absurd (uV hb) h
 rw[this]
theorem Fits.put{ds:List Deferred}{n:Nat}{a:Act}{σ:Env}(h:Fits ds n a σ){d:Nat}(hd:Nat.blt d n=true)(v:Value):Fits ds n (a.put (some d) v) (Hi σ d v):=by
 have hd':d<n:=by simpa [Nat.blt_eq]using hd
 refine⟨by simp[Act.put,h.size],h.defers,λt=>?_⟩;by_cases ht:t=d
 ·subst ht;rw[Jq];simp[Act.put,Array.getD,h.size,hd']
 ·rw[Wi _ _ ht,<-h.get t];simp[Act.put,vC,vO (xE ht)]
theorem Fits.QA{ds:List Deferred}{n:Nat}{σ:Env}(h:Fits ds n a σ)(v:Value):Fits ds n (a.put none v) σ:=h
variable {P:Program} {n:Nat}
def wr(ro:Option Nat):Fence:={Fence.wide with round:=ro}
theorem oN{ro:Option Nat}{m:Nat}{args:Array Value}{w:World}{R:Ending->World->Prop}(h:Calls P f args w R):CallsIn (wr ro) m P f args w R:=callsIn_wide.2 h
theorem kO{ro:Option Nat}{m:Nat}{o:Oper}{next:Act->World->Prop}{Q:Exit->Act->World->Prop}{r:Result Next}(h:o.upon P a next Q r):o.uponIn (wr ro) m P a next Q r:=by
 cases r with
 |ok x w'=>
  cases x<;>first
   |exact h
   |exact⟨(λh=>by simp[wr,Fence.wide]at h),oN h⟩
   |exact⟨(λh=>by simp[wr,Fence.wide]at h),λc cs _=>let⟨v,w',r,s⟩:=h c cs;⟨v,w',r,stepsIn_wide.2 s⟩⟩
   |exact h.elim
 |halt x w'=>cases x<;>first|exact h|exact h.elim
def CU:List Oper->Bool
 |[]=>true
 |o::r=>(match o.op with| .defer _=>false|_=>true)&&CU r
theorem NP{l:List Oper}(h:CU l=true):∀o∈l,∀c,o.op≠ .defer c:=by
 induction l with
 |nil=>intro o ho;cases ho
 |cons o l ih=>
  simp only[CU,uJ]at h;intro o' ho' c hc;rcases List.mem_cons.1 ho' with rfl|ho'
  ·rw[hc]at h;cases h.1
  ·exact ih h.2 o' ho' c hc
theorem nF{ro:Option Nat}{m:Nat}{o:Oper}{w:World}{next:Act->World->Prop}{Q:Exit->Act->World->Prop}(hd:∀c,o.op≠ .defer c)(h:o.wp P a w next Q):o.wpIn (wr ro) m P a w next Q:=
 ⟨λ_ _=>trivial,by rw[Oper.semAt_eq _ _ _ hd];exact kO h⟩
def jS(Z:Act->World->Prop):Exit->Act->World->Prop:=λe a w=>e= .normal/\Z a w
theorem XC{Z:Act->World->Prop}(h:LetsOut (jS Z)):False:=by
 obtain⟨_,_,h,_⟩:=h;cases h
theorem IH{ro:Option Nat}{m:Nat}{ops:Array Oper}{Z:Act->World->Prop}:∀{l:List Oper} {a:Act} {w:World},(∀o∈l,∀c,o.op≠ .defer c)->wpList P ops (jS Z) l a w->wpListIn (wr ro) m P ops (jS Z) l a w
 |[],_,_,_,h=>h
 |o::l,a,w,hd,h=>by
  have hn:∀a w,wpList P ops (jS Z) l a w->wpListIn (wr ro) m P ops (jS Z) l a w:=λa w=>IH (λo ho=>hd o (wY _ ho));simp only[wpList]at h;simp only[wpListIn];split
  ·rename_i hw;rw[vP hw]at h;rcases h with h|⟨_,h⟩
   ·exact Oper.wpIn_mono hn (nF (hd o List.mem_cons_self) h)
   ·exact(XC h).elim
  ·rename_i hw;rw[vL hw]at h;exact⟨λ_ _=>trivial,hn _ _ h⟩
theorem mI{ro:Option Nat}{m:Nat}{ops:Array Oper}{Z:Act->World->Prop}{i:Nat}{K:Act->World->Prop}{w:World}(hd:∀o∈ops.toList,∀c,o.op≠ .defer c)(h:wpOp P ops (jS Z) i K a w):wpOpIn (wr ro) m P ops (jS Z) i K a w:=by
 unfold wpOp at h;unfold wpOpIn;split
 ·rename_i ho;rw[ho]at h;exact h
 ·rename_i o ho;rw[ho]at h;simp only at h;split
  ·rename_i hw;rw[vP hw]at h;rcases h with h|⟨_,h⟩
   ·exact nF (hd o (by rw[<-Array.getElem?_toList]at ho;exact vW ho)) h
   ·exact(XC h).elim
  ·rename_i hw;rw[vL hw]at h;exact⟨λ_ _=>trivial,h⟩
theorem XY{ro:Option Nat}{m:Nat}{md:Region.Mode}{ops:Array Oper}{Z:Act->World->Prop}(hd:∀o∈ops.toList,∀c,o.op≠ .defer c):∀{fuel:Nat} {listed:Array Bool} {a:Act} {w:World},wpAny P md ops (jS Z) fuel listed a w->wpAnyIn (wr ro) m P md ops (jS Z) fuel listed a w
 |0,_,_,_,h=>h
 |_+1,_,_,_,h=>⟨h.1,λi hi=>wpOpIn_mono (λ_ _ h=>XY hd h) (mI hd (h.2 i hi))⟩
def W(P:Program)(n:Nat)(c:Code)(Q:Exit->Env->World->Prop)(σ:Env)(w:World):Prop:=
 ∀(ro:Option Nat) (m:Nat) (ds:List Deferred) (a:Act),Fits ds n a σ->c.wpIn (wr ro) m P (λe a' w'=>∃σ',Fits ds n a' σ'/\Q e σ' w') a w
theorem W.wp{Q:Exit->Env->World->Prop}{σ:Env}{w:World}(h:W P n c Q σ w)(ha:Fits [] n a σ):c.wp P (λe a' w'=>∃σ',Fits [] n a' σ'/\Q e σ' w') a w:=wpIn_wide.1 (h none 0 [] a ha)
def pU(K:Env->World->Prop)(Q:Exit->Env->World->Prop):Exit->Env->World->Prop
 | .normal,σ,w=>K σ w
 |e,σ,w=>Q e σ w
def VL(id:Nat)(Q:Exit->Env->World->Prop):Exit->Env->World->Prop
 | .exit id',σ,w=>if id'=id then Q .normal σ w else Q (.exit id') σ w
 |e,σ,w=>Q e σ w
variable {Q:Exit->Env->World->Prop} {σ:Env} {w:World}
theorem W.mono{Q':Exit->Env->World->Prop}(h:W P n c Q σ w)(hq:∀e σ w,Q e σ w->Q' e σ w):W P n c Q' σ w:=
 λro m ds a ha=>vX (h ro m ds a ha) λ_ _ _ ⟨σ',hf,hh⟩=>⟨σ',hf,hq _ _ _ hh⟩
theorem W.seq(h:W P n x (pU (W P n y Q) Q) σ w):W P n (.seq x y) Q σ w:=by
 intro ro m ds a ha;refine zF (vX (h ro m ds a ha) ?_);rintro e a' w' ⟨σ',hf,hh⟩;cases e<;>first|exact hh ro m ds a' hf|exact⟨σ',hf,hh⟩
theorem W.skip(h:Q .normal σ w):W P n .skip Q σ w:=λ_ _ _ _ ha=>wpIn_skip ⟨σ,ha,h⟩
theorem W.ret(h:Q .ret σ w):W P n .ret Q σ w:=λ_ _ _ _ ha=>wpIn_ret ⟨σ,ha,h⟩
theorem W.exit{id:Nat}(h:Q (.exit id) σ w):W P n (.exit id) Q σ w:=λ_ _ _ _ ha=>wpIn_exit ⟨σ,ha,h⟩
theorem W.block{id:Nat}(h:W P n c (VL id Q) σ w):W P n (.block id c) Q σ w:=by
 intro ro m ds a ha;refine wpIn_block (vX (h ro m ds a ha) ?_);rintro e a' w' ⟨σ',hf,hh⟩;cases e with
 |exit id'=>
  simp only[VL]at hh;simp only[Exit.inBlock];split
  ·rename_i he;simp only[he,yB]at hh;exact⟨σ',hf,hh⟩
  ·rename_i he;simp only[he,wQ]at hh;exact⟨σ',hf,hh⟩
 |_=>exact⟨σ',hf,hh⟩
theorem W.cond{c:Operand}{t:Bool}(hc:ev σ c= .bool t)(ht:t=true->W P n x Q σ w)(hf:t=false->W P n y Q σ w):
  W P n (.cond c x y) Q σ w:=by
 intro ro m ds a ha;exact wpIn_cond_split (by rw[ha.eval];exact hc) (λh=>ht h ro m ds a ha) (λh=>hf h ro m ds a ha)
theorem W.loop(I:Nat->Env->World->Prop)(m:Nat)(h0:I m σ w)
  (round:∀k σ w,I k σ w->W P n c (pU (λσ' w'=>∃j,j<k/\I j σ' w') Q) σ w):W P n (.loop c) Q σ w:=by
 intro ro d ds a ha;have key:∀(q k:Nat) (σ:Env) (w:World) (a:Act),k<q->I k σ w->Fits ds n a σ->Code.roundsIn (wr ro) d P c (λe a' w'=>∃σ',Fits ds n a' σ'/\Q e σ' w') q a w:=by
  intro q
  induction q with
  |zero=>intro k σ w a hk;omega
  |succ q ih=>
   intro k σ w a hk hI ha;rw[roundsIn_succ];refine vX (round k σ w hI ro d ds a ha) ?_;rintro e a' w' ⟨σ',hf,hh⟩;cases e with
   |normal=>
    obtain⟨j,hj,hI'⟩:=hh;exact ih j σ' w' a' A7 hI' hf
   |_=>exact⟨σ',hf,hh⟩
 exact wpIn_loop_rounds (m+1) (key (m+1) m σ w a (Nat.lt_succ_self _) h0 ha)
theorem Oper.bE{o:Oper}{w:World}{next next':Act->World->Prop}{Z:Act->World->Prop}{R:Exit->Act->World->Prop}
  (h:o.wp P a w next (λe a w=>e=Exit.normal/\Z a w)) (hn:∀a w,next a w->next' a w):o.wp P a w next' R:=by
 unfold Oper.wp at*
 generalize(execOp a.eval o).run P w=r at*
 cases r with
 |ok x w'=>
  cases x<;>simp only[Oper.upon]at h⊢<;>first
   |exact hn _ _ h
   |exact Rows.mono h λ_ _ hh=>hn _ _ hh
   |skip
  refine Calls.mono h ?_;intro e w'' hh;cases e with
  |returned v=>exact hn _ _ hh
  |panicked c=>exact absurd hh.1 A9
  |outgrown=>obtain⟨_,_,hh,_⟩:=hh;exact absurd hh A9
 |halt x w'=>
  cases x<;>simp only[Oper.upon]at h⊢;exact absurd h.1 A9
theorem bR{ops:Array Oper}{Z:Act->World->Prop}{R:Exit->Act->World->Prop}{l:List Oper}(h2:∀a w,Z a w->wpList P ops R l a w):
  ∀(l1:List Oper) (a:Act) (w:World),wpList P ops (λe a w=>e=Exit.normal/\Z a w) l1 a w->wpList P ops R (l1++l) a w:=by
 intro l1
 induction l1 with
 |nil=>intro a w h;exact h2 _ _ h.2
 |cons o l1 ih=>
  intro a w h;simp only[wpList,xA]at h⊢;split
  ·rename_i hw;rw[vP hw]at h;rcases h with h|⟨_,_,_,hh,_⟩
   ·exact .inl (Oper.bE h ih)
   ·exact absurd hh A9
  ·rename_i hw;rw[vL hw]at h;exact ih _ _ h
def WL(P:Program)(n:Nat)(ops:Array Oper)(l:List Oper)(K:Env->World->Prop)(σ:Env)(w:World):Prop:=
 ∀(ds:List Deferred) (a:Act),Fits ds n a σ->wpList P ops (λe a' w'=>e=Exit.normal/\∃σ',Fits ds n a' σ'/\K σ' w') l a w
theorem W.region{id:Nat}{l:List Oper}(hd:CU l=true)(h:WL P n l.toArray l (λσ' w'=>Q .normal σ' w') σ w):W P n (.region id l.toArray false) Q σ w:=by
 intro ro m ds a ha;refine vX (wpIn_region_lit (IH (Z:=λa' w'=>∃σ',Fits ds n a' σ'/\Q .normal σ' w') (NP hd) (h ds a ha))) ?_;rintro e a' w' ⟨rfl,h⟩;exact h
variable {ops:Array Oper} {rest:List Oper} {K:Env->World->Prop}
theorem WL.nil(h:K σ w):WL P n ops [] K σ w:=λ_ _ ha=>⟨rfl,σ,ha,h⟩
theorem WL.cut(J:Env->World->Prop)(l1:List Oper)(h1:WL P n ops l1 J σ w)(h2:∀σ w,J σ w->WL P n ops rest K σ w):WL P n ops (l1++rest) K σ w:=
 λds a ha=>bR (λa' w' ⟨σ',hf,hj⟩=>h2 σ' w' hj ds a' hf) l1 a w (h1 ds a ha)
theorem WL.val{o:Oper}{d:Nat}{v:Value}{w':World}(hg:o.guard=none)(hd:o.dst=some d)(hdn:Nat.blt d n=true)
  (hx:(execOp (ev σ) o).run P w= .ok (.value v) w') (h:WL P n ops rest K (Hi σ d v) w'):WL P n ops (o::rest) K σ w:=by
 intro ds a ha;refine yN hg λK' hK'=>?_;unfold Oper.wp;rw[ha.eval,hx];exact hK' _ _ (by rw[hd];exact h _ _ (ha.put hdn v))
theorem WL.unit{o:Oper}{w':World}(hg:o.guard=none)(hd:o.dst=none)
  (hx:(execOp (ev σ) o).run P w= .ok .skip w') (h:WL P n ops rest K σ w'):WL P n ops (o::rest) K σ w:=by
 intro ds a ha;refine yN hg λK' hK'=>?_;unfold Oper.wp;rw[ha.eval,hx];exact hK' _ _ (by rw[hd];exact h _ _ ha)
theorem WL.enter{o:Oper}{d:Nat}{args:Array Value}{w1:World}{R1:Ending->World->Prop}(hg:o.guard=none)(hd:o.dst=some d)(hdn:Nat.blt d n=true)
  (hx:(execOp (ev σ) o).run P w= .ok (.enter f args) w1) (hc:Calls P f args w1 R1)
  (hr:∀e w',R1 e w'->∃r,e= .returned r/\WL P n ops rest K (Hi σ d r) w'):WL P n ops (o::rest) K σ w:=by
 intro ds a ha;refine yN hg λK' hK'=>?_;unfold Oper.wp;rw[ha.eval,hx];simp only[Oper.upon];refine hc.mono ?_;intro e w' h;obtain⟨r,rfl,hh⟩:=hr e w' h;exact hK' _ _ (by rw[hd];exact hh _ _ (ha.put hdn r))
theorem Rb{ds:List Deferred}(ha:Fits ds n a σ){j t:Nat}(hj:(ops[j]?).bind (·.dst)=some t)(hb:σ t= .bool b):yielded ops a.tmps j=some b:=by
 unfold yielded;rw[hj];have h1:=ha.get t;rw[hb]at h1;have h2:a.tmps[t]? =some (.bool b):=by
  cases h:a.tmps[t]? with
  |none=>rw[vC,h]at h1;simp[undef]at h1
  |some v=>rw[vC,h]at h1;simpa using h1
 simp[h2]
theorem WL.off{o:Oper}{d j t:Nat}(hg:o.guard=some (j,want))(hj:(ops[j]?).bind (·.dst)=some t)(hb:σ t= .bool b)(hne:(b==want)=false)
  (hd:o.dst=some d) (hdn:Nat.blt d n=true) (h:WL P n ops rest K (Hi σ d undef) w):WL P n ops (o::rest) K σ w:=by
 intro ds a ha;refine zB λK' hK'=>?_;have hw:Region.wanted o (yielded ops a.tmps)=false:=by
  simp only[Region.wanted,hg,Rb ha hj hb];cases b<;>cases want<;>simp_all
 rw[vL (by rw[hw];simp)];exact hK' _ _ (by rw[hd];exact h _ _ (ha.put hdn _))
theorem WL.on{o:Oper}{j t:Nat}(hg:o.guard=some (j,want))(hj:(ops[j]?).bind (·.dst)=some t)(hb:σ t= .bool b)(hne:(b==want)=true)
  (h:WL P n ops (({o with guard:=none}:Oper)::rest) K σ w):WL P n ops (o::rest) K σ w:=by
 intro ds a ha;have h1:=h ds a ha;have hw:Region.wanted o (yielded ops a.tmps)=true:=by
  simp only[Region.wanted,hg,Rb ha hj hb];cases b<;>cases want<;>simp_all
 have hw':Region.wanted ({o with guard:=none}:Oper) (yielded ops a.tmps)=true:=rfl;unfold wpList at h1⊢;rw[vP hw']at h1;rw[vP hw];exact h1
end Go.Lv
namespace Go.Lv
variable{s i:Nat}{w w':World}
abbrev Reg:=Nat->Prop
def Same(A:Reg)(w w':World):Prop:=∀b,A b->w'.heap[b]? =w.heap[b]?
structure Gr (w w':World):Prop where
 le:w.heap.size<=w'.heap.size
 os:w'.os=w.os
 tape:w'.tape=w.tape
 output:w'.output=w.output
theorem Gr.refl(w:World):Gr w w:=⟨vD _,rfl,rfl,rfl⟩
theorem Gr.trans{a b c:World}(h:Gr a b)(h':Gr b c):Gr a c:=⟨yO h.le h'.le,h'.os.trans h.os,h'.tape.trans h.tape,h'.output.trans h.output⟩
structure Keep (w w':World):Prop where
 same:∀b,b<w.heap.size->w'.heap[b]? =w.heap[b]?
 gr:Gr w w'
theorem Keep.le{w w':World}(h:Keep w w'):w.heap.size<=w'.heap.size:=h.gr.le
theorem Keep.refl(w:World):Keep w w:=⟨λ_ _=>rfl, .refl _⟩
theorem Keep.trans{a b c:World}(h:Keep a b)(h':Keep b c):Keep a c:=
 ⟨λi hi=>(h'.same i (vE hi h.le)).trans (h.same i hi),h.gr.trans h'.gr⟩
theorem lt_of_heap{b:Nat}{o:Obj}(h:w.heap[b]? =some o):b<w.heap.size:=by
 rcases wG b w.heap.size with h'|h'
 ·exact h'
 ·rw[xI h']at h;cases h
def Rd(A:Reg)(w:World)(s:Nat)(v:Value)(cs:List Value):Prop:=
 ∃(p:Option Addr) (len cap:Nat),v= .slice p len cap/\cs.length=len*s/\len<=cap/\ (p=none->cap=0)/\
  (0<cap->∃b off arr T fr,p=some ⟨b,off,none⟩/\A b/\w.heap[b]? =some (.cells arr T fr)/\off+cap*s<=arr.size/\∀i,i<len*s->arr[off+i]? =cs[i]?)
theorem Rd.step{A A':Reg}{v:Value}{cs:List Value}(h:Rd A w s v cs)(ha:∀b,A b->A' b)(hs:Same A w w'):Rd A' w' s v cs:=by
 obtain⟨p,len,cap,h1,h2,h3,h4,h5⟩:=h;refine⟨p,len,cap,h1,h2,h3,h4,λhc=>?_⟩;obtain⟨b,off,arr,T,fr,e1,e2,e3,e4⟩:=h5 hc;exact⟨b,off,arr,T,fr,e1,ha _ e2,(hs b e2).trans e3,e4⟩
theorem Rd.nil{A:Reg}:Rd A w s (.slice none 0 0) []:=⟨none,0,0,rfl,A9,vD _,λ_=>rfl,λh=>absurd h A9⟩
structure Fact where
 holds:Reg->World->Prop
 step:∀{A A':Reg} {w w':World},holds A w-> (∀b,A b->A' b)->Same A w w'->Gr w w'->holds A' w'
def Fact.rd(R:Reg)(s:Nat)(v:Value)(cs:List Value):Fact where
 holds A w:=Rd (λb=>A b/\R b) w s v cs
 step h ha hs _:=h.step (λb ⟨h1,h2⟩=>⟨ha b h1,h2⟩) (λb ⟨h1,_⟩=>hs b h1)
def Fact.box(R:Reg)(b:Nat)(cells:List Value)(T:TypeId):Fact where
 holds A w:=A b/\R b/\∃fr,w.heap[b]? =some (.cells cells.toArray T fr)
 step h ha hs _:=⟨ha _ h.1,h.2.1,h.2.2.imp λ_ e=>(hs _ h.1).trans e⟩
def Fact.old(M:Reg)(w0:World):Fact where
 holds A w:=Gr w0 w/\∀b,b<w0.heap.size-> ¬M b->A b/\w.heap[b]? =w0.heap[b]?
 step:=λh ha hs hsz=>⟨h.1.trans hsz,λb hb hM=>⟨ha b (h.2 b hb hM).1,(hs b (h.2 b hb hM).1).trans (h.2 b hb hM).2⟩⟩
structure Mob where
 holds:Option Nat->World->Prop
 step:∀{o:Option Nat} {w w':World},holds o w-> (∀b,o=some b->w'.heap[b]? =w.heap[b]?)->holds o w'
def Mob.box(b:Nat)(cells:List Value)(T:TypeId):Mob where
 holds o w:=o=some b/\w.heap[b]? =some (.cells cells.toArray T (0,0))
 step h hs:=⟨h.1,(hs _ h.1).trans h.2⟩
def Mob.own(s:Nat)(E:TypeId)(v:Value)(cs:List Value):Mob where
 holds o w:=∃(p:Option Addr) (len cap:Nat),v= .slice p len cap/\cs.length=len*s/\len<=cap/\ (p=none->cap=0)/\
  (o=none->cap=0)/\∀b,o=some b->∃arr fr,p=some ⟨b,0,none⟩/\w.heap[b]? =some (.cells arr E fr)/\arr.size=cap*s/\
   (fr.1=fr.2\/arr.size<=fr.1)/\∀i,i<len*s->arr[i]? =cs[i]?
 step:=by
  rintro o w w' ⟨p,len,cap,h1,h2,h3,h4,h5,h6⟩ hs;refine⟨p,len,cap,h1,h2,h3,h4,h5,λb hb=>?_⟩;obtain⟨arr,fr,e1,e2,e3⟩:=h6 b hb;exact⟨arr,fr,e1,(hs b hb).trans e2,e3⟩
def Bi(w:World):Reg->List Mob->Prop
 |_,[]=>True
 |A,m::L=>∃o,m.holds o w/\ (∀b,o=some b-> ¬A b/\b<w.heap.size)/\Bi w (λb=>A b\/o=some b) L
theorem Bi.Jg{w:World}:∀{L:List Mob} {A A':Reg},Bi w A L-> (∀b,A' b->A b)->Bi w A' L
 |[],_,_,_,_=>trivial
 |m::L,A,A',⟨o,h1,h2,h3⟩,ha=>⟨o,h1,λb hb=>⟨λh=>(h2 b hb).1 (ha b h),(h2 b hb).2⟩,h3.Jg (λb hb=>hb.imp (ha b) id)⟩
theorem Bi.step{w w':World}(hsz:w.heap.size<=w'.heap.size):∀{L:List Mob} {A:Reg},Bi w A L-> (∀b,b<w.heap.size-> ¬A b->w'.heap[b]? =w.heap[b]?)->Bi w' A L
 |[],_,_,_=>trivial
 |m::L,A,⟨o,h1,h2,h3⟩,hs=>⟨o,m.step h1 (λb hb=>hs b (h2 b hb).2 (h2 b hb).1),λb hb=>⟨(h2 b hb).1,vE (h2 b hb).2 hsz⟩,
   h3.step hsz (λb hb hA=>hs b hb (λh=>hA (.inl h)))⟩
theorem Bi.lt{w:World}:∀{L:List Mob} {A:Reg},Bi w A L->Bi w (λb=>A b\/w.heap.size<=b) L
 |[],_,_=>trivial
 |m::L,A,⟨o,h1,h2,h3⟩=>⟨o,h1,λb hb=>⟨λh=>h.elim (h2 b hb).1 (λh=>absurd (h2 b hb).2 (Nat.not_lt.2 h)),(h2 b hb).2⟩,
   h3.lt.Jg (λb hb=>by rcases hb with(h|h)|h<;>simp[h])⟩
theorem Bi.swap{A:Reg}{m1 m2:Mob}{L:List Mob}:Bi w A (m1::m2::L)->Bi w A (m2::m1::L):=by
 rintro⟨o1,h1,h2,o2,h3,h4,h5⟩;refine⟨o2,h3,λb hb=>⟨λh=>(h4 b hb).1 (.inl h),(h4 b hb).2⟩,o1,h1,λb hb=>⟨?_,(h2 b hb).2⟩,h5.Jg ?_⟩
 ·rintro(h|h)
  ·exact(h2 b hb).1 h
  ·exact(h4 b h).1 (.inr hb)
 ·rintro b ((h|h)|h)<;>simp[h]
theorem Bi.perm{L L':List Mob}(hp:L.Perm L'):∀{A:Reg},Bi w A L->Bi w A L':=by
 induction hp with
 |nil=>exact λh=>h
 |cons m _ ih=>exact λ⟨o,h1,h2,h3⟩=>⟨o,h1,h2,ih h3⟩
 |swap m1 m2 L=>exact Bi.swap
 |trans _ _ ih1 ih2=>exact λh=>ih2 (ih1 h)
theorem Bi.drop{w:World}{m:Mob}{L:List Mob}{A:Reg}:Bi w A (m::L)->Bi w A L
 |⟨_,_,_,h3⟩=>h3.Jg (λ_ h=> .inl h)
structure St (A:Reg) (w:World) (F:List Fact) (L:List Mob):Prop where
 lt:∀b,A b->b<w.heap.size
 facts:∀f∈F,f.holds A w
 mobs:Bi w A L
theorem St.fact{A:Reg}{F:List Fact}{L:List Mob}(h:St A w F L)(i:Nat){f:Fact}(hi:F[i]? =some f):f.holds A w:=
 h.facts f (vW hi)
theorem EJ{α:Type}{l:List α}{m:α}(h:l[i]? =some m):(m::l.eraseIdx i).Perm l:=by
 induction l generalizing i with
 |nil=>simp at h
 |cons x l ih=>
  cases i with
  |zero=>simp at h;subst h;exact .refl _
  |succ i=>
   simp at h;exact(List.Perm.swap x m _).trans ((ih h).cons x)
theorem Qm{α:Type}{l:List α}{m m':α}(h:l[i]? =some m):(m'::l.eraseIdx i).Perm (l.set i m'):=by
 induction l generalizing i with
 |nil=>simp at h
 |cons x l ih=>
  cases i with
  |zero=>simp
  |succ i=>
   simp at h;exact(List.Perm.swap x m' _).trans ((ih h).cons x)
theorem St.front{A:Reg}{F:List Fact}{L:List Mob}(h:St A w F L){m:Mob}(hi:L[i]? =some m):St A w F (m::L.eraseIdx i):=
 ⟨h.lt,h.facts,h.mobs.perm (EJ hi).symm⟩
theorem St.back{A:Reg}{F:List Fact}{L:List Mob}{m m':Mob}(hi:L[i]? =some m)(h:St A w F (m'::L.eraseIdx i)):St A w F (L.set i m'):=
 ⟨h.lt,h.facts,h.mobs.perm (Qm hi)⟩
theorem St.pL{A:Reg}{F:List Fact}{L:List Mob}{m:Mob}(h:St A w F (m::L)):St A w F L:=⟨h.lt,h.facts,h.mobs.drop⟩
theorem St.KQ{A:Reg}{F:List Fact}{L:List Mob}{f:Fact}(h:St A w (f::F) L):St A w F L:=⟨h.lt,λg hg=>h.facts g (.tail _ hg),h.mobs⟩
theorem St.GY{A:Reg}{F:List Fact}{L:List Mob}{f:Fact}(h:St A w F L)(hf:f.holds A w):St A w (f::F) L:=
 ⟨h.lt,λg hg=>by cases hg with|head=>exact hf|tail _ hg=>exact h.facts g hg,h.mobs⟩
theorem St.keep{A:Reg}{F:List Fact}{L:List Mob}(h:St A w F L)(hk:Keep w w'):St A w' F L:=
 ⟨λb hb=>vE (h.lt b hb) hk.le,λf hf=>f.step (h.facts f hf) (λ_ h=>h) (λb hb=>hk.same b (h.lt b hb)) hk.gr,
  h.mobs.step hk.le (λb hb _=>hk.same b hb)⟩
structure Fr (w w':World) (F1:List Fact) (L1:List Mob):Prop where
 keep:Keep w w'
 own:∃A1:Reg,(∀b,A1 b->w.heap.size<=b/\b<w'.heap.size)/\ (∀f∈F1,f.holds A1 w')/\Bi w' (λb=>A1 b\/b<w.heap.size) L1
theorem Fr.nil(h:Keep w w'):Fr w w' [] []:=⟨h,λ_=>False,λ_ h=>h.elim,λ_ h=>(by cases h),trivial⟩
theorem Bi.append{w:World}:∀{L1 L2:List Mob} {A:Reg} (B:Reg),(∀b,B b->b<w.heap.size)->Bi w (λb=>A b\/B b) L1->Bi w (λb=>A b\/ ¬B b) L2->Bi w A (L1++L2)
 |[],L2,A,B,_,_,h2=>h2.Jg (λ_ h=> .inl h)
 |m::L1,L2,A,B,hB,⟨o,h1,h2,h3⟩,h4=>by
  refine⟨o,h1,λb hb=>⟨λh=>(h2 b hb).1 (.inl h),(h2 b hb).2⟩,?_⟩;refine Bi.append B hB (h3.Jg ?_) (h4.Jg ?_)
  ·rintro b ((h|h)|h)<;>simp[h]
  ·rintro b ((h|h)|h)
   ·exact .inl h
   ·exact .inr (λhb=>(h2 b h).1 (.inr hb))
   ·exact .inr h
theorem St.call{A:Reg}{F F1:List Fact}{L L1:List Mob}(h:St A w F L)(hf:Fr w w' F1 L1):∃A',St A' w' (F1++F) (L1++L):=by
 have hk:=h.keep hf.keep;obtain⟨A1,h1,h2,h3⟩:=hf.own;refine⟨λb=>A b\/A1 b,λb hb=>hb.elim (hk.lt b) (λh=>(h1 b h).2),λf hf'=>?_,?_⟩
 ·rcases List.mem_append.1 hf' with hf'|hf'
  ·exact f.step (h2 f hf') (λ_ h=> .inr h) (λ_ _=>rfl) (.refl _)
  ·exact f.step (hk.facts f hf') (λ_ h=> .inl h) (λ_ _=>rfl) (.refl _)
 ·refine Bi.append (λb=>b<w.heap.size) (λb hb=>vE hb hf.keep.le) (h3.Jg ?_) ?_
  ·rintro b ((h'|h')|h')
   ·exact .inr (h.lt b h')
   ·exact .inl h'
   ·exact .inr h'
  ·refine(h.mobs.lt.step hf.keep.le λb hb _=>hf.keep.same b hb).Jg ?_;rintro b ((h'|h')|h')
   ·exact .inl h'
   ·exact .inr (h1 b h').1
   ·exact .inr (by simpa using h')
class GI (T:Type) (k:outParam IntKind)where
 toZ:T->Int
 ofZ:Int->T
 toZ_ofZ:∀n,toZ (ofZ n)=k.wrap n
def wrap64(n:Int):Int:=IntKind.i64.wrap n
theorem gG(n:Int):wrap64 n=if n %18446744073709551616>=9223372036854775808 then n %18446744073709551616-18446744073709551616 else n %18446744073709551616:=by
 unfold wrap64 IntKind.wrap;simp only[IntKind.bits,IntKind.signed,xF];change (if decide (n %18446744073709551616>=9223372036854775808)=true then n %18446744073709551616-18446744073709551616 else n %18446744073709551616)=_;by_cases h:n %18446744073709551616>=9223372036854775808<;>simp[h]
theorem IS{n:Int}(h: -9223372036854775808<=n)(h':n<=9223372036854775807):wrap64 n=n:=by
 rw[gG];split<;>omega
instance:GI Int .i64 where
 toZ x:=x
 ofZ n:=wrap64 n
 toZ_ofZ _:=rfl
instance:GI UInt8 .u8 where
 toZ x:=(x.toNat:Int)
 ofZ n:=UInt8.ofNat (n %256).toNat
 toZ_ofZ n:=by
  simp only[IntKind.wrap,IntKind.bits,IntKind.signed,wZ,vF,wQ,UInt8.toNat_ofNat'];show((n %256).toNat %256:Nat)=n %256;omega
instance:GI UInt32 .u32 where
 toZ x:=(x.toNat:Int)
 ofZ n:=UInt32.ofNat (n %4294967296).toNat
 toZ_ofZ n:=by
  simp only[IntKind.wrap,IntKind.bits,IntKind.signed,wZ,vF,wQ,UInt32.toNat_ofNat'];show((n %4294967296).toNat %4294967296:Nat)=n %4294967296;omega
instance:GI UInt64 .u64 where
 toZ x:=(x.toNat:Int)
 ofZ n:=UInt64.ofNat (n %18446744073709551616).toNat
 toZ_ofZ n:=by
  simp only[IntKind.wrap,IntKind.bits,IntKind.signed,wZ,vF,wQ,UInt64.toNat_ofNat'];show((n %18446744073709551616).toNat %18446744073709551616:Nat)=n %18446744073709551616;omega
instance:GI Int32 .i32 where
 toZ x:=x.toInt
 ofZ n:=Int32.ofInt n
 toZ_ofZ n:=by
  rw[Int32.toInt_ofInt,Int.bmod_def];simp only[IntKind.wrap,IntKind.bits,IntKind.signed,xF];change (if n %4294967296<(4294967296+1)/2 then n %4294967296 else n %4294967296-4294967296)=if decide (n %4294967296>=2147483648)=true then n %4294967296-4294967296 else n %4294967296;by_cases h:n %4294967296>=2147483648
  ·rw[vL A7,vP (by simpa using h)]
  ·rw[vP A7,vL (by simpa using h)]
instance:GI Int8 .i8 where
 toZ x:=x.toInt
 ofZ n:=Int8.ofInt n
 toZ_ofZ n:=by
  rw[Int8.toInt_ofInt,Int.bmod_def];simp only[IntKind.wrap,IntKind.bits,IntKind.signed,xF];change (if n %256<(256+1)/2 then n %256 else n %256-256)=if decide (n %256>=128)=true then n %256-256 else n %256;by_cases h:n %256>=128
  ·rw[vL A7,vP (by simpa using h)]
  ·rw[vP A7,vL (by simpa using h)]
section
variable {T:Type} {k:IntKind} [GI T k]
open GI
def Ac(a b:T):T:=ofZ (toZ a+toZ b)
def Al(a b:T):T:=ofZ (toZ a-toZ b)
def Ew(a b:T):T:=ofZ (toZ a*toZ b)
def Oc(a b:T):T:=ofZ ((toZ a).tdiv (toZ b))
def WQ(a b:T):T:=ofZ ((toZ a).tmod (toZ b))
def Dr(a b:T):T:=ofZ (BitVec.ofInt k.bits (toZ a)&&&BitVec.ofInt k.bits (toZ b)).toNat
def iS(a b:T):T:=ofZ (BitVec.ofInt k.bits (toZ a)|||BitVec.ofInt k.bits (toZ b)).toNat
def Fe(a b:T):T:=ofZ (BitVec.ofInt k.bits (toZ a)^^^BitVec.ofInt k.bits (toZ b)).toNat
def iY(a:T):T:=ofZ (BitVec.ofInt k.bits (if k.signed then -1 else k.max)^^^BitVec.ofInt k.bits (toZ a)).toNat
def eY(a:T):T:=ofZ (0-toZ a)
def Gd(a:T)(n:Nat):T:=ofZ (toZ a*2^(min n k.bits))
def Cd(a:T)(n:Nat):T:=ofZ ((toZ a).fdiv (2^(min n k.bits)))
def geq(a b:T):Bool:=toZ a==toZ b
def Bm(a b:T):Bool:=toZ a !=toZ b
def Cn(a b:T):Bool:=decide (toZ a<toZ b)
def fM(a b:T):Bool:=decide (toZ a<=toZ b)
def Gc(a b:T):Bool:=decide (toZ a>toZ b)
def Ja(a b:T):Bool:=decide (toZ a>=toZ b)
def gT:List T->List T->Bool
 |x::a,y::b=>geq x y&&gT a b
 |_,_=>true
def Fm(a b:T):T:=if toZ b<toZ a then b else a
def YJ(a b:T):T:=if toZ b>toZ a then b else a
def Aq{T':Type}{k':IntKind} [GI T' k'](a:T):T':=ofZ (toZ a)
end
def Hw(a b:Int):Int:=a.tmod b
def fT(a:Int)(n:Nat):Int:=a.fdiv (2^(min n 64))
def Ag{α:Type}(l:List α)(i:Int):Option α:=if 0<=i then l[i.toNat]? else none
def Ee{α:Type}(l:List α)(i:Int)(x:α):Option (List α):=if 0<=i/\i<l.length then some (l.set i.toNat x)else none
def Bu{α:Type}(l:List α)(lo hi:Int):Option (List α):=if 0<=lo/\lo<=hi/\hi<=l.length then some ((l.take hi.toNat).drop lo.toNat)else none
def XP:Nat:=2^34
def Bb{α:Type}(l m:List α):Option (List α):=if l.length+m.length<=XP then some (l++m)else none
def TC{α:Type}(n:Int)(z:α):Option (List α):=if 0<=n/\n<=XP then some (List.replicate n.toNat z)else none
def Ef(b:Bool):Option Unit:=if b=true then some ()else none
def Aa{α:Type}(l:List α):Int:=(l.length:Int)
def Zq{α:Type}(l:List α)(lo n:Int):List α:=(l.drop lo.toNat).take n.toNat
def SD(m a b:Int):Option Unit:=Ef (decide (0<=a/\a<=b/\b<=m))
def eB{α:Type}(l m:List α):List α:=m.take l.length++l.drop m.length
def Jw{α:Type}(l:List α)(lo n:Int)(m:List α):List α:=l.take lo.toNat++(m.take n.toNat++l.drop (lo.toNat+(m.take n.toNat).length))
def CR(n:Int)(m:Nat):Int:=if(m:Int)<n then(m:Int)else n
def Cu:Nat:=2^65
end Go.Lv
namespace Go.Lv
variable{b want:Bool}{f:FuncId}{op:Op}{v vx vy:Value}
section
variable {T:Type} {k:IntKind} [GI T k]
@[reducible] def iv (x:T):Value:= .int k (GI.toZ x)
@[reducible] def sv (l:List UInt8):Value:= .string ⟨l.toArray⟩
variable {P:Program}
def Eb(P:Program)(b:BinOp)(t:TypeId)(x y v:Value):Prop:=
 ∀(ox oy:Operand) (w:World),(do eqGuard b t ox oy x y;binOp b t x y:Sem Value).run P w= .ok v w
theorem Gz(n:Int):(.int k (k.wrap n):Value)=iv (GI.ofZ n:T):=by rw[iv,GI.toZ_ofZ]
theorem Bin.add{t:TypeId}(a b:T):Eb P .add t (iv a) (iv b) (iv (Ac a b)):=λ_ _ w=>by
 simp[eqGuard,binOp,Op.intArith,Ac,<-Gz]
theorem Bin.sub{t:TypeId}(a b:T):Eb P .sub t (iv a) (iv b) (iv (Al a b)):=λ_ _ w=>by
 simp[eqGuard,binOp,Op.intArith,Al,<-Gz]
theorem Bin.mul{t:TypeId}(a b:T):Eb P .mul t (iv a) (iv b) (iv (Ew a b)):=λ_ _ w=>by
 simp[eqGuard,binOp,Op.intArith,Ew,<-Gz]
theorem Bin.quo{t:TypeId}(a b:T)(h:GI.toZ b≠0):Eb P .quo t (iv a) (iv b) (iv (Oc a b)):=λ_ _ w=>by
 simp[eqGuard,binOp,Op.intDiv,Oc,<-Gz,h]
theorem Bin.and{t:TypeId}(a b:T):Eb P .and t (iv a) (iv b) (iv (Dr a b)):=λ_ _ w=>by
 simp[eqGuard,binOp,Op.intBits,Dr,<-Gz]
theorem Bin.or{t:TypeId}(a b:T):Eb P .or t (iv a) (iv b) (iv (iS a b)):=λ_ _ w=>by
 simp[eqGuard,binOp,Op.intBits,iS,<-Gz]
theorem Bin.xor{t:TypeId}(a b:T):Eb P .xor t (iv a) (iv b) (iv (Fe a b)):=λ_ _ w=>by
 simp[eqGuard,binOp,Op.intBits,Fe,<-Gz]
theorem Bin.eql{t:TypeId}(a b:T):Eb P .eql t (iv a) (iv b) (.bool (geq a b)):=λ_ _ w=>by
 simp[eqGuard,binOp,Op.intCmp,geq]
theorem Bin.neq{t:TypeId}(a b:T):Eb P .neq t (iv a) (iv b) (.bool (Bm a b)):=λ_ _ w=>by
 simp[eqGuard,binOp,Op.intCmp,Bm]
theorem Bin.lss{t:TypeId}(a b:T):Eb P .lss t (iv a) (iv b) (.bool (Cn a b)):=λ_ _ w=>by
 simp[eqGuard,binOp,Op.intCmp,Cn]
theorem Bin.leq{t:TypeId}(a b:T):Eb P .leq t (iv a) (iv b) (.bool (fM a b)):=λ_ _ w=>by
 simp[eqGuard,binOp,Op.intCmp,fM]
theorem Bin.gtr{t:TypeId}(a b:T):Eb P .gtr t (iv a) (iv b) (.bool (Gc a b)):=λ_ _ w=>by
 simp[eqGuard,binOp,Op.intCmp,Gc]
theorem Bin.geq{t:TypeId}(a b:T):Eb P .geq t (iv a) (iv b) (.bool (Ja a b)):=λ_ _ w=>by
 simp[eqGuard,binOp,Op.intCmp,Ja]
variable {T':Type} {k':IntKind} [GI T' k']
theorem Bin.shl{t:TypeId}(a:T)(b:T')(h:0<=GI.toZ b):Eb P .shl t (iv a) (iv b) (iv (Gd a (GI.toZ b).toNat)):=λ_ _ w=>by
 have:¬GI.toZ b<0:=A7
 simp[eqGuard,binOp,Op.shift,Gd,<-Gz,this]
theorem Bin.shr{t:TypeId}(a:T)(b:T')(h:0<=GI.toZ b)(hr:k.wrap ((GI.toZ a).fdiv (2^(min (GI.toZ b).toNat k.bits)))=(GI.toZ a).fdiv (2^(min (GI.toZ b).toNat k.bits))):
  Eb P .shr t (iv a) (iv b) (iv (Cd a (GI.toZ b).toNat)):=λ_ _ w=>by
 have:¬GI.toZ b<0:=A7
 simp[eqGuard,binOp,Op.shift,Cd,<-Gz,this,hr]
theorem xP{t:TypeId}(hu:P.underlying t=some .bool)(d:Nat)(a b:Bool)(w:World):(Op.equalIn (d+1) t (.bool a) (.bool b)).run P w= .ok (a==b) w:=by
 simp[Op.equalIn,uL hu]
theorem Bin.iW{t:TypeId}(hu:P.underlying t=some .bool)(a b:Bool):Eb P .eql t (.bool a) (.bool b) (.bool (a==b)):=λ_ _ w=>by
 have h:=xP hu 9999 a b w;simp only[eqGuard,binOp,Op.equal,Op.maxDepth];simp[h]
theorem Bin.jN{t:TypeId}(hu:P.underlying t=some .bool)(a b:Bool):Eb P .neq t (.bool a) (.bool b) (.bool (a !=b)):=λ_ _ w=>by
 have h:=xP hu 9999 a b w;simp only[eqGuard,binOp,Op.equal,Op.maxDepth];simp[h,bne]
theorem BA(a:List UInt8):(⟨a.toArray⟩:ByteArray).toList=a:=by rw[ByteArray.toList_eq]
theorem Bin.mS{t:TypeId}(a b:List UInt8):Eb P .eql t (sv a) (sv b) (.bool (a==b)):=λ_ _ w=>by
 simp[eqGuard,binOp,Op.stringOp,BA]
theorem Bin.lY{t:TypeId}(a b:List UInt8):Eb P .neq t (sv a) (sv b) (.bool (a !=b)):=λ_ _ w=>by
 simp[eqGuard,binOp,Op.stringOp,bne,BA]
theorem fX(a b:List UInt8):(⟨a.toArray⟩:ByteArray)++⟨b.toArray⟩=⟨(a++b).toArray⟩:=by
 simp[ByteArray.ext_iff]
theorem Bin.lN{t:TypeId}(a b:List UInt8)(h:(a.length:Int)+b.length<=9223372036854775807):Eb P .add t (sv a) (sv b) (sv (a++b)):=λ_ _ w=>by
 have h1:¬(9223372036854775807<(a.length:Int)+b.length):=A7
 have h2:∀l:List UInt8,(⟨l.toArray⟩:ByteArray).size=l.length:=λl=>by simp[ByteArray.size]
 simp only[eqGuard,binOp,Op.stringOp];simp[h2,h1,fX]
end
variable {P:Program} {n:Nat} {ops:Array Oper} {rest:List Oper} {K:Env->World->Prop} {σ:Env} {w:World}
variable {d:Nat} {ty:TypeId} {pos:String} {after:Array Edge}
def XO(P:Program)(σ:Env)(w:World)(op:Op)(v:Value):Prop:=
 ∀(d:Option Tmp) (ty:TypeId) (pos:String) (after:Array Edge) (g:Option (Nat×Bool)),(execOp (ev σ) ⟨d,op,ty,pos,after,g⟩).run P w= .ok (.value v) w
theorem WL.x(hd:Nat.blt d n=true)(hx:XO P σ w op v)(h:WL P n ops rest K (Hi σ d v) w):WL P n ops (⟨some d,op,ty,pos,after,none⟩::rest) K σ w:=
 .val rfl rfl hd (hx _ _ _ _ _) h
def gv(b want:Bool)(v:Value):Value:=if b==want then v else undef
theorem OA(h:(b==want)=true):gv b want v=v:=by unfold gv;rw[vP h]
theorem WL.gx{j t:Nat}(hj:(ops[j]?).bind (·.dst)=some t)(hb:σ t= .bool b)(hd:Nat.blt d n=true)
  (hx:(b==want)=true->XO P σ w op v) (h:WL P n ops rest K (Hi σ d (gv b want v)) w):
  WL P n ops (⟨some d,op,ty,pos,after,some (j,want)⟩::rest) K σ w:=by
 by_cases hbw:(b==want)=true
 ·refine WL.on rfl hj hb hbw (WL.val rfl rfl hd (hx hbw _ _ _ _ _) ?_);rw[OA hbw]at h;exact h
 ·have hbw':(b==want)=false:=by simpa using hbw
  refine WL.off rfl hj hb hbw' rfl hd ?_;have:gv b want v=undef:=by unfold gv;rw[hbw'];simp
  rw[this]at h;exact h
section
variable {x y c:Operand}
theorem X.move(hx:ev σ x=v):XO P σ w (.move x) v:=λ_ _ _ _ _=>by simp[execOp,hx]
theorem X.assign(hx:ev σ x=v):XO P σ w (.assign x) v:=λ_ _ _ _ _=>by simp[execOp,hx]
theorem X.bin{b:BinOp}{t t':TypeId}(hx:ev σ x=vx)(hy:ev σ y=vy)(hr:Eb P b t vx vy v):XO P σ w (.binOp b t x y t') v:=λ_ _ _ _ _=>by
 have:=hr x y w;simp only[execOp,hx,hy,uP,this,uK];simp
theorem X.not{t:TypeId}(hx:ev σ x= .bool b):XO P σ w (.unOp .not t x) (.bool (!b)):=λ_ _ _ _ _=>by simp[execOp,hx,Op.unary]
theorem X.neg{T:Type}{k:IntKind} [GI T k]{t:TypeId}{a:T}(hx:ev σ x=iv a):XO P σ w (.unOp .neg t x) (iv (eY a)):=λ_ _ _ _ _=>by
 simp[execOp,hx,Op.unary,Op.intArith,eY,<-Gz]
theorem X.qH{T:Type}{k:IntKind} [GI T k]{t:TypeId}{a:T}(hx:ev σ x=iv a):XO P σ w (.unOp .xor t x) (iv (iY a)):=λ_ _ _ _ _=>by
 simp[execOp,hx,Op.unary,Op.intBits,iY,<-Gz]
theorem X.pick(hc:ev σ c= .bool b)(hx:ev σ x=vx)(hy:ev σ y=vy)(hv:(if b then vx else vy)=v):XO P σ w (.pick c x y) v:=λ_ _ _ _ _=>by
 simp[execOp,hc,hx,hy,asBool];cases b<;>simp at hv<;>simp[hv]
theorem X.extract{i:Nat}{vs:List Value}{v:Value}(hx:ev σ x= .tuple vs.toArray)(hi:vs[i]? =some v):XO P σ w (.extract x i) v:=λ_ _ _ _ _=>by
 simp[execOp,hx,Instr.extract,hi]
theorem X.conv{T T':Type}{k k':IntKind} [GI T k] [GI T' k']{s t:TypeId}{a:T}{u:TypeDesc}(hs:P.underlying s=some u)(ht:P.underlying t=some (.int k'))
  (hx:ev σ x=iv a):XO P σ w (.convert s t x) (iv (Aq a:T')):=λ_ _ _ _ _=>by
 simp[execOp,hx,convert,uL hs,uL ht,Conv.intToInt,Aq,<-Gz]
theorem X.IN{t e:TypeId}{p:Option Addr}{len cap:Nat}(ht:P.underlying t=some (.slice e))(hx:ev σ x= .slice p len cap):
  XO P σ w (.call ⟨.builtin .len, #[x], #[t]⟩) (iv (len:Int)):=λ_ _ _ _ _=>by
 simp[execOp,resolve,invoke,builtin,Builtin.len_,hx,uL ht,goInt,iv,GI.toZ]
theorem X.mM{t:TypeId}{l:List UInt8}(ht:P.underlying t=some .string)(hx:ev σ x=sv l):XO P σ w (.call ⟨.builtin .len, #[x], #[t]⟩) (iv (Aa l)):=λ_ _ _ _ _=>by
 have h2:(⟨l.toArray⟩:ByteArray).size=l.length:=by simp[ByteArray.size]
 simp[execOp,resolve,invoke,builtin,Builtin.len_,hx,uL ht,goInt,iv,GI.toZ,Aa,h2]
theorem X.lT{t e:TypeId}{m:Nat}(ht:P.underlying t=some (.array m e))(hx:ev σ x=v):XO P σ w (.call ⟨.builtin .len, #[x], #[t]⟩) (iv (m:Int)):=λ_ _ _ _ _=>by
 simp[execOp,resolve,invoke,builtin,Builtin.len_,hx,uL ht,goInt,iv,GI.toZ]
theorem X.min{T:Type}{k:IntKind} [GI T k]{ts:Array TypeId}{a b:T}(hx:ev σ x=iv a)(hy:ev σ y=iv b):XO P σ w (.call ⟨.builtin .min, #[x,y],ts⟩) (iv (Fm a b)):=λ_ _ _ _ _=>by
 simp[execOp,resolve,invoke,builtin,Builtin.min_,Builtin.min2,hx,hy,Fm];split<;>rfl
theorem X.max{T:Type}{k:IntKind} [GI T k]{ts:Array TypeId}{a b:T}(hx:ev σ x=iv a)(hy:ev σ y=iv b):XO P σ w (.call ⟨.builtin .max, #[x,y],ts⟩) (iv (YJ a b)):=λ_ _ _ _ _=>by
 simp[execOp,resolve,invoke,builtin,Builtin.max_,Builtin.max2,hx,hy,YJ];split<;>rfl
theorem X.makeFunc{f:FuncId}{cap:List Operand}{vs:List Value}(hc:cap.map (ev σ)=vs):XO P σ w (.makeFunc (.func f) #[] cap.toArray) (.func (.func f) #[] vs.toArray):=λ_ _ _ _ _=>by
 simp[execOp,Instr.makeFunc,hc]
theorem X.nilCheck{a:Addr}(hx:ev σ x= .pointer (some a)):XO P σ w (.nilCheck x) (.pointer (some a)):=λ_ _ _ _ _=>by simp[execOp,hx]
end
def Ent(P:Program)(f:FuncId):Prop:=∀(args:Array Value) (w:World),(callFunc f args).run P w= .ok (.enter f args) w
theorem Ent.mk{fn:Func}{c:Code}(hf:P.funcs[f]? =some fn)(hn:(fn.name== "runtime.NumGoroutine")=false)(hb:fn.body=some c):Ent P f:=fun args w=>by
 have hn':¬fn.name= "runtime.NumGoroutine":=by simpa using hn
 unfold callFunc
 show Sem.run P (Sem.bind (Sem.program Sem.pure) _) w=_;simp only[Sem.bind,Sem.run,hf];simp[hn',hb]
def XE(P:Program)(σ:Env)(w:World)(op:Op)(f:FuncId)(vs:Array Value):Prop:=
 ∀(d:Option Tmp) (ty:TypeId) (pos:String) (after:Array Edge) (g:Option (Nat×Bool)),(execOp (ev σ) ⟨d,op,ty,pos,after,g⟩).run P w= .ok (.enter f vs) w
theorem X.call{args:List Operand}{ts:Array TypeId}{vs:List Value}(he:Ent P f)(ha:args.map (ev σ)=vs):XE P σ w (.call ⟨.value (.func f),args.toArray,ts⟩) f vs.toArray:=λ_ _ _ _ _=>by
 have:=he vs.toArray w;simp[execOp,resolve,ev,Deferred.ofValue,invoke,ha,this]
theorem X.qE{g:Operand}{args:List Operand}{ts:Array TypeId}{vs cs:List Value}(he:Ent P f)(hg:ev σ g= .func (.func f) #[] cs.toArray) (ha:args.map (ev σ)=vs):
  XE P σ w (.call ⟨.value g,args.toArray,ts⟩) f (vs++cs).toArray:=λ_ _ _ _ _=>by
 have:=he (vs++cs).toArray w;simp[execOp,resolve,hg,Deferred.ofValue,invoke,ha,this]
theorem WL.e{vs:Array Value}{R1:Ending->World->Prop}(hd:Nat.blt d n=true)(hx:XE P σ w op f vs)(hc:Calls P f vs w R1)
  (hr:∀e w',R1 e w'->∃r,e= .returned r/\WL P n ops rest K (Hi σ d r) w'):WL P n ops (⟨some d,op,ty,pos,after,none⟩::rest) K σ w:=
 .enter rfl rfl hd (hx _ _ _ _ _) hc hr
end Go.Lv
namespace Go
theorem A8{p:Prop}(h:p:=by simp;omega):p:=h
end Go
namespace Go.Lv
variable{x:Operand}{v:Value}
variable {P:Program} {n:Nat} {ops:Array Oper} {rest:List Oper} {K:Env->World->Prop} {σ:Env} {w:World}
variable {d:Nat} {ty:TypeId} {pos:String} {after:Array Edge} {A:Reg} {F:List Fact} {L:List Mob}
def fP:TypeDesc->Bool
 | .struct _| .array _ _=>true
 |_=>false
def Plain(P:Program)(t:TypeId):Prop:=∃u,P.underlying t=some u/\fP u=false
def nT(P:Program)(t:TypeId):Prop:=∃u,P.underlying t=some u/\fP u=true
def Dh(P:Program)(t:TypeId)(s:Nat):Prop:=∃i,P.info? t=some i/\i.size=s
theorem Ca{t:TypeId}{u:TypeDesc}{b:Bool}(h:P.underlying t=some u)(hb:fP u=b)(w:World):(isAgg t).run P w= .ok b w:=by
 unfold isAgg;rw[uP,uL h,uK];subst hb;cases u<;>rfl
theorem As{t:TypeId}{s:Nat}(h:Dh P t s)(w:World):(sizeOf t).run P w= .ok s w:=by
 obtain⟨i,hi,rfl⟩:=h;simp[sizeOf,typeInfo,hi]
theorem cell_of{b off:Nat}{arr:Array Value}{T:TypeId}{fr:Nat×Nat}(h:w.heap[b]? =some (.cells arr T fr)):w.cell? ⟨b,off,none⟩=arr[off]? :=by
 simp[World.cell?,h]
theorem Mq{b off:Nat}(h:w.cell? ⟨b,off,none⟩=some v):(load ⟨b,off,none⟩).run P w= .ok v w:=by
 simp[load,Sem.run,h]
theorem Fj(b off k:Nat):(⟨b,off,none⟩:Addr).add k=⟨b,off+k,none⟩:=by
 unfold Addr.add;split<;>simp_all
theorem Eu{b off:Nat}(cs:List Value)(h:∀i,i<cs.length->w.cell? ⟨b,off+i,none⟩=cs[i]?):(loadCells ⟨b,off,none⟩ cs.length).run P w= .ok cs.toArray w:=
 run_loadCells_list (P:=P) (w:=w) ⟨b,off,none⟩ cs (λj v hj=>by
  have hlt:j<cs.length:=(List.getElem?_eq_some_iff.1 hj).1;rw[Fj,h j hlt,hj])
theorem Bi.mem{A:Reg}:∀{L:List Mob} {A:Reg} {m:Mob} {i:Nat},Bi w A L->L[i]? =some m->∃o,m.holds o w
 |[],_,_,_,_,h=>by simp at h
 |_::_,_,_,0,⟨o,h1,_,_⟩,h=>⟨o,by simp at h;exact h▸h1⟩
 |_::_,_,_,_+1,⟨_,_,_,h3⟩,h=>Bi.mem (A:=A) h3 (by simpa using h)
theorem St.box(hs:St A w F L){i b:Nat}{cells:List Value}{T:TypeId}(hL:L[i]? =some (.box b cells T)):w.heap[b]? =some (.cells cells.toArray T (0,0)):=by
 obtain⟨o,h1,h2⟩:=Bi.mem (A:=A) hs.mobs hL;exact h2
def Ch(w:World)(b:Nat)(o:Obj):World:={w with heap:=w.heap.setIfInBounds b o}
theorem St.iN(hs:St A w F L){i b:Nat}{cells cells':List Value}{T:TypeId}(hL:L[i]? =some (.box b cells T)):
  St A (Ch w b (.cells cells'.toArray T (0,0))) F (L.set i (.box b cells' T)):=by
 have hb:=lt_of_heap (hs.box hL);have h1:=hs.front hL;refine St.back hL ?_;obtain⟨o,⟨rfl,_⟩,h3,h4⟩:=h1.mobs;have hsz:(Ch w b (.cells cells'.toArray T (0,0))).heap.size=w.heap.size:=by simp[Ch]
 have hne:∀c,c≠b-> (Ch w b (.cells cells'.toArray T (0,0))).heap[c]? =w.heap[c]? :=λc hc=>by
  simp[Ch,vO (xE hc)]
 have rQ:=(h3 b rfl).1;refine⟨λc hc=>by rw[hsz];exact hs.lt c hc,λf hf=>f.step (hs.facts f hf) (λ_ h=>h) (λc hc=>hne c (λe=>rQ (e▸hc))) ⟨by rw[hsz];exact vD _,rfl,rfl,rfl⟩,some b,⟨rfl,?_⟩,λc hc=>⟨(h3 c hc).1,by rw[hsz];exact(h3 c hc).2⟩,?_⟩
 ·simp[Ch,hb]
 ·refine h4.step (by rw[hsz];exact vD _) (λc _ hc=>hne c (λe=>hc (.inr (by rw[e]))))
def Dj(w:World)(o:Obj):World:={w with heap:=w.heap.push o}
theorem Yw(w:World)(o:Obj):(Dj w o).heap.size=w.heap.size+1:=by simp only[Dj,Array.size_push]
theorem cC{w:World}{o:Obj}{b:Nat}(hb:b<w.heap.size):(Dj w o).heap[b]? =w.heap[b]? :=by
 simp only[Dj];rw[Array.getElem?_push_lt hb,yC hb]
theorem Hy(w:World)(o:Obj):(Dj w o).heap[w.heap.size]? =some o:=by
 simp only[Dj,Array.getElem?_push_size]
theorem KF(w:World)(o:Obj):Keep w (Dj w o):=⟨λb hb=>cC hb,by rw[Yw];omega,rfl,rfl,rfl⟩
theorem St.JI(hs:St A w F L)(o:Obj)(m:Mob)(hm:m.holds (some w.heap.size) (Dj w o)):St A (Dj w o) F (m::L):=by
 have hk:=KF w o;have h1:=hs.keep hk;refine⟨h1.lt,h1.facts,some w.heap.size,hm,λb hb=>⟨λh=>?_,?_⟩,?_⟩
 ·cases hb;exact Nat.lt_irrefl _ (hs.lt _ h)
 ·cases hb;rw[Yw];omega
 ·refine(hs.mobs.lt.step hk.le λb hb _=>hk.same b hb).Jg ?_;rintro b (h|h)
  ·exact .inl h
  ·cases h;exact .inr (vD _)
theorem St.gO(hs:St A w F L)(cells:List Value)(T:TypeId):St A (Dj w (.cells cells.toArray T)) F (.box w.heap.size cells T::L):=
 hs.JI _ _ ⟨rfl,Hy _ _⟩
theorem X.iB{t T:TypeId}{i b off:Nat}{cells:List Value}(hs:St A w F L)(hL:L[i]? =some (.box b cells T))(ht:Plain P t)
  (hx:ev σ x= .pointer (some ⟨b,off,none⟩)) (hv:cells[off]? =some v):XO P σ w (.load t x) v:=λ_ _ _ _ _=>by
 obtain⟨u,hu,hp⟩:=ht;have hc:w.cell? ⟨b,off,none⟩=some v:=by rw[cell_of (hs.box hL)];simpa using hv
 simp only[execOp,hx,Instr.loadAt,Instr.sureAddr,uP,uT,uK,loadVar,Ca hu hp,vF,wQ,Mq hc]
theorem X.fQ{t T:TypeId}{i b off s:Nat}{cells vs:List Value}(hs:St A w F L)(hL:L[i]? =some (.box b cells T))(ht:nT P t)(hsz:Dh P t s)
  (hx:ev σ x= .pointer (some ⟨b,off,none⟩)) (hv:(cells.drop off).take s=vs) (hl:vs.length=s):XO P σ w (.load t x) (.agg vs.toArray):=λ_ _ _ _ _=>by
 obtain⟨u,hu,hp⟩:=ht;have hc:=Eu (P:=P) (w:=w) (b:=b) (off:=off) vs (λj hj=>by
  rw[cell_of (hs.box hL)];subst hv;rw[vG]at hj;simp[uY,vV];omega)
 rw[hl]at hc;simp only[execOp,hx,Instr.loadAt,Instr.sureAddr,uP,uT,uK,loadVar,Ca hu hp,yB,As hsz,hc]
def Ap(cells:List Value)(off:Nat)(vs:List Value):List Value:=cells.take off++(vs++cells.drop (off+vs.length))
theorem Cg{cells:List Value}{off:Nat}{vs:List Value}(h:off+vs.length<=cells.length):(Ap cells off vs).length=cells.length:=by
 simp[Ap];omega
theorem KO{cells:List Value}{off:Nat}{vs:List Value}(h:off+(v::vs).length<=cells.length):
  Ap (cells.set off v) (off+1) vs=Ap cells off (v::vs):=by
 simp at h;have e1:(cells.set off v).take (off+1)=cells.take off++[v]:=by
  rw[List.take_succ_eq_append_getElem A8];have e0:(cells.set off v).take off=cells.take off:=by
   apply wJ;intro i;rw[uY,uY];by_cases hi:i<off
   ·rw[vP hi,vP hi,vJ A7]
   ·rw[vL hi,vL hi]
  rw[e0];simp
 have e2:(cells.set off v).drop (off+1+vs.length)=cells.drop (off+(v::vs).length):=by
  rw[List.drop_set_of_lt A7];simp[yZ,Nat.add_left_comm]
 simp only[Ap,e1,e2,vT,xA,wS]
theorem Ct(b:Nat)(T:TypeId)(fr:Nat×Nat):∀(vs:List Value) (off:Nat) (i:Nat) (cells:List Value) (w:World),w.heap[b]? =some (.cells cells.toArray T fr)->
  off+i+vs.length<=cells.length-> (fr.2<=off+i\/cells.length<=fr.1\/fr.2<=fr.1)-> (∀v∈vs,v.oneCell'=true)->
  (storeCells ⟨b,off,none⟩ vs i).run P w= .ok () (Ch w b (.cells (Ap cells (off+i) vs).toArray T fr))
 |[],off,i,cells,w,h,hl,hf,h1=>by
  have hb:=lt_of_heap h;have:Ch w b (.cells (Ap cells (off+i) []).toArray T fr)=w:=by
   have e:Ap cells (off+i) []=cells:=by simp[Ap]
   rw[e];cases w with
   |mk heap tape drawn os output=>
    simp only[Ch,World.mk.injEq,zG,true_and];apply Array.ext_getElem?;intro j;by_cases hj:j=b
    ·subst hj;simp at hb h⊢;rw[wT hb];exact h.symm
    ·simp[vO (xE hj)]
  rw[this];rfl
 |v::vs,off,i,cells,w,h,hl,hf,h1=>by
  have hb:=lt_of_heap h;have hlt:off+i<cells.length:=by simp at hl;omega
  unfold storeCells;rw[uP,run_store P w _ v _ (h1 v (.head _)),Fj];have hc:w.cell? ⟨b,off+i,none⟩=some cells[off+i]:=by rw[cell_of h];simp[hlt]
  have hfz:w.frozen? ⟨b,off+i,none⟩=false:=by
   simp only[World.frozen?,h];simp;omega
  rw[hc];simp only[hfz,vF,wQ,uK];have hw:w.setCell ⟨b,off+i,none⟩ v=Ch w b (.cells (cells.set (off+i) v).toArray T fr):=by
   simp only[World.setCell,Ch,World.mk.injEq,zG,true_and];apply Array.ext_getElem?;intro j;rw[Array.getElem?_modify];by_cases hj:j=b
   ·subst hj;simp only[yB,h];rw[wT hb];simp
   ·rw[vL (xE hj),vO (xE hj)]
  rw[hw];have hr:=Ct b T fr vs off (i+1) (cells.set (off+i) v) (Ch w b (.cells (cells.set (off+i) v).toArray T fr)) (by simp[Ch,hb])
   (by simp at hl⊢;omega) A8 (λu hu=>h1 u (.tail _ hu))
  rw[hr];have hsp:Ap (cells.set (off+i) v) (off+(i+1)) vs=Ap cells (off+i) (v::vs):=by
   rw[<-vH];exact KO (by simpa using hl)
  rw[hsp];congr 1;simp[Ch]
theorem WL.fA{a:Operand}{t T:TypeId}{i b off s:Nat}{cells cells' vs:List Value}{L':List Mob}(hs:St A w F L)(hL:L[i]? =some (.box b cells T))(hsz:Dh P t s)
  (ha:ev σ a= .pointer (some ⟨b,off,none⟩)) (hx:ev σ x=v) (hv:v.cells=vs.toArray) (hl:vs.length=s) (h1:vs.all (·.oneCell')=true) (hle:Nat.ble (off+s) cells.length=true)
  (hc:Ap cells off vs=cells') (hL':L.set i (.box b cells' T)=L') (h:∀w',St A w' F L'->WL P n ops rest K σ w'):
  WL P n ops (⟨none, .store t a x,ty,pos,after,none⟩::rest) K σ w:=by
 have hle':off+s<=cells.length:=by simpa using hle
 have hr:=Ct (P:=P) b T (0,0) vs off 0 cells w (hs.box hL) A7 (.inr (.inr (vD _))) (λv hv=>by simpa using List.all_eq_true.1 h1 v hv);simp only[xY,hc]at hr;refine .unit rfl rfl (w':=Ch w b (.cells cells'.toArray T (0,0))) ?_ (h _ (hL'▸hs.iN hL));simp[execOp,ha,hx,Instr.storeAt,Instr.sureAddr,storeVar,As hsz,hv,hl,hr]
theorem NI(e:TypeId)(v:Value)(cells:List Value)(hv:v.cells=cells.toArray):(newVar e v).run P w= .ok ⟨w.heap.size,0,none⟩ (Dj w (.cells cells.toArray e)):=by
 unfold newVar;rw[hv];rfl
theorem WL.box{x:Operand}{e:TypeId}{v:Value}{cells:List Value}(hs:St A w F L)(hd:Nat.blt d n=true)(hx:ev σ x=v)(hv:v.cells=cells.toArray)
  (h:∀b w',St A w' F (.box b cells e::L)->WL P n ops rest K (Hi σ d (.pointer (some ⟨b,0,none⟩))) w'):
  WL P n ops (⟨some d, .box e x,ty,pos,after,none⟩::rest) K σ w:=by
 refine .val rfl rfl hd (w':=Dj w (.cells cells.toArray e)) (v:= .pointer (some ⟨w.heap.size,0,none⟩)) ?_ (h _ _ (hs.gO cells e));simp only[execOp,hx,Instr.box,uP,NI e v cells hv,uK,uT]
theorem WL.alloc{e:TypeId}{z:Value}{cells:List Value}(hs:St A w F L)(hd:Nat.blt d n=true)(hz:∃i,P.info? e=some i/\i.zero=some z)(hv:z.cells=cells.toArray)
  (h:∀b w',St A w' F (.box b cells e::L)->WL P n ops rest K (Hi σ d (.pointer (some ⟨b,0,none⟩))) w'):
  WL P n ops (⟨some d, .alloc e,ty,pos,after,none⟩::rest) K σ w:=by
 obtain⟨i,hi,hz⟩:=hz;have hz':(zeroValue e).run P w= .ok z w:=by simp[zeroValue,typeInfo,hi,hz]
 refine .val rfl rfl hd (w':=Dj w (.cells cells.toArray e)) (v:= .pointer (some ⟨w.heap.size,0,none⟩)) ?_ (h _ _ (hs.gO cells e));simp only[execOp,Instr.alloc,uP,hz',NI e z cells hv,uK,uT]
end Go.Lv
namespace Go.Lv
variable{p:Option Addr}{gI:Option Value}{v:Value}
variable {P:Program} {n:Nat} {ops:Array Oper} {rest:List Oper} {K:Env->World->Prop} {σ:Env} {w:World}
variable {d:Nat} {ty:TypeId} {pos:String} {after:Array Edge} {A:Reg} {F:List Fact} {L:List Mob}
def BJ(P:Program)(t:TypeId)(f k:Nat):Prop:=∃fs fd i,P.underlying t=some (.struct fs)/\fs[f]? =some fd/\fd.offset=k/\P.info? fd.type=some i/\i.size≠0
theorem ZE{t:TypeId}{f k b off:Nat}(h:BJ P t f k):(Instr.fieldAt t (.pointer (some ⟨b,off,none⟩)) f).run P w= .ok (.pointer (some ⟨b,off+k,none⟩)) w:=by
 obtain⟨fs,fd,i,h1,h2,h3,h4,h5⟩:=h;have h6:=As (P:=P) ⟨i,h4,rfl⟩ w;simp only[Instr.fieldAt,uP,uL h1,uK,h2,Instr.sureAddr,uT,fieldPlace,h6,h5,wQ,Fj,h3]
theorem X.fieldAddr{t:TypeId}{x:Operand}{f k b off off':Nat}(hf:BJ P t f k)(hx:ev σ x= .pointer (some ⟨b,off,none⟩))(ho:off+k=off'):
  XO P σ w (.fieldAddr t x f) (.pointer (some ⟨b,off',none⟩)):=λ_ _ _ _ _=>by
 simp only[execOp,hx,uP,ZE hf,uK,uT,ho]
theorem X.field{t u:TypeId}{x:Operand}{f k s:Nat}{cells:List Value}{v:Value}(hf:∃fs fd,P.underlying t=some (.struct fs)/\fs[f]? =some fd/\fd.offset=k/\fd.type=u)
  (hu:(Plain P u/\cells[k]? =some v)\/ (nT P u/\Dh P u s/\ .agg ((cells.drop k).take s).toArray=v)) (hx:ev σ x= .agg cells.toArray):XO P σ w (.field t x f) v:=λ_ _ _ _ _=>by
 obtain⟨fs,fd,h1,h2,rfl,rfl⟩:=hf;rcases hu with⟨⟨u,hu,hp⟩,hv⟩|⟨⟨u,hu,hp⟩,hsz,hv⟩
 ·simp only[execOp,hx,Instr.field,uP,uL h1,uK,h2,asAgg,uT,part,Ca hu hp,vF,wQ];simp[hv]
 ·simp only[execOp,hx,Instr.field,uP,uL h1,uK,h2,asAgg,uT,part,Ca hu hp,yB,As hsz];rw[<-hv];simp[List.extract_eq_take_drop]
def Fact.ptr(R:Reg)(pv:Value)(cs:List Value):Fact where
 holds A w:=∃b off arr T fr,pv= .pointer (some ⟨b,off,none⟩)/\ (A b/\R b)/\w.heap[b]? =some (.cells arr T fr)/\∀i,i<cs.length->arr[off+i]? =cs[i]?
 step:=by
  rintro A A' w w' ⟨b,off,arr,T,fr,h1,⟨h2,h3⟩,h4,h5⟩ ha hs _;exact⟨b,off,arr,T,fr,h1,⟨ha _ h2,h3⟩,(hs _ h2).trans h4,h5⟩
theorem UA{t e:TypeId}{s len cap lo hi:Nat}{nN:Option Value}(ht:P.underlying t=some (.slice e))(hsz:Dh P e s)(h1:lo<=hi)(h2:hi<=len)(h3:len<=cap)
  (hlo:(∃q,gI=some (.int q lo))\/ (gI=none/\lo=0)) (hhi:(∃q,nN=some (.int q hi))\/ (nN=none/\hi=len)):
  (Instr.slice t (.slice p len cap) gI nN none).run P w= .ok (.slice (if cap=lo then p else p.map (·.add (lo*s))) (hi-lo) (cap-lo)) w:=by
 have e4:hi<=cap:=A7
 rcases hlo with⟨q,rfl⟩|⟨rfl,rfl⟩<;>rcases hhi with⟨q',rfl⟩|⟨rfl,rfl⟩<;>
  simp[Instr.slice,uL ht,Instr.sliceBounds,Instr.sliceBound,asIntOf,As hsz,h1,e4]
 all_goals (try (intro h;omega))
theorem X.ZO{t e:TypeId}{R:Reg}{s j m l k:Nat}{cs:List Value}(ht:P.underlying t=some (.slice e))(hsz:Dh P e s)(hs:St A w F L)
  (hF:F[j]? =some (.rd R s v cs)) (hl:cs.length=m*s) (hp:0<s) (hlk:l<=k) (hkm:k<=m):
  ∃p' l' c',(∀(σ:Env) (w:World) (x:Operand) (lo hi:Option Operand),ev σ x=v-> ((∃q,lo.map (ev σ)=some (.int q (l:Int)))\/ (lo=none/\l=0))-> ((∃q,hi.map (ev σ)=some (.int q (k:Int)))\/ (hi=none/\k=m))->XO P σ w (.slice t x lo hi none) (.slice p' l' c'))/\St A w (.rd R s (.slice p' l' c') ((cs.take (k*s)).drop (l*s))::F) L:=by
 obtain⟨p,len,cap,rfl,h2,h3,h4,h5⟩:=hs.fact j hF;have hlen:len=m:=uQ hp (h2.symm.trans hl);subst hlen;have e1:l*s<=k*s:=uM s hlk;have e2:k*s<=len*s:=uM s hkm;have e3:(k-l)*s=k*s-l*s:=wU k l s;have e9:k-l<=cap-l:=A7
 have e10:l*s+(cap-l)*s=cap*s:=by
  rw[wU];have:=uM s (show l<=cap by omega);omega
 refine⟨(if cap=l then p else p.map (·.add (l*s))),k-l,cap-l,λσ w x lo hi hx hlo hhi _ _ _ _ _=>?_,hs.GY ⟨_,_,_,rfl,?_,e9,?_,λhc=>?_⟩⟩
 ·have hr:=UA (P:=P) (w:=w) (p:=p) (gI:=lo.map (ev σ)) (nN:=hi.map (ev σ)) ht hsz hlk hkm h3 (by rcases hlo with h|⟨h,h'⟩;exact .inl h;exact .inr ⟨by rw[h];rfl,h'⟩)
   (by rcases hhi with h|⟨h,h'⟩;exact .inl h;exact .inr ⟨by rw[h];rfl,h'⟩)
  simp only[execOp,hx,Instr.sliceAt,uP,uL ht,uK,wK,hr,uT]
 ·rw[xB,vG,e3];omega
 ·intro hp;by_cases hcl:cap=l
  ·omega
  ·rw[vL hcl]at hp;cases p with
   |none=>have:=h4 rfl;omega
   |some a=>simp at hp
 ·rw[vL A7];obtain⟨b,off,arr,T,fr,rfl,hA,hb,hc',he⟩:=h5 A7;refine⟨b,off+l*s,arr,T,fr,by simp[Fj],hA,hb,?_,λi hi=>?_⟩
  ·rw[vH,e10];assumption
  ·rw[vH,he (l*s+i) A7,vV,uY];rw[vP A7]
theorem bG{t e:TypeId}{s len cap lo hi mx:Nat}{q q':IntKind}(ht:P.underlying t=some (.slice e))(hsz:Dh P e s)(h1:lo<=hi)(h2:hi<=mx)(h3:mx<=cap)
  (hlo:(∃q,gI=some (.int q lo))\/ (gI=none/\lo=0)):
  (Instr.slice t (.slice p len cap) gI (some (.int q hi)) (some (.int q' mx))).run P w= .ok (.slice (if mx=lo then p else p.map (·.add (lo*s))) (hi-lo) (mx-lo)) w:=by
 rcases hlo with⟨q,rfl⟩|⟨rfl,rfl⟩<;>
  simp[Instr.slice,uL ht,Instr.sliceBounds,Instr.sliceBound,asIntOf,As hsz,h1,h2,h3]
theorem X.fC{t e:TypeId}{R:Reg}{s j m l k c:Nat}{cs:List Value}(ht:P.underlying t=some (.slice e))(hsz:Dh P e s)(hs:St A w F L)
  (hF:F[j]? =some (.rd R s v cs)) (hl:cs.length=m*s) (hp:0<s) (hlk:l<=k) (hkc:k<=c) (hcm:c<=m):
  ∃p' l' c',(∀(σ:Env) (w:World) (x:Operand) (lo:Option Operand) (hi mx:Operand),ev σ x=v-> ((∃q,lo.map (ev σ)=some (.int q (l:Int)))\/ (lo=none/\l=0))-> (∃q,ev σ hi= .int q (k:Int))-> (∃q,ev σ mx= .int q (c:Int))->XO P σ w (.slice t x lo (some hi) (some mx)) (.slice p' l' c'))/\St A w (.rd R s (.slice p' l' c') ((cs.take (k*s)).drop (l*s))::F) L/\c'=c-l:=by
 obtain⟨p,len,cap,rfl,h2,h3,h4,h5⟩:=hs.fact j hF;have hlen:len=m:=uQ hp (h2.symm.trans hl);subst hlen;have e1:l*s<=k*s:=uM s hlk;have e2:k*s<=len*s:=uM s (yO hkc hcm);have e3:(k-l)*s=k*s-l*s:=wU k l s;have e9:k-l<=c-l:=A7
 have e10:l*s+(c-l)*s<=cap*s:=by
  rw[wU];have:=uM s (show l<=c by omega);have:=uM s (show c<=cap by omega);omega
 refine⟨(if c=l then p else p.map (·.add (l*s))),k-l,c-l,λσ w x lo hi mx hx hlo hhi hmx _ _ _ _ _=>?_,hs.GY ⟨_,_,_,rfl,?_,e9,?_,λhc=>?_⟩,rfl⟩
 ·obtain⟨q,hq⟩:=hhi;obtain⟨q',hq'⟩:=hmx;have hr:=bG (P:=P) (w:=w) (p:=p) (len:=len) (gI:=lo.map (ev σ)) (q:=q) (q':=q') ht hsz hlk hkc (show c<=cap by omega) (by rcases hlo with h|⟨h,h'⟩;exact .inl h;exact .inr ⟨by rw[h];rfl,h'⟩);simp only[execOp,hx,Instr.sliceAt,uP,uL ht,uK,wL,hq,hq',hr,uT]
 ·rw[xB,vG,e3];omega
 ·intro hp;by_cases hcl:c=l
  ·omega
  ·rw[vL hcl]at hp;cases p with
   |none=>have:=h4 rfl;omega
   |some a=>simp at hp
 ·rw[vL A7];obtain⟨b,off,arr,T,fr,rfl,hA,hb,hc',he⟩:=h5 A7;refine⟨b,off+l*s,arr,T,fr,by simp[Fj],hA,hb,?_,λi hi=>?_⟩
  ·omega
  ·rw[vH,he (l*s+i) A7,vV,uY];rw[vP A7]
end Go.Lv
namespace Go.Lv
variable{o:Obj}{p:Option Addr}{v vy vx:Value}
variable {P:Program} {n:Nat} {ops:Array Oper} {rest:List Oper} {K:Env->World->Prop} {σ:Env} {w:World}
variable {d:Nat} {ty:TypeId} {pos:String} {after:Array Edge} {A:Reg} {F:List Fact} {L:List Mob}
structure ElemOk (P:Program) (e:TypeId) (s:Nat):Prop where
 ok:∃i z,P.info? e=some i/\i.size=s/\i.zero=some z/\z.cells.size=s/\i.bytes<=4096
 pos:0<s
theorem ElemOk.size{e:TypeId}{s:Nat}(h:ElemOk P e s):Dh P e s:=let⟨i,_,h1,h2,_⟩:=h.ok;⟨i,h1,h2⟩
theorem Rd.first{s len cap:Nat}{cs:List Value}(h:Rd A w s (.slice p len cap) cs){w2:World}(hw:w2.heap=w.heap):
  (Builtin.firstCells s len (.slice p len cap)).run P w2= .ok cs.toArray w2:=by
 obtain⟨p',len',cap',e,h2,h3,h4,h5⟩:=h;cases e;cases p with
 |none=>
  have:=h4 rfl;have:cs=[]:=vS (by rw[h2,show len=0 by omega];simp);subst this;exact run_firstCells_none _ _ _ _ _
 |some a=>
  by_cases hc:0<cap
  ·obtain⟨b,off,arr,T,fr,e,hA,hb,hc',he⟩:=h5 hc;cases e;refine run_firstCells_some w2 s len _ len cap cs h2 (λj v hj=>?_);have hjl:j<len*s:=by rw[<-h2];exact(List.getElem?_eq_some_iff.1 hj).1
   rw[Fj,cell_of (by rw[hw];exact hb),he j hjl,hj]
  ·have hz:len=0:=A7
   have:cs=[]:=vS (by rw[h2,hz];simp);subst this;exact run_firstCells_some w2 s len _ len cap [] (by simp[hz]) (λj v hj=>by simp at hj)
theorem Hl{o:Option Nat}{s:Nat}{E:TypeId}{cs:List Value}(h:(Mob.own s E v cs).holds o w):Rd (λb=>o=some b) w s v cs:=by
 obtain⟨p,len,cap,h1,h2,h3,h4,h5,h6⟩:=h;refine⟨p,len,cap,h1,h2,h3,h4,λhc=>?_⟩;cases o with
 |none=>have:=h5 rfl;omega
 |some b=>
  obtain⟨arr,fr,e1,e2,e3,e4,e5⟩:=h6 b rfl;exact⟨b,0,arr,E,fr,e1,rfl,e2,A7,λi hi=>by rw[wO];exact e5 i hi⟩
theorem St.Hl(hs:St A w F L){j s:Nat}{E:TypeId}{v:Value}{cs:List Value}(hL:L[j]? =some (.own s E v cs)):Rd (λ_=>True) w s v cs:=by
 obtain⟨o,h⟩:=Bi.mem (A:=A) hs.mobs hL;exact(Go.Lv.Hl h).step (λ_ _=>trivial) (λ_ _=>rfl)
theorem St.rd(hs:St A w F L){j s:Nat}{R:Reg}{cs:List Value}(hF:F[j]? =some (.rd R s v cs)):Rd (λ_=>True) w s v cs:=
 (show Rd _ w s v cs from hs.fact j hF).step (λ_ _=>trivial) (λ_ _=>rfl)
theorem St.Za{i b:Nat}{m m':Mob}(hs:St A w F L)(hL:L[i]? =some m)(hm:m.holds (some b) w)(hm':m'.holds (some b) (Ch w b o))
  (hq:Bi w A (m::L.eraseIdx i)->∃q,m.holds q w/\ (∀c,q=some c-> ¬A c/\c<w.heap.size)/\Bi w (λc=>A c\/q=some c) (L.eraseIdx i)/\q=some b):St A (Ch w b o) F (L.set i m'):=by
 have h1:=hs.front hL;refine St.back hL ?_;obtain⟨q,_,h3,h4,rfl⟩:=hq h1.mobs;have hsz:(Ch w b o).heap.size=w.heap.size:=by simp[Ch]
 have hne:∀c,c≠b-> (Ch w b o).heap[c]? =w.heap[c]? :=λc hc=>by
  simp[Ch,vO (xE hc)]
 have rQ:=(h3 b rfl).1;refine⟨λc hc=>by rw[hsz];exact hs.lt c hc,λf hf=>f.step (hs.facts f hf) (λ_ h=>h) (λc hc=>hne c (λe=>rQ (e▸hc))) ⟨by rw[hsz];exact vD _,rfl,rfl,rfl⟩,some b,hm',λc hc=>⟨(h3 c hc).1,by rw[hsz];exact(h3 c hc).2⟩,?_⟩;refine h4.step (by rw[hsz];exact vD _) (λc _ hc=>hne c (λe=>hc (.inr (by rw[e]))))
theorem St.hU(hs:St A w F L){i:Nat}{m m':Mob}(hL:L[i]? =some m)(hm':m'.holds (some w.heap.size) (Dj w o)):St A (Dj w o) F (L.set i m'):=
 St.back hL ((hs.front hL).pL.JI o m' hm')
theorem St.dD(hs:St A w F L):St A w.drew F L:=hs.keep ⟨λ_ _=>rfl,vD _,rfl,rfl,rfl⟩
theorem St.TU(hs:St A w F L){i:Nat}{m m':Mob}(hL:L[i]? =some m)(hm:∀q,m.holds q w->∃q',m'.holds q' w/\ (q'=q\/q'=none)):St A w F (L.set i m'):=by
 have h1:=hs.front hL;refine St.back hL ⟨hs.lt,hs.facts,?_⟩;obtain⟨q,hq,h3,h4⟩:=h1.mobs;obtain⟨q',hq',h⟩:=hm q hq;refine⟨q',hq',λb hb=>?_,h4.Jg ?_⟩
 ·rcases h with rfl|rfl
  ·exact h3 b hb
  ·cases hb
 ·rcases h with rfl|rfl
  ·exact λ_ h=>h
  ·exact λb hb=>hb.elim .inl (λh=>by cases h)
structure Src (P:Program) (w:World) (t2:TypeId) (vy:Value) (s ly:Nat) (ys:List Value):Prop where
 u:∃u,P.underlying t2=some u/\ ((∃e2,u= .slice e2)\/u= .string)
 len:∀w2,(Builtin.lenOf vy).run P w2= .ok ly w2
 first:∀w2:World,w2.heap=w.heap-> (Builtin.firstCells s ly vy).run P w2= .ok ys.toArray w2
theorem Src.slice{t2:TypeId}{s ly:Nat}{ys:List Value}(ht2:∃e2,P.underlying t2=some (.slice e2))(hy:Rd (λ_=>True) w s vy ys)(TG:ys.length=ly*s)(hp:0<s):Src P w t2 vy s ly ys:=by
 obtain⟨py,qU,rR,rfl,g2,g3,g4,g5⟩:=hy;have e2':qU=ly:=uQ hp (g2.symm.trans TG);subst e2';obtain⟨e2,ht2⟩:=ht2;exact⟨⟨_,ht2, .inl ⟨_,rfl⟩⟩,λ_=>by simp[Builtin.lenOf],λw2 hw=>Rd.first (A:=λ_=>True) ⟨py,qU,rR,rfl,g2,g3,g4,g5⟩ hw⟩
theorem EI{x y:Operand}{t t2 e:TypeId}{s i lx ly:Nat}{cs ys:List Value}(ht:P.underlying t=some (.slice e))(he:ElemOk P e s)
  (hs:St A w F L) (hL:L[i]? =some (.own s e vx cs)) (hsrc:Src P w t2 vy s ly ys) (h1:ys.all (·.oneCell')=true) (hlx:cs.length=lx*s) (TG:ys.length=ly*s) (hlim:lx+ly<=XP):
  ∃v' w',(Builtin.append_ #[t,t2] ty #[vx,vy]).run P w= .ok v' w'/\St A w' F (L.set i (.own s e v' (cs++ys))):=by
 have hfr:=hs.front hL;obtain⟨o,hown,_,_⟩:=hfr.mobs;have qV:=Go.Lv.Hl hown;obtain⟨p,len,cap,rfl,h2,h3,h4,h5,h6⟩:=hown;obtain⟨ti,z,hi,hsz,hz,hzs,hby⟩:=he.ok;obtain⟨u,ht2,hu⟩:=hsrc.u;have hlen:=hsrc.len;have e1:len=lx:=uQ he.pos (h2.symm.trans hlx);subst e1;subst hsz;have cH:XP=17179869184:=rfl;rw[cH]at hlim;by_cases hroom:len+ly<=cap
 ·by_cases hn:ly=0
  ·
   subst hn;have hys:ys=[]:=vS (by simpa using TG);subst hys;have hf:=hsrc.first w rfl
   refine⟨.slice p len cap,w,?_,?_⟩
   ·rcases hu with⟨e2,rfl⟩|rfl<;>cases p<;>simp[Builtin.append_,uL ht,uL ht2,sizeOf,typeInfo,hi,hlen,hf,h3,storeCells]
   ·rw[vK];have:L.set i (.own ti.size e (.slice p len cap) cs)=L:=by
     apply wJ;intro j;by_cases hj:i=j
     ·subst hj;rw[yI];simp[hL]
     ·rw[vJ hj]
    rw[this];exact hs
  ·
   cases o with
   |none=>have:=h5 rfl;omega
   |some b=>
    obtain⟨arr,fr,rfl,hb,hsz',hfz,hcells⟩:=h6 b rfl;have hf:=hsrc.first w rfl
    have hst:=Ct (P:=P) b e fr ys (len*ti.size) 0 arr.toList w (by simpa using hb)
     (by have:=uM ti.size hroom;rw[vA]at this;simp;omega) (by simp;rcases hfz with h|h;exact .inr (.inr (xZ h.symm));exact .inr (.inl h)) (λv hv=>List.all_eq_true.1 h1 v hv)
    refine⟨.slice (some ⟨b,0,none⟩) (len+ly) cap,Ch w b (.cells (Ap arr.toList (len*ti.size) ys).toArray e fr),?_,?_⟩
    ·rcases hu with⟨e2,rfl⟩|rfl<;>(simp[Builtin.append_,uL ht,uL ht2,sizeOf,typeInfo,hi,hlen,hf,hroom,Fj]at hst⊢;simp[hst])
    ·have hbl:=lt_of_heap hb;have hal:arr.toList.length=arr.size:=by simp
     have rS:len*ti.size+ly*ti.size<=arr.toList.length:=by
      have:=uM ti.size hroom;rw[vA]at this;simp;omega
     refine hs.Za hL (b:=b) ⟨_,len,cap,rfl,h2,h3,h4,h5,h6⟩ ?_ ?_
     ·refine⟨_,len+ly,cap,rfl,by rw[uR,vA];omega,hroom,A9,A9,λb' hb'=>?_⟩;cases hb';refine⟨(Ap arr.toList (len*ti.size) ys).toArray,fr,rfl,by simp[Ch,hbl],?_,?_,λj hj=>?_⟩
      ·simp only[vI];rw[Cg A7];simpa using hsz'
      ·simp only[vI];rw[Cg A7];simpa using hfz
      ·rw[vA]at hj;simp only[vQ,Ap,wH,vG];by_cases hj1:j<len*ti.size
       ·rw[vP A7,vP A7,uY,vP hj1];have:=hcells j hj1;simpa using this
       ·have hmin:min (len*ti.size) arr.toList.length=len*ti.size:=A7
        rw[hmin,vL hj1,vL (show ¬j<cs.length by omega),vP (show j-len*ti.size<ys.length by omega),h2]
     ·rintro⟨q,hq,q1,q2⟩;refine⟨q,hq,q1,q2,?_⟩;obtain⟨_,_,_,eq,_,_,_,k5,k6⟩:=hq;cases q with
      |none=>cases eq;have:=k5 rfl;omega
      |some c=>obtain⟨_,_,k7,_⟩:=k6 c rfl;cases eq;cases k7;rfl
 ·
  have hf:=hsrc.first w.drew rfl
  have hfo:=qV.first (P:=P) (w2:=w.drew) rfl
  have h63':¬(9223372036854775807<((len:Int)+(ly:Int))):=A7
  have hbb:(len+ly)*ti.bytes<=140737488355328:=by
   have:=xM hlim hby;omega
  have h48':¬(281474976710656<Builtin.nextslicecap (len+ly) cap*ti.bytes):=by
   have:=yW (by omega:cap<len+ly) hbb;omega
  have hge:len+ly<=grownCap w (len+ly) cap e:=by simp[grownCap,Question.cut]
  refine⟨.slice (some ⟨w.heap.size,0,none⟩) (len+ly) (grownCap w (len+ly) cap e),
   Dj w.drew (.cells (cs++ys++(Builtin.zeroCells z.cells (grownCap w (len+ly) cap e-(len+ly))).toList).toArray e),?_,?_⟩
  ·have harr:∀(a b:List Value) (zz:Array Value),(a++b++zz.toList).toArray=a.toArray++(b.toArray++zz):=λa b zz=>by
    apply yF;simp
   rw[harr];rcases hu with⟨e2,rfl⟩|rfl<;>(simp[Builtin.append_,uL ht,uL ht2,sizeOf,typeInfo,zeroValue,hi,hz,hlen,hroom,h63',h48',Question.forced,hf,hfo,newRow,newObj,grownCap];simp only[Sem.run,uK];simp[Dj])
  ·refine hs.dD.hU hL ⟨_,len+ly,_,rfl,by rw[uR,vA];omega,hge,A9,A9,λb hb=>?_⟩;cases hb;refine⟨_,(0,0),rfl,Hy _ _,?_, .inl rfl,λj hj=>?_⟩
   ·have:(Builtin.zeroCells z.cells (grownCap w (len+ly) cap e-(len+ly))).size=(grownCap w (len+ly) cap e-(len+ly))*ti.size:=by simp[Builtin.zeroCells,hzs]
    simp only[vI,uR,xC,this,h2,TG,wU];have:=uM ti.size hge;rw[vA]at this⊢;omega
   ·rw[vA]at hj;simp only[vQ];rw[uO A8]
theorem YV{t t2 e:TypeId}{s lx ly len cap:Nat}{cs ys:List Value}(ht:P.underlying t=some (.slice e))(he:ElemOk P e s)
  (hs:St A w F L) (hx:Rd (λ_=>True) w s vx cs) (hv:vx= .slice p len cap) (hcap:cap<lx+ly) (hsrc:Src P w t2 vy s ly ys) (hlx:cs.length=lx*s) (TG:ys.length=ly*s) (hlim:lx+ly<=XP):
  ∃v' w',(Builtin.append_ #[t,t2] ty #[vx,vy]).run P w= .ok v' w'/\St A w' F (.own s e v' (cs++ys)::L):=by
 subst hv;have qV:=hx;obtain⟨_,_,_,heq,h2,h3,h4,h5⟩:=hx;cases heq;obtain⟨ti,z,hi,hsz,hz,hzs,hby⟩:=he.ok;obtain⟨u,ht2,hu⟩:=hsrc.u;have hlen:=hsrc.len;have e1:len=lx:=uQ he.pos (h2.symm.trans hlx);subst e1;subst hsz;have cH:XP=17179869184:=rfl;rw[cH]at hlim;have hroom:¬len+ly<=cap:=A7
 have hf:=hsrc.first w.drew rfl
 have hfo:=qV.first (P:=P) (w2:=w.drew) rfl
 have h63':¬(9223372036854775807<((len:Int)+(ly:Int))):=A7
 have hbb:(len+ly)*ti.bytes<=140737488355328:=by
  have:=xM hlim hby;omega
 have h48':¬(281474976710656<Builtin.nextslicecap (len+ly) cap*ti.bytes):=by
  have:=yW (by omega:cap<len+ly) hbb;omega
 have hge:len+ly<=grownCap w (len+ly) cap e:=by simp[grownCap,Question.cut]
 refine⟨.slice (some ⟨w.heap.size,0,none⟩) (len+ly) (grownCap w (len+ly) cap e),
  Dj w.drew (.cells (cs++ys++(Builtin.zeroCells z.cells (grownCap w (len+ly) cap e-(len+ly))).toList).toArray e),?_,?_⟩
 ·have harr:∀(a b:List Value) (zz:Array Value),(a++b++zz.toList).toArray=a.toArray++(b.toArray++zz):=λa b zz=>by
   apply yF;simp
  rw[harr];rcases hu with⟨e2,rfl⟩|rfl<;>(simp[Builtin.append_,uL ht,uL ht2,sizeOf,typeInfo,zeroValue,hi,hz,hlen,hroom,h63',h48',Question.forced,hf,hfo,newRow,newObj,grownCap];simp only[Sem.run,uK];simp[Dj])
 ·refine hs.dD.JI _ _ ⟨_,len+ly,_,rfl,by rw[uR,vA];omega,hge,A9,A9,λb hb=>?_⟩;cases hb;refine⟨_,(0,0),rfl,Hy _ _,?_, .inl rfl,λj hj=>?_⟩
  ·have:(Builtin.zeroCells z.cells (grownCap w (len+ly) cap e-(len+ly))).size=(grownCap w (len+ly) cap e-(len+ly))*ti.size:=by simp[Builtin.zeroCells,hzs]
   simp only[vI,uR,xC,this,h2,TG,wU];have:=uM ti.size hge;rw[vA]at this⊢;omega
  ·rw[vA]at hj;simp only[vQ];rw[uO A8]
end Go.Lv
namespace Go.Lv
variable {P:Program} {n:Nat} {ops:Array Oper} {rest:List Oper} {K:Env->World->Prop} {σ:Env} {w:World}
variable {d:Nat} {ty:TypeId} {pos:String} {after:Array Edge} {A:Reg} {F:List Fact} {L:List Mob}
theorem XA{x y:Operand}{t t2 e:TypeId}{s i lx ly:Nat}{vx:Value}{cs ys:List Value}(ht:P.underlying t=some (.slice e))(he:ElemOk P e s)
  (hs:St A w F L) (hL:L[i]? =some (.own s e vx cs)) (hk:∃k,P.underlying t2=some (.int k)) (hyz:∀i z,P.info? e=some i->i.zero=some z->ys.toArray=Builtin.zeroCells z.cells ly) (h1:ys.all (·.oneCell')=true) (hlx:cs.length=lx*s) (TG:ys.length=ly*s) (hlim:lx+ly<=XP):
  ∃v' w',(Builtin.append_ #[t,t2] ty #[vx, .int .i64 (ly:Int)]).run P w= .ok v' w'/\St A w' F (L.set i (.own s e v' (cs++ys))):=by
 have hfr:=hs.front hL;obtain⟨o,hown,_,_⟩:=hfr.mobs;have qV:=Go.Lv.Hl hown;obtain⟨p,len,cap,rfl,h2,h3,h4,h5,h6⟩:=hown;obtain⟨ti,z,hi,hsz,hz,hzs,hby⟩:=he.ok;obtain⟨k,ht2⟩:=hk;have hyz:=hyz _ _ hi hz;have hLIM':XP=17179869184:=rfl;have hw64:IntKind.i64.wrap (ly:Int)=(ly:Int):=IS A7 (by rw[hLIM']at hlim;omega);have hneg:¬((ly:Int)<0):=A7
 have hb48:¬(281474976710656<(ly:Int)*(ti.bytes:Int)):=by
  have h1:ly*ti.bytes<=17179869184*4096:=xM (by rw[hLIM']at hlim;omega) hby;have h2:(ly:Int)*(ti.bytes:Int)=((ly*ti.bytes:Nat):Int):=by simp
  rw[h2];omega
 have e1:len=lx:=uQ he.pos (h2.symm.trans hlx);subst e1;subst hsz;have cH:XP=17179869184:=rfl;rw[cH]at hlim;by_cases hroom:len+ly<=cap
 ·by_cases hn:ly=0
  ·
   subst hn;have hys:ys=[]:=vS (by simpa using TG);subst hys;refine⟨.slice p len cap,w,?_,?_⟩
   ·cases p<;>simp[Builtin.append_,uL ht,uL ht2,sizeOf,typeInfo,hi,asInt,asIntOf,(by decide:IntKind.i64.wrap 0=0),hw64,hneg,hb48,h3,storeCells]
   ·rw[vK];have:L.set i (.own ti.size e (.slice p len cap) cs)=L:=by
     apply wJ;intro j;by_cases hj:i=j
     ·subst hj;rw[yI];simp[hL]
     ·rw[vJ hj]
    rw[this];exact hs
  ·
   cases o with
   |none=>have:=h5 rfl;omega
   |some b=>
    obtain⟨arr,fr,rfl,hb,hsz',hfz,hcells⟩:=h6 b rfl;have hst:=Ct (P:=P) b e fr ys (len*ti.size) 0 arr.toList w (by simpa using hb)
     (by have:=uM ti.size hroom;rw[vA]at this;simp;omega) (by simp;rcases hfz with h|h;exact .inr (.inr (xZ h.symm));exact .inr (.inl h)) (λv hv=>List.all_eq_true.1 h1 v hv)
    refine⟨.slice (some ⟨b,0,none⟩) (len+ly) cap,Ch w b (.cells (Ap arr.toList (len*ti.size) ys).toArray e fr),?_,?_⟩
    ·have h00:¬(ly*ti.size=0):=λh=>by have hpp:=he.pos;rcases Nat.mul_eq_zero.1 h with h|h<;>omega
     simp[Builtin.append_,uL ht,uL ht2,sizeOf,typeInfo,zeroValue,hi,hz,asInt,asIntOf,(by decide:IntKind.i64.wrap 0=0),hw64,hneg,hb48,hroom,Fj,h00,<-hyz]at hst⊢;simp[hst]
    ·have hbl:=lt_of_heap hb;have hal:arr.toList.length=arr.size:=by simp
     have rS:len*ti.size+ly*ti.size<=arr.toList.length:=by
      have:=uM ti.size hroom;rw[vA]at this;simp;omega
     refine hs.Za hL (b:=b) ⟨_,len,cap,rfl,h2,h3,h4,h5,h6⟩ ?_ ?_
     ·refine⟨_,len+ly,cap,rfl,by rw[uR,vA];omega,hroom,A9,A9,λb' hb'=>?_⟩;cases hb';refine⟨(Ap arr.toList (len*ti.size) ys).toArray,fr,rfl,by simp[Ch,hbl],?_,?_,λj hj=>?_⟩
      ·simp only[vI];rw[Cg A7];simpa using hsz'
      ·simp only[vI];rw[Cg A7];simpa using hfz
      ·rw[vA]at hj;simp only[vQ,Ap,wH,vG];by_cases hj1:j<len*ti.size
       ·rw[vP A7,vP A7,uY,vP hj1];have:=hcells j hj1;simpa using this
       ·have hmin:min (len*ti.size) arr.toList.length=len*ti.size:=A7
        rw[hmin,vL hj1,vL (show ¬j<cs.length by omega),vP (show j-len*ti.size<ys.length by omega),h2]
     ·rintro⟨q,hq,q1,q2⟩;refine⟨q,hq,q1,q2,?_⟩;obtain⟨_,_,_,eq,_,_,_,k5,k6⟩:=hq;cases q with
      |none=>cases eq;have:=k5 rfl;omega
      |some c=>obtain⟨_,_,k7,_⟩:=k6 c rfl;cases eq;cases k7;rfl
 ·
  have hfo:=qV.first (P:=P) (w2:=w.drew) rfl
  have h63':¬(9223372036854775807<((len:Int)+(ly:Int))):=A7
  have hbb:(len+ly)*ti.bytes<=140737488355328:=by
   have:=xM hlim hby;omega
  have h48':¬(281474976710656<Builtin.nextslicecap (len+ly) cap*ti.bytes):=by
   have:=yW (by omega:cap<len+ly) hbb;omega
  have hge:len+ly<=grownCap w (len+ly) cap e:=by simp[grownCap,Question.cut]
  refine⟨.slice (some ⟨w.heap.size,0,none⟩) (len+ly) (grownCap w (len+ly) cap e),
   Dj w.drew (.cells (cs++ys++(Builtin.zeroCells z.cells (grownCap w (len+ly) cap e-(len+ly))).toList).toArray e),?_,?_⟩
  ·have harr:∀(a b:List Value) (zz:Array Value),(a++b++zz.toList).toArray=a.toArray++(b.toArray++zz):=λa b zz=>by
    apply yF;simp
   rw[harr];have h00:¬(ly*ti.size=0):=λh=>by have hpp:=he.pos;rcases Nat.mul_eq_zero.1 h with h|h<;>omega
   simp[Builtin.append_,uL ht,uL ht2,sizeOf,typeInfo,zeroValue,hi,hz,asInt,asIntOf,(by decide:IntKind.i64.wrap 0=0),hw64,hneg,hb48,hroom,h63',h48',Question.forced,hfo,newRow,newObj,grownCap,h00,<-hyz];simp only[Sem.run,uK];simp[Dj]
  ·refine hs.dD.hU hL ⟨_,len+ly,_,rfl,by rw[uR,vA];omega,hge,A9,A9,λb hb=>?_⟩;cases hb;refine⟨_,(0,0),rfl,Hy _ _,?_, .inl rfl,λj hj=>?_⟩
   ·have:(Builtin.zeroCells z.cells (grownCap w (len+ly) cap e-(len+ly))).size=(grownCap w (len+ly) cap e-(len+ly))*ti.size:=by simp[Builtin.zeroCells,hzs]
    simp only[vI,uR,xC,this,h2,TG,wU];have:=uM ti.size hge;rw[vA]at this⊢;omega
   ·rw[vA]at hj;simp only[vQ];rw[uO A8]
end Go.Lv
namespace Go.Lv
variable{x y:Operand}{vx vy v:Value}
variable {P:Program} {n:Nat} {ops:Array Oper} {rest:List Oper} {K:Env->World->Prop} {σ:Env} {w:World}
variable {d:Nat} {ty:TypeId} {pos:String} {after:Array Edge} {A:Reg} {F:List Fact} {L:List Mob}
theorem WL.eU{t t2 e:TypeId}{s i lx ly:Nat}{cs ys:List Value}{L':Option Addr->Nat->Nat->List Mob}(ht:P.underlying t=some (.slice e))(he:ElemOk P e s)
  (hs:St A w F L) (hL:L[i]? =some (.own s e vx cs)) (hd:Nat.blt d n=true) (hx:ev σ x=vx) (hy:ev σ y=vy) (hsrc:Src P w t2 vy s ly ys) (h1:ys.all (·.oneCell')=true)
  (hlx:cs.length=lx*s) (TG:ys.length=ly*s) (hlim:lx+ly<=XP) (hL':∀p l c,L.set i (.own s e (.slice p l c) (cs++ys))=L' p l c) (h:∀p l c w',St A w' F (L' p l c)->WL P n ops rest K (Hi σ d (.slice p l c)) w'):
  WL P n ops (⟨some d, .call ⟨.builtin .append, #[x,y], #[t,t2]⟩,ty,pos,after,none⟩::rest) K σ w:=by
 obtain⟨v',w',hr,hs'⟩:=EI (P:=P) (ty:=ty) (x:=x) (y:=y) ht he hs hL hsrc h1 hlx TG hlim;obtain⟨p,l,c,rfl⟩:∃p l c,v'= .slice p l c:=by
  have hlt:i<L.length:=(List.getElem?_eq_some_iff.1 hL).1;obtain⟨o,ho⟩:=Bi.mem (A:=A) hs'.mobs (show(L.set i (.own s e v' (cs++ys)))[i]? =some (.own s e v' (cs++ys)) by simp[hlt]);obtain⟨p,l,c,h,_⟩:=ho;exact⟨p,l,c,h⟩
 refine .val rfl rfl hd (v:= .slice p l c) (w':=w') ?_ (h p l c w' (hL' p l c▸hs'));simp[execOp,resolve,invoke,builtin,hx,hy,hr]
theorem WL.append{t t2 e:TypeId}{s i lx ly:Nat}{cs ys:List Value}{L':Option Addr->Nat->Nat->List Mob}(ht:P.underlying t=some (.slice e))(ht2:∃e2,P.underlying t2=some (.slice e2))(he:ElemOk P e s)
  (hs:St A w F L) (hL:L[i]? =some (.own s e vx cs)) (hd:Nat.blt d n=true) (hx:ev σ x=vx) (hy:ev σ y=vy) (tJ:Rd (λ_=>True) w s vy ys) (h1:ys.all (·.oneCell')=true)
  (hlx:cs.length=lx*s) (TG:ys.length=ly*s) (hlim:lx+ly<=XP) (hL':∀p l c,L.set i (.own s e (.slice p l c) (cs++ys))=L' p l c) (h:∀p l c w',St A w' F (L' p l c)->WL P n ops rest K (Hi σ d (.slice p l c)) w'):
  WL P n ops (⟨some d, .call ⟨.builtin .append, #[x,y], #[t,t2]⟩,ty,pos,after,none⟩::rest) K σ w:=
 WL.eU ht he hs hL hd hx hy (Src.slice ht2 tJ TG he.pos) h1 hlx TG hlim hL' h
theorem St.freeze(hs:St A w F L){i s:Nat}{E:TypeId}{cs:List Value}{L':List Mob}(hL:L[i]? =some (.own s E v cs))(hL':L.eraseIdx i=L')(R:Reg)(hR:∀b,¬A b->R b):
  ∃A',(∀b,A b->A' b)/\St A' w (.rd R s v cs::F) L':=by
 subst hL';obtain⟨o,ho,h3,h4⟩:=(hs.front hL).mobs;have hrd:=Go.Lv.Hl ho;refine⟨λb=>A b\/o=some b,λ_ h=> .inl h,λb hb=>hb.elim (hs.lt b) (λh=>(h3 b h).2),λf hf=>?_,h4⟩;cases hf with
 |head=>exact hrd.step (λb hb=>⟨.inr hb,hR b (h3 b hb).1⟩) (λ_ _=>rfl)
 |tail _ hf=>exact f.step (hs.facts f hf) (λ_ h=> .inl h) (λ_ _=>rfl) (.refl _)
theorem St.QR(hs:St A w F L)(s:Nat)(E:TypeId):St A w F (.own s E (.slice none 0 0) []::L):=
 ⟨hs.lt,hs.facts,none,⟨none,0,0,rfl,A9,vD _,λ_=>rfl,λ_=>rfl,λb hb=>by cases hb⟩,(λb hb=>by cases hb),hs.mobs.Jg (λb hb=>hb.elim id (λh=>by cases h))⟩
theorem St.jF(hs:St A w F L){R:Reg}{s:Nat}{cs:List Value}(h:Rd (λb=>A b/\R b) w s v cs):St A w (.rd R s v cs::F) L:=hs.GY h
theorem bU(acc:List Value)(off:Nat):Ap acc off []=acc:=by simp[Ap]
theorem Zd(off:Nat):∀(cs:List Value) (j:Nat) (acc:List Value),off+j+cs.length<=acc.length->
  (cs.zipIdx j).foldl (λ(a:Array Value) (p:Value×Nat)=>a.setIfInBounds (off+p.2) p.1) acc.toArray=(Ap acc (off+j) cs).toArray
 |[],j,acc,_=>by simp[bU]
 |c::cs,j,acc,h=>by
  simp only[wE]at h;simp only[yK,List.foldl_cons];rw[List.setIfInBounds_toArray];have:=Zd off cs (j+1) (acc.set (off+j) c) A8;rw[this,<-vH,KO A8]
theorem XV(s:Nat):∀(vs:List Value) (k:Nat) (acc:List Value),(∀v∈vs,v.cells.size=s)->acc.length=(k+vs.length)*s->
  Instr.fill (λi=>some (i*s,s)) acc.toArray ((vs.zipIdx k).map λp=>(p.2,p.1))=some (acc.take (k*s)++(vs.map (·.cells.toList)).flatten).toArray
 |[],k,acc,_,hl=>by
  have:acc.take (k*s)=acc:=xJ (by simp at hl;omega);simp[Instr.fill,this]
 |v::vs,k,acc,hv,hl=>by
  have h1:=hv v (.head _);have hl':acc.length=k*s+s+vs.length*s:=by rw[hl,wE,vA,vA];omega
  have hf:=Zd (k*s) v.cells.toList 0 acc A8;have jW:v.cells.zipIdx.foldl (λcs (x:Value×Nat)=>cs.setIfInBounds (k*s+x.2) x.1) acc.toArray=(Ap acc (k*s) v.cells.toList).toArray:=by
   rw[<-Array.foldl_toList,Array.toList_zipIdx];simpa using hf
  have hrec:=XV s vs (k+1) (Ap acc (k*s) v.cells.toList) (λu hu=>hv u (.tail _ hu)) (by rw[Cg A8,hl,wE];congr 1;omega);simp only[yK,vN,Instr.fill];have hc:(decide (v.cells.size≠s)||decide (k*s+v.cells.size>acc.toArray.size))=false:=by simp;omega
  rw[vL (by rw[hc];simp)]
  show Instr.fill _ (v.cells.zipIdx.foldl (λcs (x:Value×Nat)=>cs.setIfInBounds (k*s+x.2) x.1) acc.toArray) _=_;rw[jW,hrec];congr 2;have e1:(k+1)*s=k*s+v.cells.toList.length:=by rw[wP];simp[h1]
  rw[e1,yG,<-vT];congr 1;simp only[Ap];rw[<-vT,xQ A8,xJ A8]
theorem eZ(z:Array Value)(m:Nat):∃zs:List Value,((Array.range m).map λx=>z[x %z.size]!)=zs.toArray/\zs.length=m:=
 ⟨((Array.range m).map λx=>z[x %z.size]!).toList,by rw[yT],A9⟩
theorem WL.buildSlice{t e:TypeId}{len s:Nat}{parts:List (Nat×Operand)}{vs cells:List Value}(ht:P.underlying t=some (.slice e))(he:ElemOk P e s)(hs:St A w F L)(hd:Nat.blt d n=true)
  (hp:(parts.map λp=>(p.1,ev σ p.2))=(vs.zipIdx 0).map λp=>(p.2,p.1)) (hl:vs.length=len) (hlen:Nat.ble (len*s) 4096=true) (h1:∀v∈vs,v.cells.size=s)
  (hcells:(vs.map (·.cells.toList)).flatten=cells)
  (h:∀p l c w',St A w' F (.own s e (.slice p l c) cells::L)->WL P n ops rest K (Hi σ d (.slice p l c)) w'):
  WL P n ops (⟨some d, .buildSlice t len parts.toArray,ty,pos,after,none⟩::rest) K σ w:=by
 subst hl;have hlen':vs.length*s<=4096:=by simpa using hlen
 obtain⟨ti,z,hi,hsz,hz,hzs,hby⟩:=he.ok;have hcl:cells.length=vs.length*s:=by
  rw[<-hcells];clear hp h hcells hlen hlen'
  induction vs with
  |nil=>simp
  |cons v vs ih=>
   simp only[vN,yG,uR,wE,xC];rw[ih (λu hu=>h1 u (.tail _ hu)),h1 v (.head _),wP];omega
 have hrun:(newRow e cells.toArray).run P w= .ok ⟨w.heap.size,0,none⟩ (Dj w (.cells cells.toArray e)):=rfl;have hfz:∀z0:Array Value,Instr.fill (λi=>some (i*s,s)) (Array.map (λx=>z0[x %z0.size]!) (Array.range (vs.length*s))) ((vs.zipIdx 0).map λp=>(p.2,p.1))=some cells.toArray:=λz0=>by
  obtain⟨zs,rT,rU⟩:=eZ z0 (vs.length*s);have hf:=XV s vs 0 zs h1 (by rw[rU];simp);simp only[zA,yD,wS,hcells]at hf;rw[rT,hf]
 have hzv:(zeroValue e).run P w= .ok z w:=by simp[zeroValue,typeInfo,hi,hz]
 refine .val rfl rfl hd (v:= .slice (some ⟨w.heap.size,0,none⟩) vs.length vs.length) (w':=Dj w (.cells cells.toArray e)) ?_ (h _ _ _ _ (hs.JI _ _ ⟨_,vs.length,vs.length,rfl,hcl,vD _,A9,A9,λb hb=>?_⟩))
 ·simp only[execOp,Instr.buildSlice,uP,uL ht,uK,As he.size];rw[vL A7];have hp2:(Array.map (λ(x:Nat×Operand)=>(x.1,ev σ x.2)) parts.toArray).toList=(vs.zipIdx 0).map λp=>(p.2,p.1):=by rw[List.map_toArray,hp]
  rw[hp2];split<;>simp only[uP,uT,hzv,uK,hfz,hrun]
 ·cases hb;exact⟨cells.toArray,(0,0),rfl,Hy _ _,by simpa using hcl, .inl rfl,λi hi=>by simp⟩
end Go.Lv
namespace Go.Lv
variable{a:Act}{fn:Func}{v:Value}
variable {P:Program} {n:Nat} {ops:Array Oper} {rest:List Oper} {K:Env->World->Prop} {σ:Env} {w:World}
variable {d:Nat} {ty:TypeId} {pos:String} {after:Array Edge} {A:Reg} {F:List Fact} {L:List Mob}
def BZ(l:List Value):Env:=λt=>l.getD t undef
def So(P:Program)(σ:Env)(w:World):ResultVar->Value->Prop
 | .tmp t,v=>σ t=v
 | .cell a t,v=>∃ad,σ a= .pointer (some ad)/\ (loadVar t ad).run P w= .ok v w
def AX(P:Program)(σ:Env)(w:World):List ResultVar->List Value->Prop
 |[],[]=>True
 |r::rs,v::vs=>So P σ w r v/\AX P σ w rs vs
 |_,_=>False
def Om(vs:List Value):Value:=match vs with|[v]=>v|_=> .tuple vs.toArray
def QJ(tmps:Array Value):ResultVar->Sem Value
 | .tmp t=>pure (tmps.getD t undef)
 | .cell a t=>do loadVar t (<-asAddr (tmps.getD a undef))
theorem bW{ds:List Deferred}{r:ResultVar}(ha:Fits ds n a σ)(h:So P σ w r v):(QJ a.tmps r).run P w= .ok v w:=by
 cases r with
 |tmp t=>
  simp only[So]at h;simp only[QJ,ha.get,h,uT]
 |cell ad t=>
  obtain⟨x,h4,h5⟩:=h;simp only[QJ,ha.get,h4,asAddr,uP,uT,uK,h5]
theorem OC{ds:List Deferred}{a:Act}(ha:Fits ds n a σ):∀(rs:List ResultVar) (vs:List Value),AX P σ w rs vs-> (rs.mapM (QJ a.tmps)).run P w= .ok vs w
 |[],[],_=>rfl
 |[],_::_,h=>h.elim
 |_::_,[],h=>h.elim
 |r::rs,v::vs,⟨h1,h2⟩=>by
  have h3:=OC ha rs vs h2;simp only[List.mapM_cons,uP,bW ha h1,uK,h3,uT]
theorem Ro{rs:List ResultVar}{ds:List Deferred}{vs:List Value}(hr:fn.results=rs.toArray)(ha:Fits ds n a σ)(h:AX P σ w rs vs):
  (results fn a.tmps).run P w= .ok (Om vs) w:=by
 have hk:=OC ha rs vs h;have e:results fn a.tmps=(do let vs<-fn.results.mapM (QJ a.tmps);pure (if h:vs.size=1 then vs[0]else .tuple vs)):=rfl;rw[e,hr,List.mapM_toArray];simp only[uP,map_eq_pure_bind,uT,uK,hk];congr 1
 match vs with
 |[]=>rfl
 |[v]=>rfl
 |a::b::r=>simp[Om]
theorem RY{f:FuncId}{c:Code}{rs:List ResultVar}{vs:List Value}{R:Ending->World->Prop}(hf:P.funcs[f]? =some fn)(hb:fn.body=some c)(hn:fn.ntmps=n)(hr:fn.results=rs.toArray)
  (hle:Nat.ble vs.length n=true)
  (h:W P n c (λe σ' w'=>(e= .ret\/e= .normal)/\∃us,AX P σ' w' rs us/\R (.returned (Om us)) w') (BZ vs) w):Calls P f vs.toArray w R:=by
 subst hn;have hle':vs.length<=fn.ntmps:=by simpa using hle
 refine calls_of_wp hf hb (wp_mono (h.wp ⟨by simp;omega,rfl,λt=>?_⟩) ?_)
 ·simp only[BZ,vC,uS,yP,vI,vQ];by_cases ht:t<vs.length
  ·simp[ht]
  ·rw[vL ht,wC A7];by_cases h2:t-vs.length<fn.ntmps-vs.length
   ·simp[wM,h2]
   ·simp[wM,h2]
 ·rintro e a' w' ⟨σ',hf',hh,us,h1,h2⟩;have hres:=Ro (P:=P) (w:=w') hr hf' h1;rcases hh with rfl|rfl<;>exact⟨hf'.defers,_,hres,h2⟩
theorem St.start(w:World):St (λb=>b<w.heap.size) w [.old (λ_=>False) w] []:=by
 refine⟨λ_ h=>h,λf hf=>?_,trivial⟩;cases hf with
 |head=>exact⟨.refl _,λb hb _=>⟨hb,rfl⟩⟩
 |tail _ h=>cases h
theorem Rd.start{R:Reg}{s:Nat}{cs:List Value}(h:Rd R w s v cs):Rd (λb=>b<w.heap.size/\R b) w s v cs:=by
 obtain⟨p,len,cap,h1,h2,h3,h4,h5⟩:=h;refine⟨p,len,cap,h1,h2,h3,h4,λhc=>?_⟩;obtain⟨b,off,arr,T,fr,e1,e2,e3,e4⟩:=h5 hc;exact⟨b,off,arr,T,fr,e1,⟨lt_of_heap e3,e2⟩,e3,e4⟩
end Go.Lv
namespace Go.Lv
variable{x:Operand}{v:Value}
variable {P:Program} {n:Nat} {ops:Array Oper} {rest:List Oper} {K:Env->World->Prop} {σ:Env} {w:World}
variable {d:Nat} {ty:TypeId} {pos:String} {after:Array Edge} {A:Reg} {F:List Fact} {L:List Mob}
@[reducible] def Nx {T:Type} {k:IntKind} [GI T k] (l:List T):List Value:=l.map iv
theorem dC(b:UInt8):iv b= .int .u8 (b.toNat:Int):=rfl
theorem X.sO{s t e:TypeId}{R:Reg}{l:List UInt8}(hs':P.underlying s=some (.slice e))(he:P.underlying e=some (.int .u8))(ht:P.underlying t=some .string)
  (hr:Rd R w 1 v (Nx l)) (hx:ev σ x=v):XO P σ w (.convert s t x) (sv l):=λ_ _ _ _ _=>by
 obtain⟨p,len,cap,rfl,h2,h3,h4,h5⟩:=hr;have hlen:l.length=len:=by simpa [Nx]using h2
 subst hlen;have hrun:(convert s t (.slice p l.length cap)).run P w= .ok (sv l) w:=by
  cases p with
  |none=>
   have:=h4 rfl;have:l=[]:=vS A7;subst this;rw[run_convert_bytes_string w s t e none _ _ hs' he ht];rfl
  |some a=>
   refine run_convert_bytes_back w s t e a cap l hs' he ht (λj hj=>?_);obtain⟨b,off,arr,T,fr,e1,_,e2,_,e3⟩:=h5 A7;cases e1;rw[Fj,cell_of e2,e3 j A7];simp[Nx,hj,dC]
 simp only[execOp,hx,uP,hrun,uK,uT]
theorem WL.sV{s t e:TypeId}{l:List UInt8}(hs':P.underlying s=some .string)(ht:P.underlying t=some (.slice e))(he:P.underlying e=some (.int .u8))(hs:St A w F L)
  (hd:Nat.blt d n=true) (hx:ev σ x=sv l) (h:∀p m c w',St A w' F (.own 1 e (.slice p m c) (Nx l)::L)->WL P n ops rest K (Hi σ d (.slice p m c)) w'):
  WL P n ops (⟨some d, .convert s t x,ty,pos,after,none⟩::rest) K σ w:=by
 have hr:=run_bytes_of_string (P:=P) w s t e ⟨l.toArray⟩ hs' ht he;have hsz:(⟨l.toArray⟩:ByteArray).size=l.length:=by simp[ByteArray.size]
 have hge:l.length<=grownCap w (⟨l.toArray⟩:ByteArray).size 0 e:=by rw[hsz];simp[grownCap,Question.cut]
 generalize hcap:grownCap w (⟨l.toArray⟩:ByteArray).size 0 e=cap at hr hge;have hw:(w.drew.alloc (.cells (bytesRow ⟨l.toArray⟩ cap) e ((bytesRow ⟨l.toArray⟩ cap).size,(bytesRow ⟨l.toArray⟩ cap).size+1)))=Dj w.drew (.cells (bytesRow ⟨l.toArray⟩ cap) e ((bytesRow ⟨l.toArray⟩ cap).size,(bytesRow ⟨l.toArray⟩ cap).size+1)):=rfl;rw[hw]at hr;refine .val rfl rfl hd (v:= .slice (some ⟨w.heap.size,0,none⟩) l.length cap) (w':=Dj w.drew (.cells (bytesRow ⟨l.toArray⟩ cap) e ((bytesRow ⟨l.toArray⟩ cap).size,(bytesRow ⟨l.toArray⟩ cap).size+1))) ?_ (h _ _ _ _ (hs.dD.JI _ _ ⟨_,l.length,cap,rfl,by simp[Nx],hge,A9,A9,λb hb=>?_⟩))
 ·rw[hsz]at hr;simp only[execOp,hx,uP,hr,uK,uT]
 ·cases hb;refine⟨_,_,rfl,Hy _ _,?_, .inr (vD _),λi hi=>?_⟩
  ·simp[bytesRow];omega
  ·have hi':i<l.length:=A7
   simp only[bytesRow];rw[Array.getElem?_append_left A8];simp[Nx,hi',dC]
def Mob.at_(b s:Nat)(E:TypeId)(m c:Nat)(cs:List Value):Mob where
 holds o w:=o=some b/\ (Mob.own s E (.slice (some ⟨b,0,none⟩) m c) cs).holds o w
 step h hs:=⟨h.1,(Mob.own s E _ cs).step h.2 hs⟩
theorem St.WS(hs:St A w F L){i s:Nat}{E:TypeId}{cs:List Value}(hL:L[i]? =some (.own s E v cs))(hne:0<cs.length):
  ∃b m c,v= .slice (some ⟨b,0,none⟩) m c/\St A w F (L.set i (.at_ b s E m c cs)):=by
 obtain⟨o,⟨p,len,cap,rfl,h2,h3,h4,h5,h6⟩,_,_⟩:=(hs.front hL).mobs;have hlen:0<len:=by
  rcases yA len with h|h
  ·rw[h,zA]at h2;omega
  ·exact h
 cases o with
 |none=>have:=h5 rfl;omega
 |some b=>
  obtain⟨arr,fr,rfl,_⟩:=h6 b rfl;refine⟨b,len,cap,rfl,hs.TU hL (λq hq=>⟨q,?_, .inl rfl⟩)⟩;refine⟨?_,hq⟩;obtain⟨_,_,_,e,_,_,_,k5,k6⟩:=hq;cases e;cases q with
  |none=>have:=k5 rfl;omega
  |some b'=>obtain⟨_,_,e,_⟩:=k6 b' rfl;cases e;rfl
theorem St.pX(hs:St A w F L){i b s m c:Nat}{E:TypeId}{cs:List Value}(hL:L[i]? =some (.at_ b s E m c cs)):St A w F (L.set i (.own s E (.slice (some ⟨b,0,none⟩) m c) cs)):=
 hs.TU hL (λq hq=>⟨q,hq.2, .inl rfl⟩)
theorem WL.gM{a:Operand}{t E:TypeId}{s j b m c k q:Nat}{cs cs' vs:List Value}{L':List Mob}(hs:St A w F L)(hL:L[j]? =some (.at_ b s E m c cs))(hsz:Dh P t q)
  (ha:ev σ a= .pointer (some ⟨b,k,none⟩)) (hx:ev σ x=v) (hv:v.cells=vs.toArray) (hl:vs.length=q) (h1:vs.all (·.oneCell')=true) (hle:k+q<=cs.length)
  (hc:Ap cs k vs=cs') (hL':L.set j (.at_ b s E m c cs')=L') (h:∀w',St A w' F L'->WL P n ops rest K σ w'):
  WL P n ops (⟨none, .store t a x,ty,pos,after,none⟩::rest) K σ w:=by
 obtain⟨o,ho,_,_⟩:=(hs.front hL).mobs;obtain⟨rfl,ho⟩:=ho;have ho':=ho;obtain⟨_,len,cap,e,h3,h4,h5,h5',h6⟩:=ho;cases e;obtain⟨arr,fr,e,hb,hsz',hfz,hcells⟩:=h6 b rfl;have hcl:cs.length<=arr.size:=by rw[h3,hsz'];exact uM _ h4
 have hr:=Ct (P:=P) b E fr vs k 0 arr.toList w (by simpa using hb) A8 (by simp;rcases hfz with h|h;exact .inr (.inr (xZ h.symm));exact .inr (.inl h)) (λv hv=>by simpa using List.all_eq_true.1 h1 v hv);simp only[xY]at hr;have hbl:=lt_of_heap hb;have hcs':cs'.length=cs.length:=by rw[<-hc];exact Cg A7
 have hget:∀i,i<m*s-> (Ap arr.toList k vs)[i]? =cs'[i]? :=λi hi=>by
  rw[<-hc];have jX:min k arr.toList.length=k:=by simp;omega
  have jY:min k cs.length=k:=A7
  simp only[Ap,wH,vG,jX,jY,uY,vV];by_cases h1:i<k
  ·rw[vP h1,vP h1,vP h1,vP h1];simpa using hcells i hi
  ·rw[vL h1,vL h1];by_cases h2:i-k<vs.length
   ·rw[vP h2,vP h2]
   ·rw[vL h2,vL h2];have e1:k+vs.length+(i-k-vs.length)=i:=A7
    rw[e1];simpa using hcells i hi
 refine .unit rfl rfl (w':=Ch w b (.cells (Ap arr.toList k vs).toArray E fr)) ?_ (h _ (hL'▸hs.Za hL (b:=b) ⟨rfl,ho'⟩ ⟨rfl,_,m,c,rfl,by rw[hcs',h3],h4,h5,h5',λb' hb'=>?_⟩ ?_))
 ·simp[execOp,ha,hx,Instr.storeAt,Instr.sureAddr,storeVar,As hsz,hv,hl,hr]
 ·cases hb';refine⟨(Ap arr.toList k vs).toArray,fr,rfl,by simp[Ch,hbl],?_,?_,λi hi=>?_⟩
  ·simp only[vI];rw[Cg A8];simpa using hsz'
  ·simp only[vI];rw[Cg A8];simpa using hfz
  ·simpa using hget i hi
 ·rintro⟨q,hq,q1,q2⟩;exact⟨q,hq,q1,q2,hq.1⟩
theorem PL(zs:List Value)(s:Nat)(hz:zs.length=s)(hp:0<s):∀(m i:Nat),i<m*s-> ((List.replicate m zs).flatten)[i]? =zs[i %s]?
 |0,i,h=>by simp at h
 |m+1,i,h=>by
  rw[List.replicate_succ,yG,wH];by_cases hi:i<zs.length
  ·rw[vP hi,Nat.mod_eq_of_lt A7]
  ·rw[vL hi,hz,PL zs s hz hp m (i-s) (by rw[wP]at h;omega)];congr 1
   conv=>rhs;rw[show i=(i-s)+s by omega,Nat.add_mod_right]
theorem WL.makeSlice{t e:TypeId}{lo co:Operand}{s m:Nat}{z:Value}{zs:List Value}(ht:P.underlying t=some (.slice e))(he:ElemOk P e s)(hz:∃i,P.info? e=some i/\i.zero=some z)(hzs:z.cells=zs.toArray)(hs:St A w F L)
  (hd:Nat.blt d n=true) (hl:ev σ lo=iv (m:Int)) (hc:ev σ co=iv (m:Int)) (hlim:m<=XP) (h:∀p l c w',St A w' F (.own s e (.slice p l c) ((List.replicate m zs).flatten)::L)->WL P n ops rest K (Hi σ d (.slice p l c)) w'):
  WL P n ops (⟨some d, .makeSlice t lo co,ty,pos,after,none⟩::rest) K σ w:=by
 obtain⟨ti,hi,hz⟩:=hz;obtain⟨ti',z',hi',hsz,hz',hzz,hby⟩:=he.ok;rw[hi]at hi';cases hi';rw[hz]at hz';cases hz';have hzl:zs.length=s:=by have:=congrArg Array.size hzs;simp at this;omega
 have cH:XP=17179869184:=rfl;rw[cH]at hlim;have hmb:m*ti.bytes<=70368744177664:=by have:=xM hlim hby;omega
 have hw:IntKind.i64.wrap (m:Int)=m:=by
  have:=IS (n:=(m:Int)) A7 A7;exact this
 have hcells:∀z0:Array Value,(z0=zs.toArray\/m*s=0)-> ((Array.range (m*s)).map λx=>z0[x %z0.size]!)=((List.replicate m zs).flatten).toArray:=by
  intro z0 h0;apply yF;apply wJ;intro i;simp only[Array.toList_map,Array.toList_range,vZ];by_cases hi:i<m*s
  ·rcases h0 with rfl|h0
   ·rw[PL zs s hzl he.pos m i hi,List.getElem?_range hi];have:i %s<zs.length:=by rw[hzl];exact Nat.mod_lt _ he.pos
    rw[uX this];simp[hzl,uX this]
   ·omega
  ·have e1:((List.replicate m zs).flatten).length=m*s:=by simp[hzl]
   rw[wC (by simpa using hi),wC (by rw[e1];omega)];rfl
 have e1:((List.replicate m zs).flatten).length=m*s:=by simp[hzl]
 have hzv:(zeroValue e).run P w= .ok z w:=by simp[zeroValue,typeInfo,hi,hz]
 have hsz':=As (P:=P) he.size w;have hti:(typeInfo e).run P w= .ok ti w:=by simp[typeInfo,hi]
 have rV:∀b:Nat,(askRoom b).run P w= .ok () w:=λb=>by unfold askRoom;split<;>rfl
 have hrun:(newRow e ((List.replicate m zs).flatten).toArray).run P w= .ok ⟨w.heap.size,0,none⟩ (Dj w (.cells ((List.replicate m zs).flatten).toArray e)):=rfl;refine .val rfl rfl hd (v:= .slice (some ⟨w.heap.size,0,none⟩) m m) (w':=Dj w (.cells ((List.replicate m zs).flatten).toArray e)) ?_ (h _ _ _ _ (hs.JI _ _ ⟨_,m,m,rfl,e1,vD _,A9,A9,λb hb=>?_⟩))
 ·have c1:(decide ((m:Int)<0)||decide ((ti.bytes:Int)*m>2^48))=false:=by
   have h3:(ti.bytes:Int)*m<=70368744177664:=by
    have h:=Int.ofNat_le.2 hmb;rw[Int.natCast_mul,Int.mul_comm]at h;exact h
   have h4:¬((m:Int)<0):=A7
   have h5:¬((ti.bytes:Int)*m>2^48):=by
    have:(2:Int)^48=281474976710656:=rfl;rw[this];omega
   rw[decide_eq_false h4,decide_eq_false h5];rfl
  simp only[execOp,Instr.makeSlice,hl,hc,iv,GI.toZ,uP,uL ht,uK,asInt,asIntOf,uT,hti,hw,c1];simp only[Bool.false_or,Bool.not_false,wX,vF,wQ];rw[vL A9];simp only[uP,rV,uK,hsz',wA];split
  ·rename_i h0;simp only[uP,uT,uK,hcells #[] (.inr h0),hrun]
  ·simp only[uP,uT,hzv,uK,hzs,hcells zs.toArray (.inl rfl),hrun]
 ·cases hb;exact⟨_,(0,0),rfl,Hy _ _,by simpa using e1, .inl rfl,λi hi=>by simp⟩
end Go.Lv
namespace Go.Lv
variable{op:Op}{pos:String}{ty:TypeId}{v:Value}
variable {P:Program} {n:Nat} {ops:Array Oper} {σ:Env} {w:World}
section
variable {Q:Exit->Act->World->Prop} {md:Region.Mode} {S:World->Prop} {T:Nat->Bool}
def Vr(P:Program)(md:Region.Mode)(ops:Array Oper)(Q:Exit->Act->World->Prop)(S:World->Prop)(T:Nat->Bool):Nat->Array Bool->Act->World->Prop
 |0,listed,a,w=>Region.ready md ops listed=[]/\Q .normal a w
 |fuel+1,listed,a,w=>
  (Region.ready md ops listed=[]->Q .normal a w)/\
  ∀i∈Region.ready md ops listed,wpOp P ops Q i (λa' w'=>(T i=true->S w')/\Vr P md ops Q S T fuel (listed.setIfInBounds i true) a' w') a w
theorem NS:∀(fuel:Nat) (listed:Array Bool) (a:Act) (w:World),Vr P md ops Q S T fuel listed a w->wpAny P md ops Q fuel listed a w
 |0,_,_,_,h=>h
 |fuel+1,_,_,_,h=>⟨h.1,λi hi=>zC (λa' w' h'=>NS fuel _ a' w' h'.2) (h.2 i hi)⟩
def oU(md:Region.Mode)(ops:Array Oper)(listed:Array Bool)(i j:Nat)(acc:List Nat):Bool:=
 !(listed.getD j true)&&(!(Nat.beq j i)&&(match ops[j]? with
  |some oj=>oj.after.any λe=>Region.binds md e&&(Nat.beq e.on i||acc.any (Nat.beq e.on))
  |none=>false))
def iZ(md:Region.Mode)(ops:Array Oper)(listed:Array Bool)(i:Nat)(k:List Nat->Bool):List Nat->List Nat->Bool
 |[],acc=>k acc
 |j::js,acc=>bif oU md ops listed i j acc then iZ md ops listed i k js (j::acc)else iZ md ops listed i k js acc
def oZ(md:Region.Mode)(ops:Array Oper)(listed:Array Bool)(i:Nat)(B:List Nat):Prop:=
 ∀j∈B,listed.getD j true=false/\∃oj,ops[j]? =some oj/\∃e∈oj.after,Region.binds md e=true/\ (e.on=i\/e.on∈B)
theorem WU{listed:Array Bool}{i:Nat}{k:List Nat->Bool}:∀(js acc:List Nat),oZ md ops listed i acc->iZ md ops listed i k js acc=true->∃B,oZ md ops listed i B/\k B=true
 |[],acc,h,hk=>⟨acc,h,hk⟩
 |j::js,acc,h,hk=>by
  unfold iZ at hk;cases hc:oU md ops listed i j acc with
  |false=>rw[hc]at hk;exact WU js acc h hk
  |true=>
   rw[hc]at hk;refine WU js _ ?_ hk;unfold oU at hc;simp only[uJ,vB]at hc;obtain⟨h1,h2,h3⟩:=hc;intro m hm;have hmon:∀{e:Edge},(e.on=i\/e.on∈acc)-> (e.on=i\/e.on∈j::acc):=λh=>h.imp id (λh=>wY _ h);rcases List.mem_cons.1 hm with rfl|hm
   ·refine⟨h1,?_⟩;cases ho:ops[m]? with
    |none=>rw[ho]at h3;cases h3
    |some oj=>
     rw[ho]at h3;obtain⟨e,he,hb⟩:=Array.any_eq_true'.1 h3;simp only[uJ,wV,List.any_eq_true]at hb;refine⟨oj,rfl,e,he,hb.1,hmon (hb.2.imp uV ?_)⟩;rintro⟨y,hy,he⟩;rw[uV he];exact hy
   ·obtain⟨h4,oj,h5,e,he,hb,hx⟩:=h m hm;exact⟨h4,oj,h5,e,he,hb,hmon hx⟩
theorem oZ.gE{listed:Array Bool}{i j:Nat}{B:List Nat}(h:oZ md ops listed i B)(hi:listed.getD i true=false)(hj:j∈Region.ready md ops listed):j∉B:=λhm=>by
 obtain⟨hjun,oj,hoj,hall⟩:=mem_ready.1 hj;obtain⟨_,oj',hoj',e,he,hb,hx⟩:=h j hm;rw[hoj]at hoj';cases hoj';have h0:listed.getD e.on true=false:=by
  rcases hx with hx|hx
  ·rw[hx];exact hi
  ·exact(h _ hx).1
 have h1:=hall e he hb;rcases wG e.on listed.size with h'|h'
 ·simp[h']at h0 h1;rw[h0]at h1;cases h1
 ·simp[xI h']at h1
theorem Wh{i:Nat}{oi:Oper}{B:List Nat}(hi:ops[i]? =some oi)(hsel:∀(j:Nat) (o:Oper) cs b,ops[j]? =some o->o.op≠ .select cs b)
  (hQ:∀c a w,Q (.panic c) (a.put oi.dst v) w->Q (.panic c) a w):
  ∀(fuel:Nat) (listed:Array Bool) (a:Act) (w:World),oZ md ops listed i B->
   (∀j,j<ops.size->T j=false->j≠i->listed.getD j true=false->j∈B)->
   (∀j oj,ops[j]? =some oj->j≠i->listed.getD j true=false->j∉B->oi.apart ops oj=true)->
   i∈Region.ready md ops listed->YieldsIf P ops S oi v a->S w->
   Vr P md ops Q S T fuel (listed.setIfInBounds i true) (a.put oi.dst v) w->Vr P md ops Q S T (fuel+1) listed a w:=by
 intro fuel
 induction fuel with
 |zero=>
  intro listed a w _ _ _ hr hy hS H;refine⟨λh=>(by rw[h]at hr;cases hr),λj hj=>?_⟩;by_cases hji:j=i
  ·subst hji;exact hy.wpOp hi hS ⟨λ_=>hS,H⟩
  ·have:=ready_mono hj hji;rw[H.1]at this;cases this
 |succ fuel ih=>
  intro listed a w hblk hT hfree hr hy hS H;refine⟨λh=>(by rw[h]at hr;cases hr),λj hj=>?_⟩;by_cases hji:j=i
  ·subst hji;exact hy.wpOp hi hS ⟨λ_=>hS,H⟩
  ·have h1:=H.2 j (ready_mono hj hji);obtain⟨hjun,oj,hoj,hall⟩:=mem_ready.1 hj;have rW:=hblk.gE (mem_ready.1 hr).1 hj;have tK:T j=true:=by
    cases h:T j with
    |true=>rfl
    |false=>exact absurd (hT j (Array.getElem?_eq_some_iff.1 hoj).1 h hji hjun) rW
   have h2:=wpOp_putIf hoj (hfree j oj hoj hji hjun rW) (λcs b=>hsel i oi cs b hi) (λcs b=>hsel j oj cs b hoj) hQ hy h1;have hmono:∀k,(listed.setIfInBounds j true).getD k true=false->listed.getD k true=false:=λk hun=>by
    by_cases hjk:j=k
    ·subst hjk;exact hjun
    ·rw[zD true hjk]at hun;exact hun
   have hblk':oZ md ops (listed.setIfInBounds j true) i B:=λk hk=>by
    refine⟨?_,(hblk k hk).2⟩;have hjk:j≠k:=λh=>rW (by rw[h];exact hk);rw[zD true hjk];exact(hblk k hk).1
   refine zC (λa' w' h3=>⟨h3.2.1,ih (listed.setIfInBounds j true) a' w' hblk' (λk hk h hki hun=>hT k hk h hki (hmono k hun)) (λk ok hk hki hun hno=>hfree k ok hk hki (hmono k hun) hno) (ready_mono hr (xE hji)) h3.1 (h3.2.1 tK) ?_⟩) h2;rw[Array.setIfInBounds_comm _ _ hji];exact h3.2.2
def XJ(ops:Array Oper)(T:Nat->Bool)(listed:Array Bool)(i:Nat)(oi:Oper)(B:List Nat):Bool:=
 (List.range ops.size).all λj=>listed.getD j true||(Nat.beq j i||(B.any (Nat.beq j)||(T j&&match ops[j]? with
  |some oj=>oi.apart ops oj
  |none=>true)))
theorem Kq{listed:Array Bool}{i:Nat}{oi:Oper}{B:List Nat}(h:XJ ops T listed i oi B=true):
  (∀j,j<ops.size->T j=false->j≠i->listed.getD j true=false->j∈B)/\
  (∀j oj,ops[j]? =some oj->j≠i->listed.getD j true=false->j∉B->oi.apart ops oj=true):=by
 unfold XJ at h;simp only[xR,List.mem_range,wV,uJ,List.any_eq_true]at h;refine⟨λj hj hT hji hun=>?_,λj oj hoj hji hun hno=>?_⟩
 ·rcases h j hj with h1|h1|⟨y,hy,h1⟩|h1
  ·rw[hun]at h1;cases h1
  ·exact absurd (uV h1) hji
  ·rw[uV h1];exact hy
  ·have h2:=h1.1;rw[hT]at h2;cases h2
 ·rcases h j (Array.getElem?_eq_some_iff.1 hoj).1 with h1|h1|⟨y,hy,h1⟩|h1
  ·rw[hun]at h1;cases h1
  ·exact absurd (uV h1) hji
  ·exact absurd (by rw[uV h1];exact hy) hno
  ·have h2:=h1.2;rw[hoj]at h2;exact h2
end
def WD(P:Program)(n:Nat)(ops:Array Oper)(S:World->Prop)(T:Nat->Bool)(fuel:Nat)(listed:Array Bool)(K:Env->World->Prop)(σ:Env)(w:World):Prop:=
 ∀(ds:List Deferred) (a:Act),Fits ds n a σ->Vr P .any ops (λe a' w'=>e=Exit.normal/\∃σ',Fits ds n a' σ'/\K σ' w') S T fuel listed a w
variable {Q:Exit->Env->World->Prop} {K:Env->World->Prop} {S:World->Prop} {T:Nat->Bool} {fuel:Nat} {listed:Array Bool}
theorem W.lX{id:Nat}(hd:CU ops.toList=true)(hm:P.follows .mixedOrders=true)(S:World->Prop)(T:Nat->Bool)
  (h:∀w',w'.heap=w.heap->Gr w w'->WD P n ops S T ops.size (Array.replicate ops.size false) (λσ' w'=>Q .normal σ' w') σ w'):W P n (.region id ops true) Q σ w:=by
 intro ro m ds a ha;refine vX (wpIn_region_any hm (XY (Z:=λa' w'=>∃σ',Fits ds n a' σ'/\Q .normal σ' w') (NP hd) (NS (S:=S) (T:=T) _ _ _ _ (h {w with drawn:=w.drawn+1} rfl ⟨vD _,rfl,rfl,rfl⟩ ds a ha)))) ?_;rintro e a' w' ⟨rfl,h⟩;exact h
def Iq(ops:Array Oper)(T:Nat->Bool)(listed:Array Bool)(i:Nat):Bool:=
 Region.noSelect ops&&((Region.ready .any ops listed).contains i&&match ops[i]? with
  |some oi=>iZ .any ops listed i (XJ ops T listed i oi) (List.range ops.size) []
  |none=>false)
theorem EN{i:Nat}{oi:Oper}(hi:ops[i]? =some oi)(hB:Iq ops T listed i=true):∃B,oZ .any ops listed i B/\XJ ops T listed i oi B=true:=by
 simp only[Iq,uJ,hi]at hB;exact WU _ _ (λj hj=>by cases hj) hB.2.2
theorem WD.take{o:Oper}{d:Nat}(i:Nat)(hi:ops[i]? =some o)(hB:Iq ops T listed i=true)(hd:o.dst=some d)(hdn:Nat.blt d n=true)(hg:o.guard=none)
  (hS:S w) (hx:∀w',S w'-> (execOp (ev σ) o).run P w'= .ok (.value v) w') (h:WD P n ops S T fuel (listed.setIfInBounds i true) K (Hi σ d v) w):WD P n ops S T (fuel+1) listed K σ w:=by
 intro ds a ha;obtain⟨B,hblk,hcl⟩:=EN hi hB;simp only[Iq,uJ]at hB;refine Wh (v:=v) hi (xT hB.1) (λc a w h=>absurd h.1 A9) fuel listed a w hblk (Kq hcl).1 (Kq hcl).2 (by simpa using hB.2.1) (.inl ⟨by simp[Region.wanted,hg],λw' hw'=>by rw[ha.eval];exact hx w' hw'⟩) hS ?_;rw[hd];exact h _ _ (ha.put hdn v)
theorem WD.x{d:Nat}{after:Array Edge}(i:Nat)(hi:ops[i]? =some ⟨some d,op,ty,pos,after,none⟩)(hB:Iq ops T listed i=true)(hdn:Nat.blt d n=true)
  (hS:S w) (hx:∀w',S w'->XO P σ w' op v) (h:WD P n ops S T fuel (listed.setIfInBounds i true) K (Hi σ d v) w):WD P n ops S T (fuel+1) listed K σ w:=
 WD.take i hi hB rfl hdn rfl hS (λw' hw'=>hx w' hw' _ _ _ _ _) h
theorem WD.gx{d j t:Nat}{after:Array Edge}{want b:Bool}(i:Nat)(hi:ops[i]? =some ⟨some d,op,ty,pos,after,some (j,want)⟩)(hB:Iq ops T listed i=true)(hdn:Nat.blt d n=true)
  (hj:(ops[j]?).bind (·.dst)=some t) (hb:σ t= .bool b) (hS:S w) (hx:(b==want)=true->∀w',S w'->XO P σ w' op v)
  (h:WD P n ops S T fuel (listed.setIfInBounds i true) K (Hi σ d (gv b want v)) w):WD P n ops S T (fuel+1) listed K σ w:=by
 intro ds a ha;obtain⟨B,hblk,hcl⟩:=EN hi hB;simp only[Iq,uJ]at hB;refine Wh (v:=gv b want v) hi (xT hB.1) (λc a w h=>absurd h.1 A9) fuel listed a w hblk (Kq hcl).1 (Kq hcl).2 (by simpa using hB.2.1) ?_ hS (h _ _ (ha.put hdn _));by_cases hbw:(b==want)=true
 ·refine .inl ⟨?_,λw' hw'=>?_⟩
  ·simp only[Region.wanted,Rb ha hj hb];cases b<;>cases want<;>simp_all
  ·rw[OA hbw,ha.eval];exact hx hbw w' hw' _ _ _ _ _
 ·refine .inr ⟨?_,?_⟩
  ·simp only[Region.wanted,Rb ha hj hb];cases b<;>cases want<;>simp_all
  ·unfold gv;rw[vL hbw]
theorem WD.step(i:Nat){o:Oper}(hi:ops[i]? =some o)(hr:Region.ready .any ops listed=[i])
  (h:WL P n ops [o] (λσ' w'=>(T i=true->S w')/\WD P n ops S T fuel (listed.setIfInBounds i true) K σ' w') σ w):WD P n ops S T (fuel+1) listed K σ w:=by
 intro ds a ha;refine⟨λh0=>absurd (hr▸h0) A9,λj hj=>?_⟩;rw[hr]at hj;have hji:j=i:=by simpa using hj
 subst hji;have h1:=h ds a ha;simp only[wpList]at h1;unfold wpOp;simp only[hi];split
 ·rename_i hw;rw[vP hw]at h1;rcases h1 with h1|⟨_,_,_,hh,_⟩
  ·exact .inl (Oper.bE h1 (λa' w' h=>by obtain⟨_,σ',hf,h2,h3⟩:=h;exact⟨h2,h3 ds a' hf⟩))
  ·exact absurd hh A9
 ·rename_i hw;rw[vL hw]at h1;obtain⟨_,σ',hf,h2,h3⟩:=h1;exact⟨h2,h3 _ _ hf⟩
theorem WD.done(hr:Region.ready .any ops listed=[])(h:K σ w):WD P n ops S T fuel listed K σ w:=by
 intro ds a ha;cases fuel with
 |zero=>exact⟨hr,rfl,σ,ha,h⟩
 |succ f=>exact⟨λ_=>⟨rfl,σ,ha,h⟩,by rw[hr];intro i hi;cases hi⟩
theorem CF{md:Region.Mode}{Q:Exit->Act->World->Prop}{S S':World->Prop}{T:Nat->Bool}(h:∀w,S' w->S w):∀(fuel:Nat) (listed:Array Bool) (a:Act) (w:World),Vr P md ops Q S' T fuel listed a w->Vr P md ops Q S T fuel listed a w
 |0,_,_,_,h1=>h1
 |fuel+1,_,_,_,h1=>⟨h1.1,λi hi=>zC (λa' w' h'=>⟨λht=>h _ (h'.1 ht),CF h fuel _ a' w' h'.2⟩) (h1.2 i hi)⟩
theorem WD.steps{is:List Nat}(hr:Region.ready .any ops listed=is)(hne:is.isEmpty=false)
  (h:∀i∈is,∃o,ops[i]? =some o/\WL P n ops [o] (λσ' w'=>(T i=true->S w')/\WD P n ops S T fuel (listed.setIfInBounds i true) K σ' w') σ w):WD P n ops S T (fuel+1) listed K σ w:=by
 intro ds a ha;refine⟨λh0=>absurd (hr▸h0) (by intro h;rw[h]at hne;cases hne),λj hj=>?_⟩;rw[hr]at hj;obtain⟨o,hi,h⟩:=h j hj;have h1:=h ds a ha;simp only[wpList]at h1;unfold wpOp;simp only[hi];split
 ·rename_i hw;rw[vP hw]at h1;rcases h1 with h1|⟨_,_,_,hh,_⟩
  ·exact .inl (Oper.bE h1 (λa' w' h=>by obtain⟨_,σ',hf,h2,h3⟩:=h;exact⟨h2,h3 ds a' hf⟩))
  ·exact absurd hh A9
 ·rename_i hw;rw[vL hw]at h1;obtain⟨_,σ',hf,h2,h3⟩:=h1;exact⟨h2,h3 _ _ hf⟩
theorem LA{md:Region.Mode}{Q:Exit->Act->World->Prop}{S S':World->Prop}{T T':Nat->Bool}:∀(fuel:Nat) (listed:Array Bool) (a:Act) (w:World),(∀i,listed.getD i true=false->T i=false)->Vr P md ops Q S' T' fuel listed a w->Vr P md ops Q S T fuel listed a w
 |0,_,_,_,_,h=>h
 |fuel+1,listed,a,w,h1,h=>⟨h.1,λi hi=>zC (λa' w' h'=>⟨λhlt=>absurd (h1 i (mem_ready.1 hi).1) (by rw[hlt];decide),LA fuel _ a' w' (λj hj=>h1 j (by
   by_cases hji:j=i
   ·subst hji;exact(mem_ready.1 hi).1
   ·rw[zD true (xE hji)]at hj;exact hj)) h'.2⟩) (h.2 i hi)⟩
def Ql(T:Nat->Bool)(listed:Array Bool):Bool:=(List.range listed.size).all λi=>!T i||listed.getD i false
theorem WD.next{S':World->Prop}(T':Nat->Bool)(hB:Ql T listed=true)(h:WD P n ops S' T' fuel listed K σ w):WD P n ops S T fuel listed K σ w:=by
 intro ds a ha;refine LA (S':=S') (T':=T') fuel listed a w (λi hi=>?_) (h ds a ha);simp only[Ql,xR,List.mem_range,wV]at hB;rcases wG i listed.size with h'|h'
 ·rcases hB i h' with h2|h2
  ·simpa using h2
  ·rw[vC]at hi h2;simp[h']at hi h2;rw[h2]at hi;cases hi
 ·rw[vC,xI h']at hi;simp at hi
theorem WD.PX{S':World->Prop}(h:∀w,S' w->S w)(h1:WD P n ops S' T fuel listed K σ w):WD P n ops S T fuel listed K σ w:=
 λds a ha=>CF h fuel listed a w (h1 ds a ha)
end Go.Lv
namespace Go.Lv
variable{i:Int}
variable {P:Program} {n:Nat} {ops:Array Oper} {rest:List Oper} {K:Env->World->Prop} {Q:Exit->Env->World->Prop} {σ:Env} {w:World}
variable {d:Nat} {ty:TypeId} {pos:String} {after:Array Edge} {A:Reg} {F:List Fact} {L:List Mob}
theorem bind_some{α β:Type}{o:Option α}{f:α->Option β}{y:β}(h:Option.bind o f=some y):∃x,o=some x/\f x=some y:=by
 cases o with
 |none=>cases h
 |some x=>exact⟨x,rfl,h⟩
theorem Dk{α:Type}{l:List α}{x:α}(h:Ag l i=some x):i=(i.toNat:Int)/\i.toNat<l.length/\l[i.toNat]? =some x:=by
 unfold Ag at h;split at h
 ·exact⟨A7,(List.getElem?_eq_some_iff.1 h).1,h⟩
 ·cases h
theorem Ui{α:Type}{l l':List α}{x:α}(h:Ee l i x=some l'):i=(i.toNat:Int)/\i.toNat<l.length/\l'=l.set i.toNat x:=by
 unfold Ee at h;split at h
 ·cases h;exact⟨A7,A7,rfl⟩
 ·cases h
theorem Pb{α:Type}{l x:List α}{lo hi:Int}(h:Bu l lo hi=some x):lo=(lo.toNat:Int)/\hi=(hi.toNat:Int)/\lo.toNat<=hi.toNat/\hi.toNat<=l.length/\x=(l.take hi.toNat).drop lo.toNat:=by
 unfold Bu at h;split at h
 ·cases h;exact⟨A7,A7,A7,A7,rfl⟩
 ·cases h
theorem IL{α:Type}{l m x:List α}(h:Bb l m=some x):l.length+m.length<=XP/\x=l++m:=by
 unfold Bb at h;split at h
 ·cases h;exact⟨by assumption,rfl⟩
 ·cases h
theorem YS{α:Type}{z:α}{x:List α}(h:TC i z=some x):i=(i.toNat:Int)/\i.toNat<=XP/\x=List.replicate i.toNat z:=by
 unfold TC at h;split at h
 ·rename_i hi;cases h;exact⟨A7,A7,rfl⟩
 ·cases h
theorem Ie{b:Bool}{u:Unit}(h:Ef b=some u):b=true:=by
 unfold Ef at h;split at h
 ·assumption
 ·cases h
theorem St.sN(hs:St A w F L):St A w [] L:=⟨hs.lt,(λ_ h=>by cases h),hs.mobs⟩
theorem St.as(hs:St A w F L){F':List Fact}{L':List Mob}(hF:F=F')(hL:L=L'):St A w F' L':=hF▸hL▸hs
section
variable {T:Type} {k:IntKind} [GI T k]
theorem lE(l:List T):(Nx l).all (·.oneCell')=true:=by simp[Nx,Value.oneCell']
end
theorem Rd.any{R:Reg}{s:Nat}{v:Value}{cs:List Value}(h:Rd R w s v cs):Rd (λ_=>True) w s v cs:=h.step (λ_ _=>trivial) (λ_ _=>rfl)
end Go.Lv
namespace Go
theorem B0{p:Prop}(h:p:=by decide):p:=h
end Go
namespace Go.Lv
variable{a m:Int}
variable {P:Program} {n:Nat} {ops:Array Oper} {rest:List Oper} {K:Env->World->Prop} {Q:Exit->Env->World->Prop} {σ:Env} {w:World}
variable {d:Nat} {ty:TypeId} {pos:String} {after:Array Edge} {A:Reg} {F:List Fact} {L:List Mob}
theorem Dh.mk{t:TypeId}{s:Nat}(h:(P.info? t).map (·.size)=some s):Dh P t s:=by
 cases hu:P.info? t with
 |none=>rw[hu]at h;cases h
 |some u=>rw[hu]at h;exact⟨u,hu,by simpa using h⟩
theorem rX.mk{t:TypeId}{z:Value}(h:(P.info? t).bind (·.zero)=some z):∃i,P.info? t=some i/\i.zero=some z:=by
 cases hu:P.info? t with
 |none=>rw[hu]at h;cases h
 |some u=>rw[hu]at h;exact⟨u,rfl,h⟩
def fieldInfo(P:Program)(t:TypeId)(f:Nat):Option (Nat×Nat):=
 match P.underlying t with
 |some (.struct fs)=>(fs[f]?).bind λfd=>(P.info? fd.type).map λi=>(fd.offset,i.size)
 |_=>none
theorem BJ.mk{t:TypeId}{f k s:Nat}(h:fieldInfo P t f=some (k,s))(hs:s≠0):BJ P t f k:=by
 unfold fieldInfo at h;split at h
 ·rename_i fs hu;cases hf:fs[f]? with
  |none=>rw[hf]at h;cases h
  |some fd=>
   rw[hf]at h;simp at h;obtain⟨i,hi,h1,h2⟩:=h;exact⟨fs,fd,i,hu,hf,h1,hi,A7⟩
 ·cases h
theorem So.cell{a:Tmp}{t T:TypeId}{i b off:Nat}{cells:List Value}{v:Value}(hs:St A w F L)(hL:L[i]? =some (.box b cells T))(ht:Plain P t)
  (hx:σ a= .pointer (some ⟨b,off,none⟩)) (hv:cells[off]? =some v):So P σ w (.cell a t) v:=by
 obtain⟨u,hu,hp⟩:=ht;have hc:w.cell? ⟨b,off,none⟩=some v:=by rw[cell_of (hs.box hL)];simpa using hv
 exact⟨_,hx,by simp only[loadVar,uP,Ca hu hp,uK,vF,wQ,Mq hc]⟩
theorem So.cells{a:Tmp}{t T:TypeId}{i b off s:Nat}{cells vs:List Value}(hs:St A w F L)(hL:L[i]? =some (.box b cells T))(ht:nT P t)(hsz:Dh P t s)
  (hx:σ a= .pointer (some ⟨b,off,none⟩)) (hv:(cells.drop off).take s=vs) (hl:vs.length=s):So P σ w (.cell a t) (.agg vs.toArray):=by
 obtain⟨u,hu,hp⟩:=ht;have hc:=Eu (P:=P) (w:=w) (b:=b) (off:=off) vs (λj hj=>by
  rw[cell_of (hs.box hL)];subst hv;rw[vG]at hj;simp[uY,vV];omega)
 rw[hl]at hc;exact⟨_,hx,by simp only[loadVar,uP,Ca hu hp,uK,yB,As hsz,hc,uT]⟩
theorem St.iO(hs:St A w F L){w':World}(h:w'.heap=w.heap)(hg:Gr w w'):St A w' F L:=
 hs.keep ⟨λb _=>by rw[h],hg⟩
theorem bD{b want:Bool}{v:Value}(h:(b==want)=false):gv b want v=undef:=by unfold gv;rw[vL (by rw[h];decide)]
theorem wrap_u8{n:Int}(h:0<=n)(h':n<256):IntKind.u8.wrap n=n:=by
 simp only[IntKind.wrap,IntKind.bits,IntKind.signed,wZ,vF,wQ];exact yH h h'
theorem wrap_u32{n:Int}(h:0<=n)(h':n<4294967296):IntKind.u32.wrap n=n:=by
 simp only[IntKind.wrap,IntKind.bits,IntKind.signed,wZ,vF,wQ];exact yH h h'
theorem wrap_u64{n:Int}(h:0<=n)(h':n<18446744073709551616):IntKind.u64.wrap n=n:=by
 simp only[IntKind.wrap,IntKind.bits,IntKind.signed,wZ,vF,wQ];exact yH h h'
theorem Bin.mW{t:TypeId}(a b:Int)(h:GI.toZ b≠0):Eb P .rem t (iv a) (iv b) (iv (Hw a b)):=λ_ _ w=>by
 have h':b≠0:=h;simp[eqGuard,binOp,Op.intDiv,Hw,iv,GI.toZ,h']
theorem WX{b:Int}(ha:0<=a)(h:a<m):0<=a.tmod b/\a.tmod b<m:=by
 have h1:=Int.tmod_nonneg b ha;have h2:=Int.natAbs_tmod a b;have h3:=Nat.mod_le a.natAbs b.natAbs;omega
theorem Bin.oG{t:TypeId}(a b:UInt8)(h:GI.toZ b≠0):Eb P .rem t (iv a) (iv b) (iv (WQ a b)):=λ_ _ w=>by
 have h1:(0:Int)<=GI.toZ a:=wD _;have h2:(GI.toZ a:Int)<256:=by have:=a.toNat_lt;show((a.toNat:Nat):Int)<256;omega
 obtain⟨h3,h4⟩:=WX (b:=GI.toZ b) h1 h2;simp[eqGuard,binOp,Op.intDiv,WQ,<-Gz,h,wrap_u8 h3 h4]
theorem Bin.mE{t:TypeId}(a b:UInt32)(h:GI.toZ b≠0):Eb P .rem t (iv a) (iv b) (iv (WQ a b)):=λ_ _ w=>by
 have h1:(0:Int)<=GI.toZ a:=wD _;have h2:(GI.toZ a:Int)<4294967296:=by have:=a.toNat_lt;show((a.toNat:Nat):Int)<4294967296;omega
 obtain⟨h3,h4⟩:=WX (b:=GI.toZ b) h1 h2;simp[eqGuard,binOp,Op.intDiv,WQ,<-Gz,h,wrap_u32 h3 h4]
theorem Bin.kG{t:TypeId}(a b:UInt64)(h:GI.toZ b≠0):Eb P .rem t (iv a) (iv b) (iv (WQ a b)):=λ_ _ w=>by
 have h1:(0:Int)<=GI.toZ a:=wD _;have h2:(GI.toZ a:Int)<18446744073709551616:=by have:=a.toNat_lt;show((a.toNat:Nat):Int)<18446744073709551616;omega
 obtain⟨h3,h4⟩:=WX (b:=GI.toZ b) h1 h2;simp[eqGuard,binOp,Op.intDiv,WQ,<-Gz,h,wrap_u64 h3 h4]
section
variable {T':Type} {k':IntKind} [GI T' k']
theorem Bin.lA{t:TypeId}(a:Int)(b:T')(h:0<=GI.toZ b):Eb P .shr t (iv a) (iv b) (iv (fT a (GI.toZ b).toNat)):=λ_ _ w=>by
 have:¬GI.toZ b<0:=A7
 simp[eqGuard,binOp,Op.shift,fT,iv,GI.toZ,this,IntKind.bits]
theorem VQ{q:Nat}(ha:0<=a)(h:a<m):0<=a.fdiv (2^q)/\a.fdiv (2^q)<m:=by
 have hp:(0:Int)<2^q:=Int.pow_pos B0;rw[xX _ A7];have h1:=Int.ediv_nonneg ha (Int.le_of_lt hp);have h2:=Int.ediv_le_self (2^q) ha;omega
theorem Bin.oW{t:TypeId}(a:UInt8)(b:T')(h:0<=GI.toZ b):Eb P .shr t (iv a) (iv b) (iv (Cd a (GI.toZ b).toNat)):=by
 have h1:(0:Int)<=GI.toZ a:=wD _;have h2:(GI.toZ a:Int)<256:=by have:=a.toNat_lt;show((a.toNat:Nat):Int)<256;omega
 obtain⟨h3,h4⟩:=VQ (q:=min (GI.toZ b).toNat IntKind.u8.bits) h1 h2;exact Bin.shr a b h (wrap_u8 h3 h4)
theorem Bin.kN{t:TypeId}(a:UInt32)(b:T')(h:0<=GI.toZ b):Eb P .shr t (iv a) (iv b) (iv (Cd a (GI.toZ b).toNat)):=by
 have h1:(0:Int)<=GI.toZ a:=wD _;have h2:(GI.toZ a:Int)<4294967296:=by have:=a.toNat_lt;show((a.toNat:Nat):Int)<4294967296;omega
 obtain⟨h3,h4⟩:=VQ (q:=min (GI.toZ b).toNat IntKind.u32.bits) h1 h2;exact Bin.shr a b h (wrap_u32 h3 h4)
theorem Bin.lC{t:TypeId}(a:UInt64)(b:T')(h:0<=GI.toZ b):Eb P .shr t (iv a) (iv b) (iv (Cd a (GI.toZ b).toNat)):=by
 have h1:(0:Int)<=GI.toZ a:=wD _;have h2:(GI.toZ a:Int)<18446744073709551616:=by have:=a.toNat_lt;show((a.toNat:Nat):Int)<18446744073709551616;omega
 obtain⟨h3,h4⟩:=VQ (q:=min (GI.toZ b).toNat IntKind.u64.bits) h1 h2;exact Bin.shr a b h (wrap_u64 h3 h4)
theorem wrap_i32{n:Int}(h: -2147483648<=n)(h':n<2147483648):IntKind.i32.wrap n=n:=by
 simp only[IntKind.wrap,IntKind.bits,IntKind.signed,xF];change (if decide (n %4294967296>=2147483648)=true then n %4294967296-4294967296 else n %4294967296)=n;by_cases hn:n %4294967296>=2147483648
 ·rw[vP (by simpa using hn)];omega
 ·rw[vL (by simpa using hn)];omega
theorem kK{q:Nat}(h0: -m<=a)(h:a<m)(hm:0<m): -m<=a.fdiv (2^q)/\a.fdiv (2^q)<m:=by
 have hp:(0:Int)<2^q:=Int.pow_pos B0;rw[xX _ A7];generalize(2:Int)^q=p at hp;refine⟨?_,?_⟩
 ·rw[Int.le_ediv_iff_mul_le hp];have:m*1<=m*p:=xS A7 A7;rw[Int.neg_mul];omega
 ·rw[Int.ediv_lt_iff_lt_mul hp];have:m*1<=m*p:=xS A7 A7;omega
theorem fF(a:Int32): -2147483648<=GI.toZ a/\GI.toZ a<2147483648:=by
 have h1:=a.le_toInt;have h2:=a.toInt_lt;exact⟨h1,h2⟩
theorem Bin.mD{t:TypeId}(a:Int32)(b:T')(h:0<=GI.toZ b):Eb P .shr t (iv a) (iv b) (iv (Cd a (GI.toZ b).toNat)):=by
 obtain⟨h1,h2⟩:=fF a;obtain⟨h3,h4⟩:=kK (q:=min (GI.toZ b).toNat IntKind.i32.bits) h1 h2 B0;exact Bin.shr a b h (wrap_i32 h3 h4)
end
end Go.Lv
namespace Go.Lv
variable {P:Program} {n:Nat} {ops:Array Oper} {rest:List Oper} {K:Env->World->Prop} {Q:Exit->Env->World->Prop} {σ:Env} {w:World}
variable {d:Nat} {ty:TypeId} {pos:String} {after:Array Edge} {A:Reg} {F:List Fact} {L:List Mob}
theorem Ws{t e:TypeId}(hu:P.underlying t=some (.slice e))(q:Nat)(p:Option Addr)(l c:Nat)(w:World):(Op.equalIn (q+1) t (.slice p l c) (.slice none 0 0)).run P w= .ok p.isNone w:=by
 cases p<;>simp[Op.equalIn,uL hu]
theorem Bin.mB{t e:TypeId}(hu:P.underlying t=some (.slice e))(p:Option Addr)(l c:Nat):Eb P .eql t (.slice p l c) (.slice none 0 0) (.bool p.isNone):=λ_ _ w=>by
 have h:=Ws hu 9999 p l c w;simp only[eqGuard,binOp,Op.equal,Op.maxDepth];simp[h]
theorem Bin.kH{t e:TypeId}(hu:P.underlying t=some (.slice e))(p:Option Addr)(l c:Nat):Eb P .neq t (.slice p l c) (.slice none 0 0) (.bool p.isSome):=λ_ _ w=>by
 have h:=Ws hu 9999 p l c w;simp only[eqGuard,binOp,Op.equal,Op.maxDepth];cases p<;>simp[h]
theorem Rd.ZX{R:Reg}{s l c:Nat}{cs:List Value}(h:Rd R w s (.slice none l c) cs):cs=[]:=by
 obtain⟨p,len,cap,e,h2,h3,h4,_⟩:=h;cases e;have:=h4 rfl;have h5:cs.length=0:=by rw[h2,show l=0 by omega,zA]
 exact List.length_eq_zero_iff.1 h5
theorem WL.qM{x:Operand}{t e E:TypeId}{i:Nat}{v:Value}{cs:List Value}(ht:P.underlying t=some (.slice e))(he:P.underlying e=some (.int .u8))(hs:St A w F L)
  (hL:L[i]? =some (.own 1 E v cs)) (hne:0<cs.length) (hd:Nat.blt d n=true) (hx:ev σ x=v) (h:∀w',St A w' F L->WL P n ops rest K (Hi σ d v) w'):
  WL P n ops (⟨some d, .convert t t x,ty,pos,after,none⟩::rest) K σ w:=by
 have hm:=(hs.front hL).mobs;obtain⟨q,hq,h3,h4⟩:=hm;obtain⟨p,len,cap,rfl,h5,h6,h7,h8,h9⟩:=hq;have hcap:0<cap:=A7
 obtain⟨b,rfl⟩:∃b,q=some b:=by
  cases q with
  |none=>exact absurd (h8 rfl) A7
  |some b=>exact⟨b,rfl⟩
 obtain⟨arr,fr,rfl,hb,hsz,hfz,hc⟩:=h9 b rfl;obtain⟨lo,hi⟩:=fr;have hlt:=lt_of_heap hb;have hfr:∃fr',w.freeze ⟨b,arr.size,none⟩ 1=Ch w b (.cells arr E fr')/\ (fr'.1=fr'.2\/arr.size<=fr'.1):=by
  refine⟨(if lo==hi then(arr.size,arr.size+1)else(min lo arr.size,max hi (arr.size+1))),?_,?_⟩
  ·unfold World.freeze Ch;rw[vL B0];congr 1;apply Array.ext
   ·simp
   ·intro k h1 h2;simp only[Array.getElem_modify,Array.getElem_setIfInBounds];by_cases hk:b=k
    ·subst hk;have:w.heap[b]= .cells arr E (lo,hi):=by
      have:=yC (xs:=w.heap) hlt;rw[hb]at this;exact(xU this).symm
     simp[this]
    ·rw[vL hk,Array.getElem_setIfInBounds_ne _ hk]
  ·by_cases hlh:lo=hi
   ·simp[hlh]
   ·rw[vL (by simpa using hlh)];rcases hfz with h|h
    ·exact absurd h hlh
    ·right;simp at h⊢;omega
 obtain⟨fr',hfr,hfz'⟩:=hfr;have hsh:w.shape? b=some (E,arr.size):=by simp[World.shape?,hb]
 have hs':St A (Ch w b (.cells arr E fr')) F L:=by
  have h10:St A (Ch w b (.cells arr E fr')) F (L.set i (.own 1 E (.slice (some ⟨b,0,none⟩) len cap) cs)):=
   hs.Za hL ⟨some ⟨b,0,none⟩,len,cap,rfl,h5,h6,h7,h8,λc hc'=>by cases hc';exact⟨arr,(lo,hi),rfl,hb,hsz,hfz,hc⟩⟩
    ⟨some ⟨b,0,none⟩,len,cap,rfl,h5,h6,h7,(λh=>by cases h),λc hc'=>by cases hc';exact⟨arr,fr',rfl,by simp[Ch,hlt],hsz,hfz',hc⟩⟩
    (λ_=>⟨some b,⟨some ⟨b,0,none⟩,len,cap,rfl,h5,h6,h7,h8,λc hc'=>by cases hc';exact⟨arr,(lo,hi),rfl,hb,hsz,hfz,hc⟩⟩,h3,h4,rfl⟩)
  have h11:L.set i (.own 1 E (.slice (some ⟨b,0,none⟩) len cap) cs)=L:=by
   apply wJ;intro k;rw[List.getElem?_set];by_cases hik:i=k
   ·subst hik;rw[vP rfl];have hlt:=(List.getElem?_eq_some_iff.1 hL).1;rw[vP hlt,hL]
   ·rw[vL hik]
  rw[h11]at h10;exact h10
 refine .val rfl rfl hd (v:= .slice (some ⟨b,0,none⟩) len cap) (w':=Ch w b (.cells arr E fr')) ?_ (h _ hs');simp[execOp,hx,convert,uL ht,uL he,markStringish,hsh,hfr]
end Go.Lv
namespace Go.Lv
variable {P:Program} {n:Nat} {ops:Array Oper} {rest:List Oper} {K:Env->World->Prop} {Q:Exit->Env->World->Prop} {σ:Env} {w:World}
variable {d:Nat} {ty:TypeId} {pos:String} {after:Array Edge} {A:Reg} {F:List Fact} {L:List Mob}
def Wc(P:Program)(t:TypeId):Option (List (Nat×Option Nat)×Option (Option (Array Value))):=
 match P.underlying t with
 |some (.struct fs)=>some (fs.toList.map λf=>(f.offset,(P.info? f.type).map (·.size)),(P.info? t).map λi=>i.zero.map (·.cells))
 |_=>none
def Ur(P:Program)(t:TypeId)(pl:List (Nat×Nat))(z:List Value):Prop:=
 Wc P t=some (pl.map λp=>(p.1,some p.2),some (some z.toArray))
theorem Ur.mk{t:TypeId}{pl:List (Nat×Nat)}{z:List Value}(h:Wc P t=some (pl.map λp=>(p.1,some p.2),some (some z.toArray))):Ur P t pl z:=h
theorem run_places{fs:List Field}:∀{pl:List (Nat×Nat)},(fs.map λf=>(f.offset,(P.info? f.type).map (·.size)))=(pl.map λp=>(p.1,some p.2))->
  (fs.mapM λf=>do pure (f.offset,<-sizeOf f.type):Sem (List (Nat×Nat))).run P w= .ok pl w:=by
 induction fs with
 |nil=>intro pl h;cases pl with|nil=>rfl|cons _ _=>simp at h
 |cons f fs ih=>
  intro pl h;cases pl with
  |nil=>simp at h
  |cons p pl=>
   simp only[vN,xG,wF]at h;obtain⟨⟨h1,h2⟩,h3⟩:=h;have hs:Dh P f.type p.2:=Dh.mk h2;simp only[List.mapM_cons,uP,As hs,uK,uT,ih h3,h1]
theorem X.build{t:TypeId}{pl:List (Nat×Nat)}{z:List Value}{parts:List (Nat×Operand)}{vs:List (Nat×Value)}{cells:List Value}(ht:Ur P t pl z)
  (hp:(parts.map λp=>(p.1,ev σ p.2))=vs) (hf:Instr.fill (pl[·]?) z.toArray vs=some cells.toArray):XO P σ w (.build t parts.toArray) (.agg cells.toArray):=λ_ _ _ _ _=>by
 unfold Ur Wc at ht;split at ht
 ·rename_i fs hu;simp only[uN,wF]at ht;obtain⟨h1,h2⟩:=ht;have hz:∃i zv,P.info? t=some i/\i.zero=some zv/\zv.cells=z.toArray:=by
   cases hi:P.info? t with
   |none=>rw[hi]at h2;simp at h2
   |some i=>
    rw[hi]at h2;simp only[wL,uN]at h2;cases hz:i.zero with
    |none=>rw[hz]at h2;simp at h2
    |some zv=>rw[hz]at h2;exact⟨i,zv,rfl,hz,by simpa using h2⟩
  obtain⟨i,zv,hi,hz,hzc⟩:=hz;have hr:=run_places (w:=w) h1;have hm:(fs.mapM λf=>do pure (f.offset,<-sizeOf f.type):Sem (Array (Nat×Nat))).run P w= .ok pl.toArray w:=by
   obtain⟨l⟩:=fs;rw[List.mapM_toArray];simp only[map_eq_pure_bind,uP,hr,uK,uT]
  have hf':Instr.fill (λx=>pl.toArray[x]?) z.toArray vs=some cells.toArray:=by rw[<-hf];congr 1;funext x;simp
  simp only[execOp,Instr.build,uP,zeroValue,typeInfo];have hm2:=hm;simp only[bind_pure_comp]at hm2;simp[hi,hz,hzc,uL hu,hm2,hp,hf,hf']
 ·cases ht
theorem X.iR{t t':TypeId}{x y:Operand}{a b r:List UInt8}(hx:ev σ x=sv a)(hy:ev σ y=sv b)(h:Bb a b=some r):XO P σ w (.binOp .add t x y t') (sv r):=by
 obtain⟨h1,rfl⟩:=IL h;have hl:XP=17179869184:=B0
 exact X.bin hx hy (Bin.lN a b A7)
theorem DM(l:List UInt8)(a b:Nat):(⟨l.toArray⟩:ByteArray).extract a b=⟨((l.take b).drop a).toArray⟩:=by
 apply ByteArray.ext;rw[ByteArray.data_extract];simp[List.drop_take]
theorem X.pZ{t:TypeId}{x:Operand}{lo hi:Option Operand}{l y:List UInt8}{a b:Int}(ht:P.underlying t=some .string)(hx:ev σ x=sv l)(hc:Bu l a b=some y)
  (hlo:(∃q,lo.map (ev σ)=some (.int q a))\/ (lo=none/\a=0)) (hhi:(∃q,hi.map (ev σ)=some (.int q b))\/ (hi=none/\b=Aa l)):XO P σ w (.slice t x lo hi none) (sv y):=λ_ _ _ _ _=>by
 obtain⟨h1,h2,h3,h4,rfl⟩:=Pb hc;have hsz:(⟨l.toArray⟩:ByteArray).size=l.length:=by simp[ByteArray.size]
 have hlo':(∃q,lo.map (ev σ)=some (.int q (a.toNat:Int)))\/ (lo.map (ev σ)=none/\a.toNat=0):=by
  rcases hlo with⟨q,h⟩|⟨h,h'⟩
  ·left;exact⟨q,by rw[h,<-h1]⟩
  ·right;exact⟨by rw[h];rfl,A7⟩
 have hhi':(∃q,hi.map (ev σ)=some (.int q (b.toNat:Int)))\/ (hi.map (ev σ)=none/\b.toNat=l.length):=by
  rcases hhi with⟨q,h⟩|⟨h,h'⟩
  ·left;exact⟨q,by rw[h,<-h2]⟩
  ·right;refine⟨by rw[h];rfl,?_⟩;rw[h'];simp[Aa]
 simp only[execOp,hx,Instr.sliceAt,uP,uL ht,uK,wK];generalize lo.map (ev σ)=gI at hlo'⊢;generalize hi.map (ev σ)=nN at hhi'⊢;clear hlo hhi h1 h2 hc;generalize a.toNat=A at*
 generalize b.toNat=B at*
 clear a b;rcases hlo' with⟨q,rfl⟩|⟨rfl,rfl⟩<;>rcases hhi' with⟨q',rfl⟩|⟨rfl,rfl⟩<;>
  simp[Instr.slice,uL ht,Instr.sliceBounds,Instr.sliceBound,asIntOf,hsz,DM,h3,h4]
theorem Src.string{t2:TypeId}{l:List UInt8}(ht2:P.underlying t2=some .string):Src P w t2 (sv l) 1 l.length (Nx l):=by
 refine⟨⟨_,ht2, .inr rfl⟩,λ_=>by simp[Builtin.lenOf,ByteArray.size],λw2 _=>?_⟩;simp only[Builtin.firstCells,uT,DM];simp[Nx,dC]
end Go.Lv
namespace Go.Lv
end Go.Lv
namespace Go.Lv
open Go.RowKit
end Go.Lv
namespace Go.Rx
open Go Go.Lv
variable{R:Type}
abbrev Bf.{u} {α:Sort u} (c:Bool) (a b:α):α:=match c with|true=>a|false=>b
theorem Ug.{u} {α:Sort u} (a b:α):Bf true a b=a:=rfl
theorem Uk.{u} {α:Sort u} (a b:α):Bf false a b=b:=rfl
inductive Kd|i64|u8|u32|u64|i32|i8 deriving DecidableEq
@[reducible] def Kd.T:Kd->Type| .i64=>Int| .u8=>UInt8| .u32=>UInt32| .u64=>UInt64| .i32=>Int32| .i8=>Int8
@[reducible] def Kd.k:Kd->IntKind| .i64=> .i64| .u8=> .u8| .u32=> .u32| .u64=> .u64| .i32=> .i32| .i8=> .i8
@[reducible] instance Kd.gi:(k:Kd)->GI k.T k.k
 | .i64=>inferInstanceAs (GI Int .i64)| .u8=>inferInstanceAs (GI UInt8 .u8)| .u32=>inferInstanceAs (GI UInt32 .u32)
 | .u64=>inferInstanceAs (GI UInt64 .u64)| .i32=>inferInstanceAs (GI Int32 .i32)| .i8=>inferInstanceAs (GI Int8 .i8)
def Kd.of:IntKind->Option Kd| .i64=>some .i64| .u8=>some .u8| .u32=>some .u32| .u64=>some .u64| .i32=>some .i32| .i8=>some .i8|_=>none
inductive ET|int (k:Kd)|bool|str|list (e:ET)|vec (n:Nat) (e:ET)|cons (a r:ET)|nil deriving DecidableEq
@[reducible] def ET.T:ET->Type
 | .int k=>k.T| .bool=>Bool| .str=>List UInt8| .list e=>List e.T| .vec _ e=>List e.T| .cons a r=>a.T×r.T| .nil=>Unit
def ET.size:ET->Nat
 | .int _=>1| .bool=>1| .str=>1| .list _=>1| .vec n e=>n*e.size| .cons a r=>a.size+r.size| .nil=>0
def ET.zero:(e:ET)->e.T
 | .int k=>k.gi.ofZ 0| .bool=>false| .str=>[]| .list _=>[]| .vec n e=>List.replicate n e.zero| .cons a r=>(a.zero,r.zero)| .nil=>()
def CX:Bool->Bool->Bool|true,b=>b|false,b=>!b
def Kd.pH:Kd->Bool| .u8=>true| .u32=>true| .u64=>true|_=>false
def oA:BinOp->Bool| .shl=>true| .shr=>true|_=>false
def ET.qL:ET->Bool| .cons _ _=>true| .nil=>true|_=>false
inductive Step|fld (n off:Nat)|idx (j:Int) (s:Nat)
inductive PV
 |val (e:ET) (x:e.T)
 |agg (l:List PV)
 |tup (l:List PV)
 |nils
 |own (i:Nat)
 |ptr (i:Nat) (p:List Step)
 |rptr (v:PV)
 |view (o:Bool) (i:Nat) (p:List Step) (e:ET) (lo n:Int)
 |fn (f:Nat) (caps:List PV)
 |cap (e:ET) (x:List e.T) (c:Int)
 |mp (ks:List UInt8) (vs:List PV)
 |bfn (f:Nat) (fs:List PV)
 |cst (v:Value)
 |gd (t:Nat) (want:Bool) (v:PV)
 |any
 |off
 |undef
abbrev PV.i(k:Kd)(x:k.T):PV:= .val (.int k) x
abbrev PV.b(b:Bool):PV:= .val .bool b
def PV.size:PV->Nat
 | .val e _=>e.size
 | .agg l=>go l
 |_=>1
where go:List PV->Nat
 |[]=>0
 |a::r=>a.size+go r
def ET.pV:(e:ET)->e.T->List PV
 | .cons a r,(x,y)=>(Bf (a.qL) (.agg (a.pV x))<| .val a x)::r.pV y
 | .nil,_=>[]
 |e,x=>[.val e x]
def ET.pv(e:ET)(x:e.T):PV:=Bf (e.qL) (.agg (e.pV x))<| .val e x
def Uv(e e':ET)(x:e.T):Option e'.T:=if h:e=e' then some (h▸x)else none
def ET.qF:(e:ET)->Option e.T| .list _=>some []|_=>none
def ZP(e:ET)(rec:List PV->Option e.T):PV->Option e.T
 | .val e' x=>Uv e' e x
 | .agg l=>rec l
 | .nils=>e.qF
 |_=>none
def ET.gL:(e:ET)->List PV->Option e.T
 | .cons a r,p::ps=>Option.bind (ZP a a.gL p) λx=>Option.bind (r.gL ps) λy=>some (x,y)
 | .nil,[]=>some ()
 |_,_=>none
def ET.of(e:ET)(p:PV):Option e.T:=ZP e e.gL p
inductive Item
 |dead
 |box (T:TypeId) (v:PV)
 |arr (E:TypeId) (e:ET) (l:List e.T)
abbrev Slots:=List (Nat×PV)
structure S where
 sl:Slots
 it:List Item
 st:List Slots:=[]
def Ky:Slots->Nat->PV
 |[],_=> .undef
 |(t,v)::r,d=>Bf (Nat.beq t d) (v)<|Ky r d
def KB(d:Nat):Slots->Slots
 |[]=>[]
 |(t,v)::r=>Bf (Nat.beq t d) (KB d r)<|match v with
  | .gd j _ _=>Bf (Nat.beq j d) (KB d r)<|(t,v)::KB d r
  |_=>(t,v)::KB d r
def fH(s:Slots)(d:Nat)(v:PV):Slots:=(d,v)::KB d s
def S.set(s:S)(d:Nat)(v:PV):S:=⟨fH s.sl d v,s.it,s.st⟩
def S.Cl(s:S)(d:Option Nat)(v:PV):S:=match d with|some d=>s.set d v|none=>s
def fD(t:Nat)(b:Bool):Slots->Slots
 |[]=>[]
 |(q,v)::r=>(Bf (Nat.beq q t) ((q, .cst (.bool b)))<|match v with
  | .gd j want u=>Bf (Nat.beq j t) ((q,Bf (CX want b) (u)<| .off))<|(q,v)
  |_=>(q,v))::fD t b r
def S.res(s:S)(t:Nat)(b:Bool):S:=⟨fD t b s.sl,s.it,s.st⟩
def Bd(l:List Item)(i:Nat):Item:=match l with|[]=> .dead|a::r=>match i with|0=>a|i+1=>Bd r i
def Lh(l:List Item)(i:Nat)(a:Item):List Item:=match l with|[]=>[]|b::r=>match i with|0=>a::r|i+1=>b::Lh r i a
def S.add(s:S)(a:Item):S:=⟨s.sl,s.it++[a],s.st⟩
def S.Hi(s:S)(i:Nat)(a:Item):S:=⟨s.sl,Lh s.it i a,s.st⟩
def S.new(s:S):Nat:=s.it.length
def bytesOf(b:ByteArray):List UInt8:=b.data.toList
def ofConst:Value->PV
 | .int k n=>match Kd.of k with
  |some kd=>Bf (decide (kd.gi.toZ (kd.gi.ofZ n)=n)) (.i kd (kd.gi.ofZ n))<| .cst (.int k n)
  |none=> .cst (.int k n)
 | .bool b=> .b b
 | .string s=> .val .str (bytesOf s)
 | .slice none 0 0=> .nils
 | .agg _=> .undef
 | .tuple _=> .undef
 |v=> .cst v
def Bs(s:Slots):Operand->PV
 | .tmp t=>match Ky s t with| .cst (.bool b)=> .b b|v=>v
 | .const v=>ofConst v
 | .func f=> .fn f []
 | .global g=> .undef
def bY(P:Program):Nat->TypeId->Option ET
 |0,_=>none
 |q+1,t=>match P.underlying t with
  |some (.int k)=>(Kd.of k).map .int
  |some .bool=>some .bool
  |some .string=>some .str
  |some (.slice e)=>(bY P q e).map .list
  |some (.array n e)=>(bY P q e).map (.vec n)
  |some (.struct fs)=>nO fs.toList (bY P q)
  |_=>none
where nO (fs:List Field) (rec:TypeId->Option ET):Option ET:=match fs with
  |[]=>some .nil
  |f::r=>match rec f.type,nO r rec with
   |some a,some b=>some (.cons a b)
   |_,_=>none
abbrev Q:Nat:=20
def NW:List PV->Nat->Nat
 |a::r,n+1=>a.size+NW r n
 |_,_=>0
def MP:PV->List Step->Option PV
 |v,[]=>some v
 | .agg l, .fld n off::r=>match l[n]? with
  |some f=>Bf (Nat.beq (NW l n) off) (MP f r)<|none
  |none=>none
 |_,_=>none
def elems(s:S)(e:ET):PV->Option (List e.T)
 | .val e' x=>match e',x with
  | .list a,l=>if h:a=e then some (h▸l)else none
  |_,_=>none
 | .nils=>some []
 | .cap a l _=>if h:a=e then some (h▸l)else none
 | .own i=>match Bd s.it i with
  | .arr _ a l=>if h:a=e then some (h▸l)else none
  |_=>none
 | .view true i _ e1 lo n=>match Bd s.it i with
  | .arr _ a l=>if h:a=e then(Bf (decide (e1=e)) (some (h▸Zq l lo n))<|none)else none
  |_=>none
 |_=>none
def gY(s:S)(e:ET):PV->Option (List e.T)
 | .view false i p e1 lo n=>match Bd s.it i with
  | .box _ v=>match MP v p with
   |some (.val a x)=>match a,x with
    | .vec m a,l=>Bf (decide (0<=lo/\0<=n/\lo+n<=m)&&decide (e1=e)) ((if h:a=e then some (h▸Zq l lo n)else none))<|none
    |_,_=>none
   |_=>none
  |_=>none
 |v=>elems s e v
def jL(k:Kd)(o:BinOp)(x y:k.T):Option PV:=
 match o with
 | .add=>some (.i k (Ac x y))| .sub=>some (.i k (Al x y))| .mul=>some (.i k (Ew x y))
 | .and=>some (.i k (Dr x y))| .or=>some (.i k (iS x y))| .xor=>some (.i k (Fe x y))
 | .eql=>some (.b (geq x y))| .neq=>some (.b (Bm x y))| .lss=>some (.b (Cn x y))| .leq=>some (.b (fM x y))| .gtr=>some (.b (Gc x y))| .geq=>some (.b (Ja x y))
 |_=>none
def qG:(k:Kd)->k.T->k.T->Option k.T
 | .i64,x,y=>some (Hw x y)| .u8,x,y=>some (WQ x y)| .u32,x,y=>some (WQ x y)| .u64,x,y=>some (WQ x y)|_,_,_=>none
def pS:(k:Kd)->k.T->Nat->Option k.T
 | .i64,x,n=>some (fT x n)| .u8,x,n=>some (Cd x n)| .u32,x,n=>some (Cd x n)| .u64,x,n=>some (Cd x n)| .i32,x,n=>some (Cd x n)|_,_,_=>none
def gB(o:BinOp)(k:Kd)(x:k.T)(k':Kd)(y:k'.T):Option PV:=
 match o with
 | .quo=>if h:k'=k then some (.i k (Oc x (h▸y)))else none
 | .rem=>if h:k'=k then(qG k x (h▸y)).map (.i k)else none
 | .shl=>some (.i k (Gd x (k'.gi.toZ y).toNat))
 | .shr=>(pS k x (k'.gi.toZ y).toNat).map (.i k)
 |_=>none
def eR(o:BinOp)(k':Kd)(y:k'.T):Option Bool:=
 match o with
 | .quo| .rem=>some (Bm y (k'.gi.ofZ 0))
 | .shl| .shr=>some (Bf (k'.pH) (true)<|Ja y (k'.gi.ofZ 0))
 |_=>none
def tI:Operand->Bool| .const _=>true|_=>false
def qS:BinOp->Bool| .quo=>true| .rem=>true| .shl=>true| .shr=>true|_=>false
def oM(o:BinOp)(y:Bool)(k:Kd)(a:k.T)(k':Kd)(c:k'.T):Option PV:=
 Bf (qS o) ((Bf (y) ((match eR o k' c with|some true=>gB o k a k' c|_=>none))<|Bf (k'.pH&&oA o) (gB o k a k' c)<|none)
 )<|if h:k'=k then jL k o a (h▸c)else none
def bF(c:Bool)(lit:Option Bool)(a b:PV):Option PV:=
 match a,b with
 | .val .bool x, .val .bool y=>match lit with
  |some true=>some (.b (c||y))
  |some false=>some (.b (c&&x))
  |none=>some (.b (Bf (c) (x)<|y))
 | .val e x, .val e' y=>if h:e'=e then some (.val e (if c=true then x else h▸y))else none
 |_,_=>none
def fV(t:Nat)(b:Bool):PV->PV
 | .gd j want v=>Bf (Nat.beq j t&&CX want b) (v)<| .undef
 |v=>v
def fI:Operand->Option Bool| .const (.bool b)=>some b|_=>none
def nE(b:Bool)(x y:PV):Option PV:=match Bf (b) (x)<|y with| .undef=>none| .off=>none| .gd _ _ _=>none|v=>some v
def PV.WY:PV->Bool| .undef=>false| .off=>false| .gd _ _ _=>false| .tup _=>false|_=>true
def QU:List PV->Bool|[]=>true|a::r=>a.WY&&QU r
def UH(n:Nat)(e:ET)(l:List PV):Option PV:=
 match go l with
 |some x=>Bf (Nat.beq x.length n) (some (.val (.vec n e) x))<|none
 |none=>none
where go:List PV->Option (List e.T)
 |[]=>some []
 |a::r=>match e.of a,go r with|some x,some y=>some (x::y)|_,_=>none
def IX(f:TypeId->List Value->Option (PV×List Value)):List TypeId->List Value->Option (List PV×List Value)
 |[],cs=>some ([],cs)
 |t::ts,cs=>match f t cs with
  |some (v,cs')=>match IX f ts cs' with
   |some (vs,r)=>some (v::vs,r)
   |none=>none
  |none=>none
def parse(P:Program):Nat->TypeId->List Value->Option (PV×List Value)
 |0,_,_=>none
 |q+1,t,cs=>match P.underlying t with
  |some (.struct fs)=>match IX (parse P q) (fs.toList.map (·.type)) cs with
   |some (vs,r)=>some (.agg vs,r)
   |none=>none
  |some (.array n e)=>match bY P q e,IX (parse P q) (List.replicate n e) cs with
   |some a,some (vs,r)=>match UH n a vs with
    |some v=>some (v,r)
    |none=>none
   |_,_=>none
  |some _=>match cs with
   |c::r=>Bf ((ofConst c).WY) (some (ofConst c,r))<|none
   |[]=>none
  |none=>none
def DS(P:Program)(t:TypeId)(v:Value):Option PV:=
 match parse P Q t v.cells.toList with|some (p,[])=>some p|_=>none
def pW(P:Program)(t:TypeId):Option Bool:=(P.underlying t).map fP
def PV.isA:PV->Bool| .agg _=>true| .val (.vec _ _) _=>true|_=>false
def Ff(P:Program)(t:TypeId)(v:PV):Bool:=
 match pW P t with
 |some b=>CX b v.isA&&(match P.info? t with|some i=>Nat.beq i.size v.size|none=>false)&&(b||Nat.beq v.size 1)
 |none=>false
def OV(o:BinOp):Option Bool:=match o with| .eql=>some true| .neq=>some false|_=>none
def UU(P:Program)(rec:TypeId->PV->PV->Option Bool):List Field->List PV->List PV->Nat->Option Bool
 |[],[],[],_=>some true
 |f::fs,a::l,b::m,off=>Bf ((f.name== "_")|| !Nat.beq f.offset off|| !Ff P f.type a|| !Ff P f.type b|| !Nat.beq a.size b.size) (none)<|match rec f.type a b,UU P rec fs l m (off+a.size)with
  |some x,some y=>some (x&&y)
  |_,_=>none
 |_,_,_,_=>none
def aS(P:Program)(t:TypeId):Bool:=match P.underlying t with|some (.int _)=>true|_=>false
def pT(P:Program):Nat->TypeId->PV->PV->Option Bool
 |0,_,_,_=>none
 |q+1,t,x,y=>match P.underlying t,x,y with
  |some (.int _), .val (.int k) a, .val (.int k') b=>if h:k'=k then some (geq a (h▸b))else none
  |some .bool, .val .bool a, .val .bool b=>some (a==b)
  |some .string, .val .str a, .val .str b=>some (a==b)
  |some (.struct fs), .agg l, .agg m=>Bf (P.stoodInHeld t) (none)<|UU P (pT P q) fs.toList l m 0
  |some (.array n te), .val (.vec m (.int k)) a, .val (.vec m' (.int k')) b=>Bf (Nat.beq m n&&Nat.beq m' n&&Nat.blt 0 q&&Ff P te (.val (.int k) (GI.ofZ (T:=k.T) 0))&&aS P te) (if h:k'=k then some (gT (T:=k.T) a (h▸b))else none)<|none
  |_,_,_=>none
def mQ(P:Program)(s:S)(t:TypeId)(x:Operand):Option PV:=match x with
 | .const (.agg cs)=>DS P t (.agg cs)
 |x=>some (Bs s.sl x)
def oX(P:Program)(s:S)(o:BinOp)(t:TypeId)(x y:Operand):Option PV:=match OV o,mQ P s t x,mQ P s t y with
 |some q,some (.agg l),some (.agg m)=>Bf (P.eqGuardType P.depth t) (none)<|(pT P Q t (.agg l) (.agg m)).map λb=> .b (Bf (q) (b)<| !b)
 |_,_,_=>none
def oJ(P:Program)(s:S):Op->Option PV
 | .move x=>match Bs s.sl x with| .undef=>none| .off=>none| .gd _ _ _=>none|v=>some v
 | .assign x=>match Bs s.sl x with| .undef=>none| .off=>none| .gd _ _ _=>none|v=>some v
 | .binOp o t x y _=>match Bs s.sl x,Bs s.sl y with
  | .val (.int k) a, .val (.int k') c=>oM o (tI y) k a k' c
  | .val .bool a, .val .bool c=>match P.underlying t with
   |some .bool=>match o with| .eql=>some (.b (a==c))| .neq=>some (.b (a !=c))|_=>none
   |_=>none
  | .val .str a, .val .str c=>match o with| .eql=>some (.b (a==c))| .neq=>some (.b (a !=c))|_=>none
  |_,_=>oX P s o t x y
 | .unOp o _ x=>match Bs s.sl x with
  | .val (.int k) a=>match o with| .neg=>some (.i k (eY a))| .xor=>some (.i k (iY a))|_=>none
  | .val .bool a=>match o with| .not=>some (.b (!a))|_=>none
  |_=>none
 | .pick c a b=>match c,Ky s.sl (match c with| .tmp t=>t|_=>0)with
  | .tmp t, .cst (.bool x)=>nE x (fV t true (Bs s.sl a)) (fV t false (Bs s.sl b))
  | .tmp t, .val .bool x=>bF x (match fI a with|some true=>some true|_=>match fI b with|some false=>some false|_=>none) (fV t true (Bs s.sl a)) (fV t false (Bs s.sl b))
  |_,_=>none
 | .extract x i=>match Bs s.sl x with| .tup l=>l[i]? |_=>none
 | .convert a t x=>match Bs s.sl x,P.underlying t,P.underlying a with
  | .val (.int k) v,some (.int k'),some _=>match Kd.of k' with|some kd=>some (.i kd (Aq v))|none=>none
  |_,_,_=>none
 | .makeFunc (.func f) fs cs=>match fs.toList with
  |[]=>Bf (QU (cs.toList.map (Bs s.sl))) (some (.fn f (cs.toList.map (Bs s.sl))))<|none
  |f1::fr=>match cs.toList with
   |[]=>Bf (QU ((f1::fr).map (Bs s.sl))) (some (.bfn f ((f1::fr).map (Bs s.sl))))<|none
   |_=>none
 | .nilCheck x=>match Bs s.sl x with| .ptr i p=>some (.ptr i p)| .rptr v=>some (.rptr v)|_=>none
 | .fieldAddr t x f=>match Bs s.sl x,fieldInfo P t f with
  | .ptr i p,some (off,z)=>Bf (Nat.beq z 0) (none)<|some (.ptr i (p++[.fld f off]))
  | .rptr (.agg l),some (off,z)=>match l[f]? with
   |some u=>Bf (!Nat.beq z 0&&Nat.beq (NW l f) off) (some (.rptr u))<|none
   |none=>none
  |_,_=>none
 | .call ⟨.builtin .min,as,_⟩=>match as.toList with
  |[x,y]=>match Bs s.sl x,Bs s.sl y with
   | .val (.int k) a, .val (.int k') c=>if h:k'=k then some (.i k (Fm a (h▸c)))else none
   |_,_=>none
  |_=>none
 | .call ⟨.builtin .max,as,_⟩=>match as.toList with
  |[x,y]=>match Bs s.sl x,Bs s.sl y with
   | .val (.int k) a, .val (.int k') c=>if h:k'=k then some (.i k (YJ a (h▸c)))else none
   |_,_=>none
  |_=>none
 |_=>none
def pY(P:Program)(s:S):Op->Option PV
 | .load t x=>match Bs s.sl x with
  | .ptr i p=>match Bd s.it i with
   | .box _ v=>match MP v p with
    |some u=>Bf (Ff P t u) (some u)<|none
    |none=>none
   |_=>none
  | .rptr u=>Bf (Ff P t u) (some u)<|none
  |_=>none
 | .convert a t x=>match P.underlying t with
  |some .string=>match P.underlying a with
   |some (.slice e)=>match P.underlying e with
    |some (.int .u8)=>(elems s (.int .u8) (Bs s.sl x)).map λl=> .val .str l
    |_=>none
   |_=>none
  |_=>none
 | .call ⟨.builtin .len,as,ts⟩=>match as.toList,ts.toList with
  |[x],[t]=>match P.underlying t with
   |some .string=>match Bs s.sl x with| .val .str l=>some (.i .i64 (Aa l))|_=>none
   |some (.slice _)=>match Bs s.sl x with
    | .val (.list e) l=>Bf (Nat.beq e.size 0) (none)<|some (.i .i64 (Aa l))
    | .nils=>some (.i .i64 (0:Int))
    | .view _ _ _ _ _ n=>some (.i .i64 n)
    | .own i=>match Bd s.it i with
     | .arr _ e l=>Bf (Nat.beq e.size 0) (none)<|some (.i .i64 (Aa l))
     |_=>none
    |_=>none
   |some (.array n _)=>some (.i .i64 (n:Int))
   |_=>none
  |_,_=>none
 |_=>none
inductive Sh|lf (e:ET) (own:Option TypeId)|agg (l:List Sh)
def Lg:List (ET×Option TypeId)->Type
 |[]=>Unit
 |[p]=>p.1.T
 |p::q::r=>p.1.T×Lg (q::r)
def Sh.leaves:Sh->List (ET×Option TypeId)
 | .lf e o=>[(e,o)]
 | .agg l=>go l
where go:List Sh->List (ET×Option TypeId)
 |[]=>[]
 |a::r=>a.leaves++go r
def Hj(l:List Sh):List (ET×Option TypeId):=Sh.leaves.go l
structure Con where
 ps:List Sh
 rs:List Sh
 fn:Lg (Hj ps)->Option (Lg (Hj rs))
def Ia:Sh->PV->Option (List PV)
 | .lf _ _,v=>some [v]
 | .agg l, .agg vs=>go l vs
 |_,_=>none
where go:List Sh->List PV->Option (List PV)
 |[],[]=>some []
 |a::r,v::vs=>match Ia a v,go r vs with
  |some x,some y=>some (x++y)
  |_,_=>none
 |_,_=>none
def WE(s:S)(e:ET)(v:PV):Option (List e.T):=elems s e v
def AW(s:S):(e:ET)->PV->Option e.T
 | .list e,v=>WE s e v
 |e, .val e' x=>Uv e' e x
 |_,_=>none
def Qc(s:S):(es:List (ET×Option TypeId))->List PV->Option (Lg es)
 |[],vs=>match vs with|[]=>some ()|_=>none
 |[p],vs=>match vs with
  |[v]=>AW s p.1 v
  |_=>none
 |p::q::r,vs=>match vs with
  |[]=>none
  |v::vs=>match AW s p.1 v,Qc s (q::r) vs with
   |some x,some y=>some (x,y)
   |_,_=>none
def Cb:(e:ET)->Option TypeId->e.T->S->PV×S
 | .list e,some E,l,s=>(.own s.new,s.add (.arr E e l))
 |e,_,x,s=>(.val e x,s)
def Ce:(ls:List (ET×Option TypeId))->Lg ls->S->List PV×S
 |[],_,s=>([],s)
 |[p],x,s=>([(Cb p.1 p.2 x s).1],(Cb p.1 p.2 x s).2)
 |p::q::r,(x,y),s=>((Cb p.1 p.2 x s).1::(Ce (q::r) y (Cb p.1 p.2 x s).2).1,(Ce (q::r) y (Cb p.1 p.2 x s).2).2)
def Ha:Sh->List PV->Option (PV×List PV)
 | .lf _ _,v::vs=>some (v,vs)
 | .lf _ _,[]=>none
 | .agg l,vs=>match go l vs with
  |some (us,r)=>some (.agg us,r)
  |none=>none
where go:List Sh->List PV->Option (List PV×List PV)
 |[],vs=>some ([],vs)
 |a::r,vs=>match Ha a vs with
  |some (u,vs')=>match go r vs' with
   |some (us,vs'')=>some (u::us,vs'')
   |none=>none
  |none=>none
def Yu(l:List Sh)(vs:List PV):Option (List PV):=match Ha.go l vs with|some (us,[])=>some us|_=>none
def eN(l:List Sh)(vs:List PV):Option (List PV):=Ia.go l vs
def YL:List PV->PV|[v]=>v|l=> .tup l
def subst(i:Nat)(n:PV):PV->PV
 | .agg l=> .agg (go i n l)
 | .tup l=> .tup (go i n l)
 | .own j=>Bf (Nat.beq i j) (n)<| .own j
 | .ptr j p=>Bf (Nat.beq i j) (.any)<| .ptr j p
 | .view o j p e lo n=>Bf (Nat.beq i j) (.any)<| .view o j p e lo n
 | .rptr v=> .rptr (subst i n v)
 | .fn f l=> .fn f (go i n l)
 | .mp ks l=> .mp ks (go i n l)
 | .bfn f l=> .bfn f (go i n l)
 | .gd t want v=> .gd t want (subst i n v)
 |v=>v
where go (i:Nat) (n:PV):List PV->List PV
 |[]=>[]
 |a::r=>subst i n a::go i n r
def cZ(i:Nat)(n:PV):Item->Item
 | .box T v=> .box T (subst i n v)
 |a=>a
def dS(i:Nat)(n:PV)(l:Slots):Slots:=l.map λp=>(p.1,subst i n p.2)
def S.sub(s:S)(i:Nat)(n:PV):S:=⟨dS i n s.sl,s.it.map (cZ i n),s.st.map (dS i n)⟩
def S.freeze(s:S)(i:Nat):Option S:=match Bd s.it i with
 | .arr _ e l=>some ((s.Hi i .dead).sub i (.val (.list e) l))
 |_=>none
def Jh(i:Nat):List Nat->Bool|[]=>false|j::r=>Nat.beq i j||Jh i r
def consume(s:S):List (ET×Option TypeId)->List PV->Option (List Nat)
 |[],[]=>some []
 |(e,o)::r,v::vs=>match o with
  |none=>consume s r vs
  |some E=>match e,v with
   | .list _, .nils=>consume s r vs
   | .list a, .own i=>match Bd s.it i with
    | .arr E' a' _=>Bf (Nat.beq E' E&&decide (a'=a)) ((consume s r vs).map (i:: ·))<|none
    |_=>none
   |_,_=>none
 |_,_=>none
def S.kill(s:S)(i:Nat):Option S:=match Bd s.it i with| .arr _ _ _=>some ((s.Hi i .dead).sub i .any)|_=>none
def S.LD(s:S):List Nat->Option S
 |[]=>some s
 |i::r=>match s.kill i with|some s'=>s'.LD r|none=>none
def aG{R:Type}:PV->List Step-> (PV->Option R)->Option R
 |v,[],k=>k v
 | .agg l, .fld n off::r,k=>match l[n]? with
  |some f=>Bf (Nat.beq (NW l n) off) (aG f r k)<|none
  |none=>none
 | .val e x, .idx j z::r,k=>match e,x with
  | .vec _ a,l=>Bf (Nat.beq a.size z) (Option.bind (Ag l j) λy=>aG (a.pv y) r k)<|none
  |_,_=>none
 |_,_,_=>none
def VR{R:Type}(new:PV):PV->List Step-> (PV->Option R)->Option R
 |v,[],k=>Bf (Nat.beq new.size v.size) (k new)<|none
 | .agg l, .fld n off::r,k=>match l[n]? with
  |some f=>Bf (Nat.beq (NW l n) off) (VR new f r (λf'=>k (.agg (l.set n f'))))<|none
  |none=>none
 | .val e x, .idx j z::r,k=>match e,x with
  | .vec n a,l=>Bf (Nat.beq a.size z) ((match r with
   |[]=>match a.of new with
    |some y=>Option.bind (Ee l j y) λl'=>k (.val (.vec n a) l')
    |none=>none
   |_=>Option.bind (Ag l j) λy=>VR new (a.pv y) r (λp=>match a.of p with
    |some y'=>Option.bind (Ee l j y') λl'=>k (.val (.vec n a) l')
    |none=>none)))<|none
  |_,_=>none
 |_,_,_=>none
def getRoot{R:Type}:Item->List Step-> (PV->Option R)->Option R
 | .box _ v,p,k=>aG v p k
 | .arr _ e l, .idx j z::r,k=>Bf (Nat.beq e.size z) (Option.bind (Ag l j) λy=>aG (e.pv y) r k)<|none
 |_,_,_=>none
def MZ{R:Type}(new:PV):Item->List Step-> (Item->Option R)->Option R
 | .box T v,p,k=>VR new v p λv'=>k (.box T v')
 | .arr E e l, .idx j z::r,k=>Bf (Nat.beq e.size z) ((match r with
   |[]=>match e.of new with
    |some y=>Option.bind (Ee l j y) λl'=>k (.arr E e l')
    |none=>none
   |_=>Option.bind (Ag l j) λy=>VR new (e.pv y) r (λp=>match e.of p with
    |some y'=>Option.bind (Ee l j y') λl'=>k (.arr E e l')
    |none=>none)))<|none
 |_,_,_=>none
def zeroOf(P:Program)(t:TypeId):Option PV:=
 match P.info? t with|some i=>(match i.zero with|some z=>DS P t z|none=>none)|none=>none
structure Tab where
 l:List (Nat×Con)
 gl:List (Nat×List Value)
 vw:Bool
 cp:Bool:=false
def nV:List (Nat×Con)->Nat->Option Con|[],_=>none|(g,c)::r,f=>Bf (Nat.beq g f) (some c)<|nV r f
def Tab.get(T:Tab)(f:Nat):Option Con:=nV T.l f
def kQ:List (Nat×List Value)->Nat->Option (List Value)|[],_=>none|(g,c)::r,f=>Bf (Nat.beq g f) (some c)<|kQ r f
def Tab.nM(T:Tab)(P:Program)(g:Nat)(t:TypeId):Option PV:=match kQ T.gl g with
 |some cs=>match parse P Q t cs with|some (v,[])=>some v|_=>none
 |none=>none
abbrev HW(R:Type):=Nat->List PV->S-> (S->PV->Option R)->Option R
def nW:PV->List Nat
 | .own i=>[i]
 | .ptr i _=>[i]
 | .view _ i _ _ _ _=>[i]
 | .agg l=>go l
 | .tup l=>go l
 | .fn _ l=>go l
 | .mp _ l=>go l
 | .bfn _ l=>go l
 |_=>[]
where go:List PV->List Nat
 |[]=>[]
 |a::r=>nW a++go r
def owns:PV->List Nat
 | .own i=>[i]
 | .view _ i _ _ _ _=>[i]
 | .agg l=>go l
 | .tup l=>go l
 |_=>[]
where go:List PV->List Nat
 |[]=>[]
 |a::r=>owns a++go r
def Hm:List (ET×Option TypeId)->List PV->List Nat
 |p::r,v::vs=>match p.2 with|none=>owns v++Hm r vs|some _=>Hm r vs
 |_,_=>[]
def S.Ln(s:S):List Nat->Option S
 |[]=>some s
 |i::r=>match Bd s.it i with
  | .dead=>s.Ln r
  | .box _ _=>none
  | .arr _ _ _=>match s.freeze i with|some s'=>s'.Ln r|none=>none
def asInt:PV->Option Int| .val e x=>(match e,x with| .int k,y=>(match k,y with| .i64,z=>some z|_,_=>none)|_,_=>none)|_=>none
def Wp:PV->Option Int| .val e x=>(match e,x with| .int k,y=>some (k.gi.toZ y)|_,_=>none)|_=>none
def Sp(s:Slots)(o:Option Operand)(dflt:Int):Option Int:=match o with|none=>some dflt|some x=>Wp (Bs s x)
def JJ(P:Program)(t:TypeId):Option TypeId:=match P.underlying t with|some (.slice e)=>some e|_=>none
def dI:Nat->List (Nat×Operand)->Bool
 |_,[]=>true
 |n,(i,_)::r=>Nat.beq n i&&dI (n+1) r
def TJ(e:ET):List PV->Option (List e.T)
 |[]=>some []
 |a::r=>match e.of a,TJ e r with|some x,some y=>some (x::y)|_,_=>none
def QH(P:Program)(t:TypeId)(e:ET):Bool:=match P.info? t with
 |some i=>Nat.beq i.size e.size&&Nat.ble i.bytes 4096&&(match i.zero with|some z=>Nat.beq z.cells.size e.size|none=>false)&&Nat.ble 1 e.size
 |none=>false
def AP:List (Nat×PV)->List PV->Option (List PV)
 |[],l=>some l
 |(i,v)::r,l=>match l[i]? with
  |some u=>Bf (Nat.beq u.size v.size&&v.WY) (AP r (l.set i v))<|none
  |none=>none
def QC(e:ET):List (Nat×PV)->List e.T->Option (List e.T)
 |[],l=>some l
 |(i,v)::r,l=>match l[i]?,e.of v with
  |some _,some x=>QC e r (l.set i x)
  |_,_=>none
def Ty(P:Program):List Field->List PV->Nat->Bool
 |[],[],_=>true
 |f::fs,v::vs,off=>Nat.beq f.offset off&&(match P.info? f.type with|some i=>Nat.beq i.size v.size|none=>false)&&Ty P fs vs (off+v.size)
 |_,_,_=>false
def bZ{R:Type}(P:Program)(s:S)(d:Option Nat)(et:TypeId)(x:PV)(lo hi:Option Operand)(k:S->Option R):Option R:=
 match P.info? et with
 |none=>none
 |some inf=>match x with
  | .own i=>match Bd s.it i with
   | .arr _ e l=>Bf (Nat.beq inf.size e.size&&Nat.ble 1 e.size) ((match Sp s.sl lo 0,Sp s.sl hi (Aa l)with
    |some a,some b=>Option.bind (SD (Aa l) a b) λ_=>k (s.Cl d (.view true i [] e a (b-a)))
    |_,_=>none))<|none
   |_=>none
  | .view o i p e l0 n=>Bf (Nat.beq inf.size e.size&&Nat.ble 1 e.size) ((match Sp s.sl lo 0,Sp s.sl hi n with
    |some a,some b=>Option.bind (SD n a b) λ_=>k (s.Cl d (.view o i p e (l0+a) (b-a)))
    |_,_=>none))<|none
  |_=>none
def dK(P:Program)(t:TypeId):Option (TypeId×Nat×TypeId):=match P.underlying t with
 |some (.array m et)=>some (t,m,et)
 |some (.pointer u)=>match P.underlying u with|some (.array m et)=>some (u,m,et)|_=>none
 |_=>none
def ZF:PV->Bool| .own _=>true| .view _ _ _ _ _ _=>true|_=>false
def VC{R:Type}(vw:Bool)(s:S)(d:Option Nat)(t:TypeId)(x:Operand)(lo hi:Option Operand)(k:S->Option R)(P:Program):Option R:=
 match P.underlying t with
 |some .string=>match Bs s.sl x with
  | .val .str l=>match Sp s.sl lo 0,Sp s.sl hi (Aa l)with
   |some a,some b=>Option.bind (Bu l a b) λy=>k (s.Cl d (.val .str y))
   |_,_=>none
  |_=>none
 |some (.slice et)=>Bf (vw&&ZF (Bs s.sl x)) (bZ P s d et (Bs s.sl x) lo hi k)<|match s.Ln (owns (Bs s.sl x))with
  |none=>none
  |some s=>match Bs s.sl x with
   | .val e l=>match e,l with
    | .list e,l=>match P.info? et with
     |some i=>Bf (Nat.beq i.size e.size&&Nat.ble 1 e.size) ((match Sp s.sl lo 0,Sp s.sl hi (Aa l)with
      |some a,some b=>Option.bind (Bu l a b) λy=>k (s.Cl d (.val (.list e) y))
      |_,_=>none))<|none
     |none=>none
    |_,_=>none
   | .nils=>match P.info? et,Sp s.sl lo 0,Sp s.sl hi 0 with
    |some _,some a,some b=>Option.bind (SD 0 a b) λ_=>k (s.Cl d .nils)
    |_,_,_=>none
   |_=>none
 |_=>match dK P t with
  |some (_,m,et)=>match P.info? et with
   |none=>none
   |some inf=>match Bs s.sl x with
    | .ptr i p=>match Bd s.it i with
     | .box _ v=>match MP v p with
      |some (.val e l)=>match e,l with
       | .vec m' e,_=>Bf (Nat.beq m' m&&Nat.beq inf.size e.size&&Nat.ble 1 e.size) ((match Sp s.sl lo 0,Sp s.sl hi m with
        |some a,some b=>Option.bind (SD m a b) λ_=>k (s.Cl d (.view false i p e a (b-a)))
        |_,_=>none))<|none
       |_,_=>none
      |_=>none
     |_=>none
    |_=>none
  |none=>none
def PC{R:Type}(cp:Bool)(s:S)(d:Option Nat)(t:TypeId)(x:Operand)(lo:Option Operand)(hi mx:Operand)(k:S->Option R)(P:Program):Option R:=
 match P.underlying t with
 |some (.slice et)=>match s.Ln (owns (Bs s.sl x))with
  |none=>none
  |some s=>match Bs s.sl x with
   | .val e l=>match e,l with
    | .list e,l=>match P.info? et with
     |some i=>Bf (Nat.beq i.size e.size&&Nat.ble 1 e.size) ((match Sp s.sl lo 0,Wp (Bs s.sl hi),Wp (Bs s.sl mx)with
      |some a,some b,some c=>Option.bind (Ef (decide (b<=c/\c<=Aa l))) λ_=>Option.bind (Bu l a b) λy=>k (s.Cl d (Bf cp (.cap e y (c-a))<| .val (.list e) y))
      |_,_,_=>none))<|none
     |none=>none
    |_,_=>none
   |_=>none
 |_=>none
def IK{R:Type}(P:Program)(s:S)(d:Option Nat)(t:TypeId)(x ix:Operand)(k:S->Option R):Option R:=
 match Wp (Bs s.sl ix)with
 |none=>none
 |some j=>match P.underlying t with
  |some (.slice et)=>match P.info? et with
   |none=>none
   |some inf=>match Bs s.sl x with
    | .val e l=>match e,l with
     | .list e,l=>Bf (Nat.beq inf.size e.size&&Nat.ble 1 e.size) (Option.bind (Ag l j) λy=>k (s.Cl d (.rptr (e.pv y))))<|none
     |_,_=>none
    | .own i=>match Bd s.it i with
     | .arr _ e l=>Bf (Nat.beq inf.size e.size&&Nat.ble 1 e.size) (Option.bind (Ag l j) λ_=>k (s.Cl d (.ptr i [.idx j e.size])))<|none
     |_=>none
    | .view _ i p e lo n=>Bf (Nat.beq inf.size e.size&&Nat.ble 1 e.size) (Option.bind (Ef (decide (0<=j/\j<n))) λ_=>k (s.Cl d (.ptr i (p++[.idx (lo+j) e.size]))))<|none
    |_=>none
  |some (.array n et)=>match P.info? et with
   |none=>none
   |some inf=>match Bs s.sl x with
    | .ptr i p=>match Bd s.it i with
     | .box _ v=>match MP v p with
      |some (.val e l)=>match e,l with
       | .vec m e,l=>Bf (Nat.beq inf.size e.size&&Nat.ble 1 e.size&&Nat.beq m n) (Option.bind (Ag l j) λ_=>k (s.Cl d (.ptr i (p++[.idx j e.size]))))<|none
       |_,_=>none
      |_=>none
     |_=>none
    |_=>none
  |_=>none
def bA{R:Type}(P:Program)(s:S)(d:Option Nat)(t:TypeId)(x:Operand)(k:S->Option R):Option R:=
 match Bs s.sl x with
 | .ptr i p=>getRoot (Bd s.it i) p λu=>Bf (Ff P t u) (k (s.Cl d u))<|none
 |_=>none
def qC:Step->Bool| .idx _ _=>true|_=>false
def RX(s:S)(a x:Operand):Option S:=match Bs s.sl a with
 | .ptr _ p=>match p.any qC with|true=>s.Ln (owns (Bs s.sl x))|false=>some s
 |_=>none
def NC:PV->Bool| .tup _=>false| .cst _=>false| .any=>false| .view _ _ _ _ _ _=>false| .mp _ _=>false| .cap _ _ _=>false|v=>v.WY
def VJ{R:Type}(P:Program)(s0:S)(t:TypeId)(a x:Operand)(k:S->Option R):Option R:=
 match RX s0 a x with
 |none=>none
 |some s=>match Bs s.sl a with
  | .ptr i p=>match P.info? t with
   |some inf=>Bf (NC (Bs s.sl x)&&Nat.beq inf.size (Bs s.sl x).size&&Nat.blt 0 inf.size) (MZ (Bs s.sl x) (Bd s.it i) p λit'=>k (s.Hi i it'))<|none
   |none=>none
  |_=>none
def dE(s:S)(E:TypeId)(e:ET):PV->Option (S×Nat)
 | .nils=>some (s.add (.arr E e []),s.new)
 | .own i=>match Bd s.it i with
  | .arr E' e' _=>Bf (Nat.beq E E') ((if e'=e then some (s,i)else none))<|none
  |_=>none
 | .view true i p e1 lo n=>match Bd s.it i with
  | .arr E' e' l=>Bf (Nat.beq E E'&&decide (lo=0)&&decide (e1=e)) ((if h:e'=e then some (((s.Hi i .dead).sub i .any).add (.arr E e (Zq (h▸l) 0 n)),s.new)else none))<|none
  |_=>none
 |_=>none
def oC(e:ET):Item->Option (List e.T)
 | .arr _ e' l=>if h:e'=e then some (h▸l)else none
 |_=>none
def oB{R:Type}(P:Program)(s:S)(E:TypeId)(e:ET)(t2:TypeId)(y:Operand)(k:List e.T->Option R):Option R:=
 match P.underlying t2 with
 |some .string=>match Bs s.sl y with
  | .val .str m=>(match Uv (.list (.int .u8)) (.list e) m with|some m=>k m|none=>none)
  |_=>none
 |some (.slice _)=>match elems s e (Bs s.sl y)with|some m=>k m|none=>none
 |some (.int _)=>match asInt (Bs s.sl y),zeroOf P E with
  |some n,some z=>match e.of z with
   |some z=>Option.bind (TC n z) k
   |none=>none
  |_,_=>none
 |_=>none
def oS(P:Program)(s:S)(e:ET)(t2:TypeId)(y:Operand):Option (List e.T):=match P.underlying t2 with
 |some .string=>match Bs s.sl y with
  | .val .str m=>Uv (.list (.int .u8)) (.list e) m
  |_=>none
 |some (.slice _)=>elems s e (Bs s.sl y)
 |_=>none
def oP(e:ET):PV->Option (List e.T×Int)| .cap a l c=>(if h:a=e then some (h▸l,c)else none)|_=>none
def OB{R:Type}(P:Program)(s:S)(d:Option Nat)(x y:Operand)(t t2:TypeId)(k:S->Option R):Option R:=
 match JJ P t with
 |none=>none
 |some E=>match bY P Q E with
  |none=>none
  |some e=>Bf (QH P E e&&(Bs s.sl x).WY) ((match oP e (Bs s.sl x)with
   |some (l,c)=>match oS P s e t2 y with
    |some m=>Option.bind (Bb l m) λr=>Option.bind (Ef (decide (c<Aa r))) λ_=>k ((s.add (.arr E e r)).Cl d (.own s.new))
    |none=>none
   |none=>match dE s E e (Bs s.sl x)with
   |none=>none
   |some (s1,i)=>match oC e (Bd s1.it i)with
    |none=>none
    |some l=>oB P s E e t2 y λm=>Option.bind (Bb l m) λr=>k ((((s1.Hi i .dead).sub i .any).add (.arr E e r)).Cl d (.own s1.new))))<|none
def jA(P:Program)(s:S)(e:ET)(t2:TypeId)(y:Operand):Option (List e.T):=
 match P.underlying t2 with
 |some .string=>match Bs s.sl y with
  | .val .str m=>Uv (.list (.int .u8)) (.list e) m
  |_=>none
 |some (.slice _)=>gY s e (Bs s.sl y)
 |_=>none
def VG{R:Type}(P:Program)(s:S)(d:Option Nat)(x y:Operand)(t t2:TypeId)(k:S->Option R):Option R:=
 match JJ P t with
 |none=>none
 |some E=>match P.info? E with
  |none=>none
  |some inf=>match Bs s.sl x with
   | .own i=>match Bd s.it i with
    | .arr E' e l=>Bf (Nat.beq inf.size e.size&&Nat.ble 1 e.size) ((match jA P s e t2 y with
     |some m=>k ((s.Hi i (.arr E' e (eB l m))).Cl d (.i .i64 (CR (Aa l) m.length)))
     |none=>none))<|none
    |_=>none
   | .view true i _ e1 lo n=>match Bd s.it i with
    | .arr E' e l=>Bf (Nat.beq inf.size e.size&&Nat.ble 1 e.size&&decide (e1=e)) ((match jA P s e t2 y with
     |some m=>k ((s.Hi i (.arr E' e (Jw l lo n m))).Cl d (.i .i64 (CR n m.length)))
     |none=>none))<|none
    |_=>none
   | .view false i p e1 lo n=>match Bd s.it i with
    | .box T v=>match MP v p with
     |some (.val a x)=>match a,x with
      | .vec q e,l=>Bf (Nat.beq inf.size e.size&&Nat.ble 1 e.size&&decide (e1=e)&&decide (0<=lo/\0<=n/\lo+n<=q)) ((match jA P s e t2 y with
       |some m=>VR (.val (.vec q e) (Jw l lo n m)) v p λv'=>k ((s.Hi i (.box T v')).Cl d (.i .i64 (CR n m.length)))
       |none=>none))<|none
      |_,_=>none
     |_=>none
    |_=>none
   |_=>none
def UR{R:Type}(P:Program)(s:S)(d:Option Nat)(t:TypeId)(parts:List (Nat×Operand))(k:S->Option R):Option R:=
 match P.underlying t,zeroOf P t with
 |some (.struct fs),some (.agg zs)=>Bf (Ty P fs.toList zs 0) ((match AP (parts.map λp=>(p.1,Bs s.sl p.2)) zs with
  |some l=>k (s.Cl d (.agg l))
  |none=>none))<|none
 |some (.array _ et),some (.val e l)=>match e,l with
  | .vec m a,l=>match P.info? et,QC a (parts.map λp=>(p.1,Bs s.sl p.2)) l with
   |some inf,some l'=>Bf (Nat.beq inf.size a.size) (k (s.Cl d (.val (.vec m a) l')))<|none
   |_,_=>none
  |_,_=>none
 |_,_=>none
def Wb{R:Type}(P:Program)(s0:S)(d:Option Nat)(t:TypeId)(len:Nat)(parts:List (Nat×Operand))(k:S->Option R):Option R:=
 match JJ P t with
 |none=>none
 |some E=>match bY P Q E with
  |none=>none
  |some e=>Bf (QH P E e&&dI 0 parts&&Nat.beq parts.length len&&Nat.ble (len*e.size) 4096) ((match s0.Ln (owns.go (parts.map λp=>Bs s0.sl p.2))with
   |none=>none
   |some s=>match TJ e (parts.map λp=>Bs s.sl p.2)with
    |some l=>k ((s.add (.arr E e l)).Cl d (.own s.new))
    |none=>none))<|none
def aW{R:Type}(P:Program)(s:S)(d:Option Nat)(t:TypeId)(a b:Operand)(k:S->Option R):Option R:=
 match JJ P t with
 |none=>none
 |some E=>match bY P Q E with
  |none=>none
  |some e=>Bf (QH P E e) ((match asInt (Bs s.sl a),asInt (Bs s.sl b),zeroOf P E with
   |some n,some n',some z=>match e.of z with
    |some z=>Option.bind (TC n z) λl=>Option.bind (Ef (geq n' n)) λ_=>k ((s.add (.arr E e l)).Cl d (.own s.new))
    |none=>none
   |_,_,_=>none))<|none
def ET.RN:ET->Bool| .list _=>true| .vec _ e=>e.RN| .cons a r=>a.RN||r.RN|_=>false
def iQ:ET×Option TypeId->Bool|(.list e,some _)=>e.RN|(e,_)=>e.RN
def mR(rs:List Sh):Bool:=(Hj rs).any iQ
def OR(c:Con):Bool:=mR c.rs
def TM(l:List (ET×Option TypeId)):Bool:=l.all λp=>p.2.isNone
def cF{R:Type}(P:Program)(T:Tab)(inl:HW R)(s0:S)(d:Option Nat)(f:Nat)(caps:List PV)(as:List Operand)(k:S->Option R):Option R:=
 match T.get f with
 |some c=>match caps with
  |[]=>match eN c.ps (as.map (Bs s0.sl))with
   |none=>none
   |some qW=>match(match OR c with|true=>s0.Ln (Hm (Hj c.ps) qW)|false=>some s0)with
    |none=>none
    |some s=>Bf (!QU (as.map (Bs s.sl))) (none)<|match eN c.ps (as.map (Bs s.sl))with
     |none=>none
     |some ls=>Bf (OR c&& !(Hm (Hj c.ps) ls).isEmpty) (none)<|match Qc s (Hj c.ps) ls with
      |none=>none
      |some x=>match consume s (Hj c.ps) ls with
       |none=>none
       |some is=>Bf (!((Hm (Hj c.ps) ls).all λi=>!Jh i is)) (none)<|match s.LD is with
        |none=>none
        |some s1=>Option.bind (c.fn x) λy=>
         match Ce (Hj c.rs) y s1 with
         |(us,s')=>match Yu c.rs us with
          |some vs=>k (s'.Cl d (YL vs))
          |none=>none
  |_=>none
 |none=>Bf (QU (as.map (Bs s0.sl))) (inl f (as.map (Bs s0.sl)++caps) s0 (λs v=>k (s.Cl d v)))<|none
open Classical in
noncomputable def both{R:Type}(a:Option R):List (Option R)->Option R
 |[]=>a
 |b::r=>if a=b then both a r else none
theorem IF(a:Option R):both a [a]=a:=by simp[both]
noncomputable def NG{R α:Type}(l:List α)(a b:Option R):Option R:=match l with|[]=>both a [b]|_::_=>b
theorem mU{α:Type}{l:List α}{a b:Option R}(h:l=[]->a=b):NG l a b=b:=by
 cases l with
 |nil=>rw[h rfl];simp[NG,IF]
 |cons _ _=>rfl
noncomputable def iM{R:Type}(P:Program)(s:S)(dn:Nat)(o:BinOp)(t:TypeId)(x:PV)(k:S->Option R):Option R:=
 match OV o,P.underlying t with
 |some y,some (.slice _)=>match x with
  | .nils=>k (s.set dn (.b y))
  | .val e l=>match e,l with
   | .list e,l=>Bf (Nat.ble 1 e.size) (NG l (k (s.set dn (.b y))) (k (s.set dn (.b (!y)))))<|none
   |_,_=>none
  | .own i=>match Bd s.it i with
   | .arr _ e l=>Bf (Nat.ble 1 e.size) (NG l (k (s.set dn (.b y))) (k (s.set dn (.b (!y)))))<|none
   |_=>none
  |_=>none
 |_,_=>none
def ER{R:Type}(P:Program)(T:Tab)(s:S)(dn:Nat)(g:Nat)(o:Op)(k:S->Option R):Option R:=
 match o with
 | .load t _=>match T.nM P g t with
  |some v=>Bf (Ff P t v) (k (s.set dn v))<|none
  |none=>none
 | .indexAddr t _ ix=>match Wp (Bs s.sl ix),P.underlying t,T.nM P g t with
  |some j,some (.array m et),some (.val e l)=>match P.info? et,e,l with
   |some inf, .vec m' e,l=>Bf (Nat.beq m' m&&Nat.beq inf.size e.size&&Nat.ble 1 e.size) (Option.bind (Ag l j) λy=>k (s.set dn (.rptr (e.pv y))))<|none
   |_,_,_=>none
  |_,_,_=>none
 | .slice t _ lo hi none=>match dK P t with
  |some (u,m,et)=>match T.nM P g u with
   |some (.val e l)=>match P.info? et,e,l with
    |some inf, .vec m' e,l=>Bf (Nat.beq m' m&&Nat.beq inf.size e.size&&Nat.ble 1 e.size) ((match Sp s.sl lo 0,Sp s.sl hi m with
     |some a,some b=>Option.bind (Bu l a b) λy=>k (s.set dn (.val (.list e) y))
     |_,_=>none))<|none
    |_,_,_=>none
   |_=>none
  |none=>none
 |_=>none
def rG{R:Type}(a:UInt8)(k:PV->Option R)(z:PV):List UInt8->List PV->Option R
 |q::ks,v::vs=>if geq a q=true then k (.tup [v, .b true])else rG a k z ks vs
 |_,_=>k (.tup [z, .b false])
def bO{R:Type}(P:Program)(s:S)(dn:Nat)(t:TypeId)(x ix:Operand)(k:S->Option R):Option R:=
 match Bs s.sl x,Bs s.sl ix,P.underlying t with
 | .mp ks vs, .val e a,some (.map kt et)=>match e,a,P.underlying kt with
  | .int .u8,a,some (.int .u8)=>match P.info? et with
   |some inf=>match inf.zero with
    |some .nilFunc=>rG a (λv=>k (s.set dn v)) (.cst .nilFunc) ks vs
    |_=>none
   |none=>none
  |_,_,_=>none
 |_,_,_=>none
noncomputable def rK{R:Type}(P:Program)(T:Tab)(inl:HW R)(s:S)(dn:Nat)(ty:TypeId)(o:Op)(k:S->Option R):Option R:=
 match o with
 | .binOp o t x y _=>match Bs s.sl x,Bs s.sl y with
  | .val (.int a) u, .val (.int b) v=>match eR o b v,gB o a u b v with
   |some c,some r=>Option.bind (Ef c) λ_=>k (s.set dn r)
   |_,_=>none
  | .val .str u, .val .str v=>match o with
   | .add=>Option.bind (Bb u v) λr=>k (s.set dn (.val .str r))
   |_=>none
  |a, .nils=>iM P s dn o t a k
  |_,_=>none
 | .index t x ix=>match Wp (Bs s.sl ix),Bs s.sl x with
  |some j, .val e0 l0=>match e0,l0,P.underlying t with
   | .str,l,some .string=>Option.bind (Ag l j) λy=>k (s.set dn (.i .u8 y))
   | .vec n e,l,some (.array m et)=>Bf (Nat.beq m n) (Option.bind (Ag l j) λy=>Bf (Ff P et (e.pv y)) (k (s.set dn (e.pv y)))<|none)<|none
   |_,_,_=>none
  |_,_=>none
 | .slice t x lo hi none=>match x with
  | .global g=>ER P T s dn g (.slice t x lo hi none) k
  |x=>VC T.vw s (some dn) t x lo hi k P
 | .indexAddr t x ix=>match x with
  | .global g=>ER P T s dn g (.indexAddr t x ix) k
  |x=>IK P s (some dn) t x ix k
 | .load t x=>match x with
  | .global g=>ER P T s dn g (.load t x) k
  |x=>bA P s (some dn) t x k
 | .alloc t=>match zeroOf P t with
  |some v=>k ((s.add (.box t v)).Cl (some dn) (.ptr s.new []))
  |none=>none
 | .box t x=>Bf (NC (Bs s.sl x)) (k ((s.add (.box t (Bs s.sl x))).Cl (some dn) (.ptr s.new [])))<|none
 | .assign (.const (.agg cs))=>match DS P ty (.agg cs)with
  |some v=>Bf (v.isA) (k (s.set dn v))<|none
  |none=>none
 | .move (.const (.agg cs))=>match DS P ty (.agg cs)with
  |some v=>Bf (v.isA) (k (s.set dn v))<|none
  |none=>none
 | .build t ps=>UR P s (some dn) t ps.toList k
 | .buildSlice t n ps=>Wb P s (some dn) t n ps.toList k
 | .makeSlice t a b=>aW P s (some dn) t a b k
 | .convert a t x=>match P.underlying a,P.underlying t with
  |some .string,some (.slice e)=>match P.underlying e,Bs s.sl x with
   |some (.int .u8), .val .str l=>k ((s.add (.arr e (.int .u8) l)).Cl (some dn) (.own s.new))
   |_,_=>none
  |some (.slice _),some (.slice e)=>Bf (Nat.beq a t) ((match P.underlying e,Bs s.sl x with
   |some (.int .u8), .own i=>(match Bd s.it i with
    | .arr _ e' l=>match e',l with
     | .int .u8,_::_=>k (s.Cl (some dn) (.own i))
     |_,_=>none
    |_=>none)
   |_,_=>none))<|none
  |_,_=>none
 | .call ⟨.builtin .append,as,ts⟩=>match as.toList,ts.toList with
  |[x,y],[t,t2]=>OB P s (some dn) x y t t2 k
  |_,_=>none
 | .call ⟨.builtin .copy,as,ts⟩=>match as.toList,ts.toList with
  |[x,y],[t,t2]=>VG P s (some dn) x y t t2 k
  |_,_=>none
 | .call ⟨.builtin .cap,as,ts⟩=>match as.toList,ts.toList with
  |[x],[t]=>match P.underlying t,Bs s.sl x with
   |some (.slice _), .nils=>k (s.set dn (.i .i64 (0:Int)))
   |_,_=>none
  |_,_=>none
 | .call ⟨.value g,as,_⟩=>match Bs s.sl g with
  | .fn f caps=>cF P T inl s (some dn) f caps as.toList k
  | .bfn f fs=>Bf ((T.get f).isNone&&QU (as.toList.map (Bs s.sl))) (inl f (fs++as.toList.map (Bs s.sl)) s (λs v=>k (s.Cl (some dn) v)))<|none
  |_=>none
 | .slice t x lo (some hi) (some mx)=>PC T.cp s (some dn) t x lo hi mx k P
 | .lookup t x ix true=>bO P s dn t x ix k
 |_=>none
noncomputable def pJ{R:Type}(P:Program)(T:Tab)(inl:HW R)(o:Oper)(s:S)(k:S->Option R):Option R:=
 match oJ P s o.op with
 |some v=>k (s.Cl o.dst v)
 |none=>match pY P s o.op with
  |some v=>k (s.Cl o.dst v)
  |none=>match o.dst with
   |some dn=>rK P T inl s dn o.type o.op k
   |none=>match o.op with
    | .store t a x=>VJ P s t a x k
    | .call ⟨.builtin .copy,as,ts⟩=>match as.toList,ts.toList with
     |[x,y],[t,t2]=>VG P s none x y t t2 k
     |_,_=>none
    |_=>none
noncomputable def pI{R:Type}(P:Program)(T:Tab)(inl:HW R)(o:Oper)(t:Nat)(want:Bool)(s:S)(k:S->Option R):Option R:=
 let on (bv:Bool):Option R:=Bf (CX want bv) (pJ P T inl o (s.res t bv) k)<|k ((s.res t bv).Cl o.dst .off)
 match Ky s.sl t with
 | .cst (.bool b)=>Bf (CX want b) (pJ P T inl o s k)<|k (s.Cl o.dst .off)
 | .off=>k (s.Cl o.dst .off)
 | .val .bool b=>match o.dst,oJ P (s.res t want) o.op,pY P (s.res t want) o.op with
  |some d,some v,_=>Bf (Nat.beq d t) (none)<|k (s.set d (.gd t want v))
  |some d,none,some v=>Bf (Nat.beq d t) (none)<|k (s.set d (.gd t want v))
  |_,_,_=>if b=true then on true else on false
 |_=>none
def Dt(n:Nat)(o:Oper):Bool:=match o.dst with|some d=>Nat.blt d n|none=>true
noncomputable def DT{R:Type}(P:Program)(T:Tab)(inl:HW R)(n:Nat)(ops:Array Oper)(o:Oper)(s:S)(k:S->Option R):Option R:=
 Bf (!Dt n o) (none)<|match o.guard with
 |none=>pJ P T inl o s k
 |some (j,want)=>match(ops[j]?).bind (·.dst)with
  |none=>none
  |some t=>match Ky s.sl t with
   | .gd t2 w2 v=>match Ky s.sl t2 with
    | .val .bool b=>if b=true then pI P T inl o t want (s.res t2 true) k else pI P T inl o t want (s.res t2 false) k
    |_=>none
   |_=>pI P T inl o t want s k
def jK(d t:Nat):Op->Option (UInt8×Operand)
 | .insert t' (.tmp q) (.const (.int .u8 n)) x=>Bf (Nat.beq t' t&&Nat.beq q d&&decide ((((GI.ofZ n:UInt8).toNat:Nat):Int)=n)) (some (GI.ofZ n,x))<|none
 |_=>none
def oR(P:Program)(n:Nat)(o:Oper):Option (Nat×Nat):=match o.op with
 | .makeMap t none=>match o.dst,o.guard,P.underlying t with
  |some d,none,some (.map kt _)=>match P.underlying kt with|some (.int .u8)=>Bf (Nat.blt d n) (some (d,t))<|none|_=>none
  |_,_,_=>none
 |_=>none
def qD:PV->Bool| .fn _ _=>true| .bfn _ _=>true|_=>false
def eF(u:UInt8):List UInt8->Bool|[]=>false|q::r=>geq u q||eF u r
noncomputable def Nw{R:Type}(P:Program)(T:Tab)(inl:HW R)(n:Nat)(ops:Array Oper):List Oper->Option (Nat×Nat×List UInt8×List PV)->S-> (S->Option R)->Option R
 |[],m,s,k=>match m with|none=>k s|some (d,_,ks,vs)=>k (s.set d (.mp ks vs))
 |o::r,m,s,k=>match m with
  |none=>match oR P n o with
   |none=>DT P T inl n ops o s λs'=>Nw P T inl n ops r none s' k
   |some (d,t)=>Nw P T inl n ops r (some (d,t,[],[])) (s.set d .undef) k
  |some (d,t,ks,vs)=>match o.guard,o.dst with
   |none,some q=>match Bf (Nat.blt q n&& !Nat.beq q d) (oJ P s o.op)<|none with
    |some v=>Nw P T inl n ops r (some (d,t,ks,vs)) (s.set q v) k
    |none=>DT P T inl n ops o (s.set d (.mp ks vs)) λs'=>Nw P T inl n ops r none s' k
   |none,none=>match jK d t o.op with
    |some (u,x)=>Bf (qD (Bs s.sl x)&& !eF u ks) (Nw P T inl n ops r (some (d,t,ks++[u],vs++[Bs s.sl x])) s k)<|none
    |none=>DT P T inl n ops o (s.set d (.mp ks vs)) λs'=>Nw P T inl n ops r none s' k
   |_,_=>none
noncomputable def FT{R:Type}(P:Program)(T:Tab)(inl:HW R)(n:Nat)(ops:Array Oper)(l:List Oper)(s:S)(k:S->Option R):Option R:=Nw P T inl n ops l none s k
def nG(T:Tab)(o:Oper):Bool:=match o.op with
 | .store _ _ _=>true
 | .call ⟨.builtin .append,_,_⟩=>true
 | .call ⟨.builtin .copy,_,_⟩=>true
 | .call ⟨.value (.func f),_,_⟩=>match T.get f with|some c=>!TM (Hj c.ps)|none=>true
 | .call ⟨.value _,_,_⟩=>true
 |_=>false
def SR(T:Tab)(s:S)(o:Oper):Bool:=match o.op with
 | .slice _ x _ _ _=>(owns (Bs s.sl x)).isEmpty
 | .buildSlice _ _ ps=>(owns.go (ps.toList.map λp=>Bs s.sl p.2)).isEmpty
 | .call ⟨.value (.func f),as,_⟩=>match T.get f with
  |some c=>TM (Hj c.ps)&&(!OR c||(owns.go (as.toList.map (Bs s.sl))).isEmpty)
  |none=>false
 |_=>!nG T o
def tw(z:Array Bool)(i:Nat):Bool:=z.getD i false
def calm(o:Oper):Bool:=o.guard.isNone&&(match o.op with
 | .load _ _=>true| .fieldAddr _ _ _=>true| .move _=>true| .binOp _ _ _ _ _=>true| .unOp _ _ _=>true| .extract _ _=>true| .pick _ _ _=>true
 | .buildSlice _ _ ps=>ps.isEmpty
 |_=>false)
def oQ(T:Tab)(listed:Array Bool):List Oper->Nat->Bool->Array Bool->Array Bool
 |[],_,_,acc=>acc
 |o::r,i,ahead,acc=>Bf (nG T o&& !(listed.getD i true)) (oQ T listed r (i+1) false (acc.push false))<|oQ T listed r (i+1) ahead (acc.push (ahead||(listed.getD i false||(calm o&&o.after.all λe=>acc.getD e.on false))))
def oY(P:Program)(T:Tab):Op->Option PV
 | .load t (.global g)=>match T.nM P g t with
  |some v=>Bf (Ff P t v) (some v)<|none
  |none=>none
 |_=>none
def KE(P:Program)(T:Tab)(mem:Bool)(s:S)(o:Op):Option PV:=match oJ P s o with
 |some v=>some v
 |none=>match(Bf (mem) (pY P s o)<|none)with|some v=>some v|none=>oY P T o
def WT(P:Program)(T:Tab)(n:Nat)(mem:Bool)(ops:Array Oper)(o:Oper)(s:S):Option (Nat×PV):=
 match o.dst with
 |none=>none
 |some d=>Bf (!Nat.blt d n) (none)<|match o.guard with
  |none=>(KE P T mem s o.op).map λv=>(d,v)
  |some (j,want)=>match(ops[j]?).bind (·.dst)with
   |none=>none
   |some t=>match Ky s.sl t with
    | .cst (.bool b)=>Bf (CX want b) ((KE P T mem s o.op).map λv=>(d,v))<|some (d, .off)
    | .off=>some (d, .off)
    | .val .bool b=>Bf (Nat.beq d t) (none)<|(KE P T mem (s.res t want) o.op).map λv=>(d, .gd t want v)
    |_=>none
def Ih(P:Program)(Tb:Tab)(n:Nat)(mem:Bool)(ops:Array Oper)(T:Array Bool)(listed:Array Bool)(s:S):List Nat->Option (Nat×Nat×PV)
 |[]=>none
 |i::r=>match ops[i]? with
  |none=>none
  |some o=>match WT P Tb n mem ops o s with
   |some (d,v)=>Bf (Iq ops (tw T) listed i) (some (i,d,v))<|Ih P Tb n mem ops T listed s r
   |none=>Ih P Tb n mem ops T listed s r
structure BV where
 X:Type
 E:Option X
 v:X->PV
def iC(P:Program)(s:S)(o:Op):Option BV:=match o with
 | .binOp o _ x y _=>match Bs s.sl x,Bs s.sl y with
  | .val (.int a) u, .val (.int b) v=>match eR o b v,gB o a u b v with
   |some c,some r=>some ⟨Unit,Ef c,λ_=>r⟩
   |_,_=>none
  | .val .str u, .val .str v=>match o with
   | .add=>some ⟨List UInt8,Bb u v, .val .str⟩
   |_=>none
  |_,_=>none
 | .index t x ix=>match Wp (Bs s.sl ix),Bs s.sl x,P.underlying t with
  |some j, .val .str l,some .string=>some ⟨UInt8,Ag l j, .i .u8⟩
  |_,_,_=>none
 | .slice t x lo hi mx=>match mx,P.underlying t with
  |none,some .string=>match Bs s.sl x with
   | .val .str l=>match Sp s.sl lo 0,Sp s.sl hi (Aa l)with
    |some a,some b=>some ⟨List UInt8,Bu l a b, .val .str⟩
    |_,_=>none
   |_=>none
  |none,some (.slice et)=>match Bs s.sl x with
   | .val e l=>match e,l with
    | .list e,l=>match P.info? et with
     |some i=>Bf (Nat.beq i.size e.size&&Nat.ble 1 e.size) ((match Sp s.sl lo 0,Sp s.sl hi (Aa l)with
      |some a,some b=>some ⟨List e.T,Bu l a b, .val (.list e)⟩
      |_,_=>none))<|none
     |none=>none
    |_,_=>none
   |_=>none
  |_,_=>none
 | .indexAddr t x ix=>match Wp (Bs s.sl ix)with
  |none=>none
  |some j=>match P.underlying t with
   |some (.slice et)=>match P.info? et with
    |none=>none
    |some inf=>match Bs s.sl x with
     | .val e l=>match e,l with
      | .list e,l=>Bf (Nat.beq inf.size e.size&&Nat.ble 1 e.size) (some ⟨e.T,Ag l j,λy=> .rptr (e.pv y)⟩)<|none
      |_,_=>none
     | .own i=>match Bd s.it i with
      | .arr _ e l=>Bf (Nat.beq inf.size e.size&&Nat.ble 1 e.size) (some ⟨e.T,Ag l j,λ_=> .ptr i [.idx j e.size]⟩)<|none
      |_=>none
     | .view _ i p e lo n=>Bf (Nat.beq inf.size e.size&&Nat.ble 1 e.size) (some ⟨Unit,Ef (decide (0<=j/\j<n)),λ_=> .ptr i (p++[.idx (lo+j) e.size])⟩)<|none
     |_=>none
   |some (.array n et)=>match P.info? et with
    |none=>none
    |some inf=>match Bs s.sl x with
     | .ptr i p=>match Bd s.it i with
      | .box _ v=>match MP v p with
       |some (.val e l)=>match e,l with
        | .vec m e,l=>Bf (Nat.beq inf.size e.size&&Nat.ble 1 e.size&&Nat.beq m n) (some ⟨e.T,Ag l j,λ_=> .ptr i (p++[.idx j e.size])⟩)<|none
        |_,_=>none
       |_=>none
      |_=>none
     |_=>none
   |_=>none
 |_=>none
inductive BG|on (b:BV)|ask (t:Nat) (want bv:Bool) (b:BV)
def TP(P:Program)(n:Nat)(ops:Array Oper)(o:Oper)(s:S):Option (Nat×BG):=
 match o.dst with
 |none=>none
 |some d=>Bf (!Nat.blt d n) (none)<|match o.guard with
  |none=>(iC P s o.op).map λb=>(d, .on b)
  |some (j,want)=>match(ops[j]?).bind (·.dst)with
   |none=>none
   |some t=>match Ky s.sl t with
    | .cst (.bool b)=>Bf (CX want b) ((iC P s o.op).map λb=>(d, .on b))<|none
    | .val .bool b=>Bf (Nat.beq d t) (none)<|(iC P (s.res t want) o.op).map λB=>(d, .ask t want b B)
    |_=>none
def Lf(P:Program)(n:Nat)(ops:Array Oper)(T:Array Bool)(listed:Array Bool)(s:S):List Nat->Option (Nat×Nat×BG)
 |[]=>none
 |i::r=>match ops[i]? with
  |none=>none
  |some o=>match TP P n ops o s with
   |some (d,v)=>Bf (Iq ops (tw T) listed i) (some (i,d,v))<|Lf P n ops T listed s r
   |none=>Lf P n ops T listed s r
def lQ(s:S)(d:Nat)(o:Op):Option (Nat×TypeId×Nat×List Step):=match o with
 | .load t x=>match Bs s.sl x with
  | .ptr i p=>match Bd s.it i with| .dead=>none|_=>some (d,t,i,p)
  |_=>none
 |_=>none
def mO(n:Nat)(ops:Array Oper)(o:Oper)(s:S):Option (Nat×TypeId×Nat×List Step):=
 match o.dst with
 |none=>none
 |some d=>Bf (!Nat.blt d n) (none)<|match o.guard with
  |none=>lQ s d o.op
  |some (j,want)=>match(ops[j]?).bind (·.dst)with
   |none=>none
   |some t=>match Ky s.sl t with
    | .cst (.bool b)=>Bf (CX want b) (lQ s d o.op)<|none
    |_=>none
def On(n:Nat)(ops:Array Oper)(T:Array Bool)(listed:Array Bool)(s:S):List Nat->Option (Nat×Nat×TypeId×Nat×List Step)
 |[]=>none
 |i::r=>match ops[i]? with
  |none=>none
  |some o=>match mO n ops o s with
   |some v=>Bf (Iq ops (tw T) listed i) (some (i,v))<|On n ops T listed s r
   |none=>On n ops T listed s r
def bT(ops:Array Oper)(s:S)(o:Oper):Bool:=match o.guard with
 |none=>true
 |some (j,_)=>match(ops[j]?).bind (·.dst)with
  |none=>false
  |some t=>match Ky s.sl t with| .cst (.bool _)=>true|_=>false
def aY(ops:Array Oper)(s:S)(i:Nat):Option (Nat×Bool):=match ops[i]? with
 |none=>none
 |some o=>match o.guard with
  |none=>none
  |some (j,_)=>match(ops[j]?).bind (·.dst)with
   |none=>none
   |some t=>match Ky s.sl t with
    | .val .bool b=>some (t,b)
    | .gd t2 _ _=>match Ky s.sl t2 with
     | .val .bool b=>some (t2,b)
     |_=>none
    |_=>none
def Vo{R:Type}(ops:Array Oper):List Nat->S-> (S->Option R)->Option R
 |[],s,k=>k s
 |i::r,s,k=>match aY ops s i with
  |some (t,b)=>if b=true then Vo ops r (s.res t true) k else Vo ops r (s.res t false) k
  |none=>Vo ops r s k
noncomputable abbrev pP{R:Type}(l:List Bool):(List Bool->R)->R:=List.rec (λk=>k []) (λb _ ih k=>match b with|true=>ih λr=>k (true::r)|false=>ih λr=>k (false::r)) l
theorem XI{R:Type}:∀(l:List Bool) (k:List Bool->R),pP l k=k l
 |[],_=>rfl
 |true::l,k=>XI l _
 |false::l,k=>XI l _
noncomputable abbrev sR{R:Type}(a:Array Bool)(k:Array Bool->R):R:=pP a.toList λl=>k ⟨l⟩
theorem jT(a:Array Bool)(k:Array Bool->R):sR a k=k a:=XI _ _
noncomputable def Rw{R:Type}(P:Program)(T:Tab)(inl:HW R)(n:Nat)(mem:Bool)(ops:Array Oper):Nat->Array Bool->Array Bool->S-> (S->Option R)->Option R
 |fuel,z0,listed,s,k=>sR listed λlisted=>match Region.ready .any ops listed with
  |[]=>k s
  |i::is=>match fuel with
   |0=>none
   |fuel+1=>
    let z:=Bf (mem&&Ql (tw z0) listed) (oQ T listed ops.toList 0 true #[])<|z0
    let main (s:S) (fin:S->Option R):Option R:=
     match Ih P T n mem ops z listed s (i::is)with
     |some (i,d,v)=>Rw P T inl n mem ops fuel z (listed.setIfInBounds i true) (s.set d v) k
     |none=>match Lf P n ops z listed s (i::is)with
     |some (i,d, .on b)=>Option.bind b.E λx=>Rw P T inl n mem ops fuel z (listed.setIfInBounds i true) (s.set d (b.v x)) k
     |some (i,d, .ask t want bv b)=>
      let on (c:Bool):Option R:=Bf (CX want c) (Option.bind b.E λx=>Rw P T inl n mem ops fuel z (listed.setIfInBounds i true) ((s.res t c).set d (b.v x)) k)<|Rw P T inl n mem ops fuel z (listed.setIfInBounds i true) ((s.res t c).set d .off) k
      if bv=true then on true else on false
     |none=>match(Bf (mem) (On n ops z listed s (i::is))<|none)with
     |some (i,d,t,j,p)=>getRoot (Bd s.it j) p λu=>Bf (Ff P t u) (Rw P T inl n mem ops fuel z (listed.setIfInBounds i true) (s.set d u) k)<|none
     |none=>fin s
    let one (s:S) (i:Nat):Option R:=match ops[i]? with
      |some o=>Bf (mem&& !((SR T s o&&bT ops s o)||(!tw z i&&Ql (tw z) (listed.setIfInBounds i true)))) (none)<|
       DT P T inl n ops o s λs'=>Rw P T inl n mem ops fuel z (listed.setIfInBounds i true) s' k
      |none=>none
    let rest (s:S):Option R:=both (one s i) (is.map (one s))
    main s λs=>Bf mem (Vo ops ((i::is)++(i::is)) s λs=>main s rest)<|rest s
inductive Co|own (E:TypeId) (e:ET)|ro (e:ET)
structure At where
 t:Nat
 p:List Nat
 c:Co
def nK:PV->List Nat->Option PV
 |v,[]=>some v
 | .agg l,n::r=>match l[n]? with|some v=>nK v r|none=>none
 |_,_=>none
def bV(new:PV):PV->List Nat->Option PV
 |_,[]=>some new
 | .agg l,n::r=>match l[n]? with
  |some v=>match bV new v r with|some v'=>some (.agg (l.set n v'))|none=>none
  |none=>none
 |_,_=>none
def bX(t:Nat)(new:PV):Slots->Slots
 |[]=>[]
 |(q,v)::r=>Bf (Nat.beq q t) ((q,new)::r)<|(q,v)::bX t new r
def qJ:PV->List Nat->Option (Nat×List Nat)
 | .ptr i [],p=>some (i,p)
 | .fn _ l,n::r=>match l[n]? with
  |some v=>(match v with| .ptr i []=>some (i,r)|_=>none)
  |none=>none
 | .mp _ l,n::r=>match l[n]? with
  |some v=>(match v with| .bfn _ (.ptr i []::_)=>some (i,r)|_=>none)
  |none=>none
 |_,_=>none
def pA(s:S)(a:At):Option S:=
 let go (v:PV) (put:S->PV->Option S):Option S:=match a.c,v with
  | .own E e, .nils=>put (s.add (.arr E e [])) (.own s.new)
  | .own _ _, .own _=>some s
  | .ro e, .nils=>put s (.val (.list e) [])
  | .ro _, .own i=>s.freeze i
  | .ro _, .val (.list _) _=>some s
  |_,_=>none
 match qJ (Ky s.sl a.t) a.p with
 |some (i,q)=>(match Bd s.it i with
  | .box T v=>match nK v q with
   |some u=>go u λs' n=>match bV n v q with
    |some v'=>some (s'.Hi i (.box T v'))
    |none=>none
   |none=>none
  |_=>none)
 |none=>match Ky s.sl a.t with
 | .view o i p e1 lo n=>match a.c,a.p with
  | .own E e,[]=>Bf (Nat.blt 0 e.size) ((match dE s E e (.view o i p e1 lo n)with
   |some (s',j)=>some ⟨bX a.t (.own j) s'.sl,s'.it,s'.st⟩
   |none=>none))<|none
  |_,_=>none
 |v=>match nK v a.p with
  |some u=>go u λs' n=>match bV n v a.p with
   |some v'=>some ⟨bX a.t v' s'.sl,s'.it,s'.st⟩
   |none=>none
  |none=>none
def gX(s:S):List At->Option S
 |[]=>some s
 |a::r=>match pA s a with|some s'=>gX s' r|none=>none
def CT(s:Slots):List Nat->Slots
 |[]=>[]
 |t::r=>match Ky s t with
  | .undef=>CT s r
  | .off=>CT s r
  | .gd _ _ _=>CT s r
  |v=>(t,v)::CT s r
def nZ:Item->List Nat| .box _ v=>nW v|_=>[]
def reach(it:List Item):Nat->List Nat->List Nat->List Nat
 |0,_,seen=>seen
 |_+1,[],seen=>seen
 |q+1,i::r,seen=>Bf (Jh i seen) (reach it q r seen)<|reach it q (r++nZ (Bd it i)) (seen++[i])
def posOf(i:Nat):List Nat->Nat->Option Nat
 |[],_=>none
 |j::r,n=>Bf (Nat.beq i j) (some n)<|posOf i r (n+1)
def RF(o:List Nat):PV->PV
 | .own i=>match posOf i o 0 with|some j=> .own j|none=> .any
 | .ptr i p=>match posOf i o 0 with|some j=> .ptr j p|none=> .any
 | .view w i p e lo n=>match posOf i o 0 with|some j=> .view w j p e lo n|none=> .any
 | .agg l=> .agg (go o l)
 | .tup l=> .tup (go o l)
 | .fn f l=> .fn f (go o l)
 | .mp ks l=> .mp ks (go o l)
 | .bfn f l=> .bfn f (go o l)
 | .gd t w v=> .gd t w (RF o v)
 | .rptr v=> .rptr (RF o v)
 |v=>v
where go (o:List Nat):List PV->List PV
 |[]=>[]
 |a::r=>RF o a::go o r
def nA(o:List Nat):Item->Item| .box T v=> .box T (RF o v)|a=>a
def eM(o:List Nat)(l:Slots):Slots:=l.map λp=>(p.1,RF o p.2)
def XG(l:Slots):List Nat:=(l.map λp=>nW p.2).flatten
def S.canon(s:S)(lv:List Nat):S:=
 let sl:=CT s.sl lv
 let o:=reach s.it 200 (XG sl++(s.st.map XG).flatten) []
 ⟨eM o sl,o.map λi=>nA o (Bd s.it i),s.st.map (eM o)⟩
def S.cn(s:S)(lv:List Nat)(co:List At):Option S:=match gX s co with|some s'=>some (s'.canon lv)|none=>none
inductive An
 |d
 |seq (a b:An)
 |cut (lv:List Nat) (co:List At) (a b:An)
 |blk (a:An)
 |loop (lv:List Nat) (co:List At) (a:An)
 |cond (a b:An)
 |mode (mem:Bool)
 |keep (lv:List Nat) (mem:Bool)
def IP:An->Bool| .mode b=>b| .keep _ b=>b|_=>true
def WZ{R:Type}(an:An)(inl:HW R):HW R:=match an with| .keep lv _=>λf as s k=>inl f as ⟨CT s.sl lv,s.it,s.st⟩ k|_=>inl
def An.l:An->An| .seq a _=>a| .cut _ _ a _=>a| .cond a _=>a| .blk a=>a| .loop _ _ a=>a|_=> .d
def An.r:An->An| .seq _ b=>b| .cut _ _ _ b=>b| .cond _ b=>b|_=> .d
structure K (R:Type)where
 n:S->Option R
 x:Nat->S->Option R
 r:S->Option R
def hold{R:Type}(k:S->Option R)(s:S):Option R:=k s
def RJ{R:Type}(an:An)(k:S->Option R)(s:S):Option R:=match an with
 | .cut lv co _ _=>match s.cn lv co with|some s'=>hold k s'|none=>none
 |_=>k s
def Se{R:Type}(an:An)(k:S->Option R)(s:S):Option R:=match an with
 | .loop lv co _=>match s.cn lv co with|some s'=>k s'|none=>none
 |_=>none
def iter{R:Type}(an:An)(body:(S->Option R)->S->Option R):Nat->S->Option R
 |0,_=>none
 |q+1,s=>body (Se an (iter an body q)) s
noncomputable def nJ:{n:Nat//n=Cu}:=Classical.choice ⟨⟨Cu,rfl⟩⟩
noncomputable def Bo:Nat:=nJ.1
theorem Ao:Bo=Cu:=nJ.2
noncomputable def ex{R:Type}(P:Program)(T:Tab)(inl:HW R)(n:Nat):Code->An->K R->S->Option R
 | .skip,_,k,s=>k.n s
 | .ret,_,k,s=>k.r s
 | .exit id,_,k,s=>k.x id s
 | .seq a b,an,k,s=>ex P T inl n a an.l {k with n:=RJ an λs'=>ex P T inl n b an.r k s'} s
 | .cond c a b,an,k,s=>match Bs s.sl c with
  | .val .bool t=>if t=true then ex P T inl n a an.l k s else ex P T inl n b an.r k s
  |_=>none
 | .block id a,an,k,s=>ex P T inl n a an.l {k with x:=λid' s'=>Bf (Nat.beq id' id) (k.n s')<|k.x id' s'} s
 | .loop a,an,k,s=>Se an (iter an (λkn s'=>ex P T inl n a an.l {k with n:=kn} s') Bo) s
 | .region _ ops false,an,k,s=>Bf (CU ops.toList) (FT P T (WZ an inl) n ops ops.toList s k.n)<|none
 | .region _ ops true,an,k,s=>Bf (CU ops.toList) (Rw P T (WZ an inl) n (IP an) ops ops.size (Bf (IP an) (#[])<|Array.replicate ops.size true) (Array.replicate ops.size false) s k.n)<|none
 |_,_,_,_=>none
def Jc:Nat->List PV->Slots
 |_,[]=>[]
 |n,a::r=>(n,a)::Jc (n+1) r
def bQ(P:Program)(s:S):ResultVar->Option PV
 | .tmp t=>Bf ((Bs s.sl (.tmp t)).WY) (some (Bs s.sl (.tmp t)))<|none
 | .cell a t=>match Ky s.sl a with
  | .ptr i p=>match Bd s.it i with
   | .box _ v=>match MP v p with
    |some u=>Bf (Ff P t u) (some u)<|none
    |none=>none
   |_=>none
  |_=>none
def JT(P:Program)(s:S):List ResultVar->Option (List PV)
 |[]=>some []
 |r::rs=>match bQ P s r,JT P s rs with|some v,some vs=>some (v::vs)|_,_=>none
noncomputable def Mc{R:Type}(P:Program)(T:Tab):Nat->List (Nat×An)->HW R
 |0,_=>λ_ _ _ _=>none
 |q+1,ans=>λf as s k=>match SB ans f,P.funcs[f]? with
  |some an,some fn=>match fn.body with
   |none=>none
   |some c=>Bf (Nat.ble as.length fn.ntmps) (
    ex P T (Mc P T q ans) fn.ntmps c an {n:=gJ P fn.results.toList k,x:=λ_ _=>none,r:=gJ P fn.results.toList k} ⟨Jc 0 as,s.it,s.sl::s.st⟩)<|none
  |_,_=>none
where
 SB:List (Nat×An)->Nat->Option An|[],_=>none|(g,a)::r,f=>Bf (Nat.beq g f) (some a)<|SB r f
 gJ {R:Type} (P:Program) (vars:List ResultVar) (k:S->PV->Option R) (s':S):Option R:=match JT P s' vars,s'.st with
  |some vs,sl::st=>k ⟨sl,s'.it,st⟩ (YL vs)
  |_,_=>none
def Ua(s:S):List (ET×Option TypeId)->List PV->List Nat->Bool
 |[],[],_=>true
 |(e,o)::r,v::vs,seen=>match o with
  |none=>(owns v).isEmpty&&Ua s r vs seen
  |some E=>match e,v with
   | .list a, .nils=>Ua s r vs seen
   | .list a, .own i=>!Jh i seen&&(match Bd s.it i with| .arr E' a' _=>Nat.beq E' E&&decide (a'=a)|_=>false)&&Ua s r vs (i::seen)
   |_,_=>false
 |_,_,_=>false
def OE:List (ET×Option TypeId)->List PV->List Nat
 |(_,none)::r,v::vs=>owns v++OE r vs
 |(_,some _)::r,_::vs=>OE r vs
 |_,_=>[]
def oV(P:Program)(rs:List Sh)(vars:List ResultVar)(s:S):Option (List PV):=match JT P s vars with|some vs=>eN rs vs|none=>none
def BO(P:Program)(rs:List Sh)(vars:List ResultVar)(s0:S):Option (Lg (Hj rs)):=
 match oV P rs vars s0 with
 |none=>none
 |some qW=>match s0.Ln (OE (Hj rs) qW)with
  |none=>none
  |some s=>match oV P rs vars s with
   |some ls=>Bf (Ua s (Hj rs) ls []) (Qc s (Hj rs) ls)<|none
   |none=>none
def args(ps:List Sh)(x:Lg (Hj ps)):Option (List PV):=Yu ps (Ce (Hj ps) x ⟨[],[],[]⟩).1
def XH(ps:List Sh)(x:Lg (Hj ps)):List Item:=(Ce (Hj ps) x ⟨[],[],[]⟩).2.it
noncomputable def run(P:Program)(T:Tab)(ans:List (Nat×An))(f:Func)(an:An)(ps rs:List Sh)(x:Lg (Hj ps)):Option (Lg (Hj rs)):=
 match f.body,args ps x with
 |some c,some vs=>ex P T (Mc P T 8 ans) f.ntmps c an {n:=BO P rs f.results.toList,x:=λ_ _=>none,r:=BO P rs f.results.toList} ⟨Jc 0 vs,XH ps x,[]⟩
 |_,_=>none
end Go.Rx
namespace Go.Rx
open Go Go.Lv
variable{σ:Env}{i:Nat}{s:S}{v:Value}
inductive MD|dead|box (b:Nat) (cells:List Value) (T:TypeId)|own (s:Nat) (E:TypeId) (v:Value) (cs:List Value)
def MD.Cx:MD->Mob
 | .dead=> .own 1 0 (.slice none 0 0) []
 | .box b c T=> .box b c T
 | .own s E v cs=> .own s E v cs
def MD.base:MD->Option Nat
 | .box b _ _=>some b
 | .own _ _ (.slice (some ⟨b,0,none⟩) _ _) _=>some b
 |_=>none
def Az{α:Type}(f:α->List Value->Prop):List α->List Value->Prop
 |[],cs=>cs=[]
 |x::l,cs=>∃c1 c2,cs=c1++c2/\f x c1/\Az f l c2
def Ak(B:Reg)(w:World):(e:ET)->e.T->List Value->Prop
 | .int k,x,cs=>cs=[iv (T:=k.T) (k:=k.k) x]
 | .bool,b,cs=>cs=[.bool b]
 | .str,s,cs=>cs=[sv s]
 | .list e,l,cs=>∃v c0,cs=[v]/\Rd B w e.size v c0/\Az (Ak B w e) l c0
 | .vec n e,l,cs=>l.length=n/\Az (Ak B w e) l cs
 | .cons a r,x,cs=>∃c1 c2,cs=c1++c2/\Ak B w a x.1 c1/\Ak B w r x.2 c2
 | .nil,_,cs=>cs=[]
def BD:Step->Nat| .fld _ off=>off| .idx j z=>j.toNat*z
def Ah:List Step->Nat|[]=>0|s::r=>BD s+Ah r
def UT(B:Reg)(w:World)(pv:Value)(cs:List Value):Prop:=
 ∃b off arr T fr,pv= .pointer (some ⟨b,off,none⟩)/\B b/\w.heap[b]? =some (.cells arr T fr)/\∀i,i<cs.length->arr[off+i]? =cs[i]?
def cP(agg:Bool)(f:List Value->Prop)(v:Value):Prop:=match agg with|true=>∃cs:List Value,v= .agg cs.toArray/\f cs|false=>f [v]
def aK(o:Bool)(md:MD)(p:List Step)(z:Nat)(lo n:Int)(v:Value):Prop:=
 0<=lo/\0<=n/\ (∃pt cap,v= .slice pt n.toNat cap/\n.toNat<=cap/\ (pt=none->cap=0)/\ (0<cap->∃b,md.base=some b/\pt=some ⟨b,Ah p+lo.toNat*z,none⟩))/\
  (o=true->∃s E q len cap c0,md= .own s E (.slice q len cap) c0/\p=[]/\lo.toNat+n.toNat<=len/\ (∀pt m cap',v= .slice pt m cap'->lo.toNat+cap'<=cap)/\ (lo=0->v= .slice q n.toNat cap))/\ (o=false->∃b,md.base=some b)
def Am(B:Reg)(w:World)(L:List MD):PV->List Value->Prop
 | .val e x,cs=>Ak B w e x cs
 | .agg l,cs=>go B w L l cs
 | .tup _,_=>False
 | .nils,cs=>cs=[.slice none 0 0]
 | .own i,cs=>∃s E v c0,L[i]? =some (.own s E v c0)/\cs=[v]
 | .ptr i p,cs=>∃md b,L[i]? =some md/\md.base=some b/\cs=[.pointer (some ⟨b,Ah p,none⟩)]
 | .rptr v,cs=>∃pv c0,cs=[pv]/\UT B w pv c0/\Am B w L v c0
 | .view o i p e lo n,cs=>∃md v,L[i]? =some md/\cs=[v]/\aK o md p e.size lo n v
 | .fn f caps,cs=>∃vs:List Value,cs=[.func (.func f) #[] vs.toArray]/\qX B w L caps vs
 | .cap e l c,cs=>∃v c0,cs=[v]/\Rd B w e.size v c0/\Az (Ak B w e) l c0/\0<=c/\∃p len,v= .slice p len c.toNat
 | .mp ks l,cs=>∃r es n,cs=[.map (some r)]/\B r/\w.heap[r]? =some (.map es n)/\es.toList.map (·.key)=ks.map (λk=>iv (T:=UInt8) (k:= .u8) k)/\qX B w L l (es.toList.map (·.val))
 | .bfn f fs,cs=>∃vs:List Value,cs=[.func (.func f) vs.toArray #[]]/\qX B w L fs vs
 | .cst v,cs=>cs=[v]/\v.oneCell'=true
 | .any,cs=>∃v,cs=[v]/\v.oneCell'=true
 | .gd _ _ _,_=>False
 | .off,_=>False
 | .undef,_=>False
where
 go (B:Reg) (w:World) (L:List MD):List PV->List Value->Prop
 |[],cs=>cs=[]
 |a::r,cs=>∃c1 c2,cs=c1++c2/\Am B w L a c1/\go B w L r c2
 qX (B:Reg) (w:World) (L:List MD):List PV->List Value->Prop
 |[],vs=>vs=[]
 |a::r,vs=>∃v vs',vs=v::vs'/\cP a.isA (Am B w L a) v/\qX B w L r vs'
def Dg(B:Reg)(w:World)(L:List MD)(p:PV)(v:Value):Prop:=cP p.isA (Am B w L p) v
abbrev By:=Am.qX
def Bw(B:Reg)(w:World)(L:List MD):PV->Value->Prop
 | .tup l,v=>∃vs:List Value,v= .tuple vs.toArray/\By B w L l vs
 |p,v=>Dg B w L p v
def Cw(B:Reg)(w:World)(L:List MD)(σ:Env)(t:Nat):PV->Prop
 | .undef=>True
 | .off=>σ t=Go.undef
 | .gd j want p=>∃b,σ j= .bool b/\ (b=want->Bw B w L p (σ t))/\ (b≠want->σ t=Go.undef)
 |p=>Bw B w L p (σ t)
def Jk(B:Reg)(w:World)(L:List MD):Item->MD->Prop
 | .dead,_=>True
 | .box T v, .box b cells T'=>T'=T/\Am B w L v cells
 | .arr E e l, .own s E' v cs=>E'=E/\s=e.size/\Az (Ak B w e) l cs
 |_,_=>False
def Cj(B:Reg)(w:World)(L:List MD)(σ:Env)(sl:Slots):Prop:=∀p∈sl,Cw B w L σ p.1 p.2
def Vh(B:Reg)(w:World)(L:List MD):List Env->List Slots->Prop
 |[],[]=>True
 |σ::σs,sl::st=>Cj B w L σ sl/\Vh B w L σs st
 |_,_=>False
def oI(B:Reg)(w:World)(L:List MD)(it:List Item):Prop:=it.length=L.length/\∀(i:Nat) (a:Item) (m:MD),it[i]? =some a->L[i]? =some m->Jk B w L a m
structure MemR (B:Reg) (w:World) (L:List MD) (s:S) (σs:List Env) (σ:Env):Prop where
 it:oI B w L s.it
 sl:Cj B w L σ s.sl
 stk:Vh B w L σs s.st
variable {B B':Reg} {w w':World} {L L':List MD}
theorem Az.mono{α:Type}{f g:α->List Value->Prop}(h:∀x c,f x c->g x c):∀{l:List α} {cs:List Value},Az f l cs->Az g l cs
 |[],_,hh=>hh
 |_::_,_,⟨c1,c2,e,h1,h2⟩=>⟨c1,c2,e,h _ _ h1,Az.mono h h2⟩
theorem Ak.step(hb:∀b,B b->B' b)(hs:Same B w w'):∀{e:ET} {x:e.T} {cs:List Value},Ak B w e x cs->Ak B' w' e x cs
 | .int k,x,cs,h=>h
 | .bool,x,cs,h=>h
 | .str,x,cs,h=>h
 | .list e,l,cs,⟨v,c0,e1,h1,h2⟩=>⟨v,c0,e1,h1.step hb hs,h2.mono λx c h=>Ak.step hb hs h⟩
 | .vec n e,l,cs,⟨h1,h2⟩=>⟨h1,h2.mono λx c h=>Ak.step hb hs h⟩
 | .cons a r,x,cs,⟨c1,c2,e,h1,h2⟩=>⟨c1,c2,e,Ak.step hb hs h1,Ak.step hb hs h2⟩
 | .nil,_,cs,h=>h
def Xs(L L':List MD):Prop:=(∀(i s:Nat) (E:TypeId) (v:Value) (c:List Value),L[i]? =some (.own s E v c)->∃s' E' c',L'[i]? =some (.own s' E' v c'))/\ (∀(i:Nat) (md:MD) (b:Nat),L[i]? =some md->md.base=some b->∃md',L'[i]? =some md'/\md'.base=some b)
theorem Xs.refl(L:List MD):Xs L L:=⟨λ_ _ _ _ _ h=>⟨_,_,_,h⟩,λ_ md _ h h'=>⟨md,h,h'⟩⟩
theorem Xs.append(L M:List MD):Xs L (L++M):=by
 have key:∀(i:Nat) (a:MD),L[i]? =some a-> (L++M)[i]? =some a:=λi a h=>by
  rw[uO (List.getElem?_eq_some_iff.1 h).1];exact h
 exact⟨λi s E v c h=>⟨s,E,c,key _ _ h⟩,λi md b h h'=>⟨md,key _ _ h,h'⟩⟩
theorem UT.step{pv:Value}{cs:List Value}(hb:∀b,B b->B' b)(hs:Same B w w')(h:UT B w pv cs):UT B' w' pv cs:=by
 obtain⟨b,off,arr,T,fr,h1,h2,h3,h4⟩:=h;exact⟨b,off,arr,T,fr,h1,hb _ h2,(hs b h2).trans h3,h4⟩
theorem aK.step{o:Bool}{md:MD}{p:List Step}{z:Nat}{lo n:Int}(hl:Xs L L')(hi:L[i]? =some md)(h:aK o md p z lo n v):∃md',L'[i]? =some md'/\aK o md' p z lo n v:=by
 obtain⟨h1,h2,⟨pt,cap,h3,h4,h5,h6⟩,h7,h8⟩:=h;cases o with
 |true=>
  obtain⟨s,E,q,len,cap0,c0,rfl,g2,g3,g4,g5'⟩:=h7 rfl;obtain⟨s',E',c',g5⟩:=hl.1 i s E _ c0 hi;refine⟨_,g5,h1,h2,⟨pt,cap,h3,h4,h5,λhc=>?_⟩,λ_=>⟨s',E',q,len,cap0,c',rfl,g2,g3,g4,g5'⟩,(λh=>by cases h)⟩;obtain⟨b,e1,e2⟩:=h6 hc;obtain⟨md',k1,k2⟩:=hl.2 i _ b hi e1;rw[g5]at k1;cases k1;exact⟨b,k2,e2⟩
 |false=>
  obtain⟨b0,hb0⟩:=h8 rfl;obtain⟨md',k1,k2⟩:=hl.2 i _ b0 hi hb0;refine⟨md',k1,h1,h2,⟨pt,cap,h3,h4,h5,λhc=>?_⟩,(λh=>by cases h),λ_=>⟨b0,k2⟩⟩;obtain⟨b,e1,e2⟩:=h6 hc;rw[hb0]at e1;cases e1;exact⟨b0,k2,e2⟩
theorem cP.mono{a:Bool}{f g:List Value->Prop}(h:∀c,f c->g c)(hv:cP a f v):cP a g v:=by
 cases a with
 |true=>obtain⟨cs,e,h1⟩:=hv;exact⟨cs,e,h _ h1⟩
 |false=>exact h _ hv
mutual
theorem Am.step(hb:∀b,B b->B' b)(hs:Same B w w')(hl:Xs L L'):∀{p:PV} {cs:List Value},Am B w L p cs->Am B' w' L' p cs
 | .val e x,cs,h=>Ak.step hb hs (show Ak B w e x cs from h)
 | .agg l,cs,h=>Am.nC hb hs hl (show Am.go B w L l cs from h)
 | .tup _,_,h=>h.elim
 | .nils,cs,h=>h
 | .own i,cs,⟨s,E,v,c0,h1,h2⟩=>let⟨s',E',c',h3⟩:=hl.1 i s E v c0 h1;⟨s',E',v,c',h3,h2⟩
 | .ptr i p,cs,⟨md,b,h1,h2,h3⟩=>let⟨md',h4,h5⟩:=hl.2 i md b h1 h2;⟨md',b,h4,h5,h3⟩
 | .rptr v,cs,⟨pv,c0,h1,h2,h3⟩=>⟨pv,c0,h1,h2.step hb hs,Am.step hb hs hl h3⟩
 | .view o i p e lo n,cs,⟨md,v,h1,h2,h3⟩=>let⟨md',h4,h5⟩:=h3.step hl h1;⟨md',v,h4,h2,h5⟩
 | .fn f caps,cs,⟨vs,h1,h2⟩=>⟨vs,h1,Am.KU hb hs hl h2⟩
 | .bfn f fs,cs,⟨vs,h1,h2⟩=>⟨vs,h1,Am.KU hb hs hl h2⟩
 | .cap e l c,cs,⟨v,c0,e1,h1,h2,h3,h4⟩=>⟨v,c0,e1,h1.step hb hs,h2.mono λx c h=>Ak.step hb hs h,h3,h4⟩
 | .mp ks l,cs,⟨r,es,n,h1,h2,h3,h4,h5⟩=>⟨r,es,n,h1,hb _ h2,(hs r h2).trans h3,h4,Am.KU hb hs hl h5⟩
 | .cst v,cs,h=>h
 | .any,cs,h=>h
 | .gd _ _ _,_,h=>h.elim
 | .off,_,h=>h.elim
 | .undef,_,h=>h.elim
theorem Am.nC(hb:∀b,B b->B' b)(hs:Same B w w')(hl:Xs L L'):∀{l:List PV} {cs:List Value},Am.go B w L l cs->Am.go B' w' L' l cs
 |[],cs,h=>h
 |a::r,cs,⟨c1,c2,e,h1,h2⟩=>⟨c1,c2,e,Am.step hb hs hl h1,Am.nC hb hs hl h2⟩
theorem Am.KU(hb:∀b,B b->B' b)(hs:Same B w w')(hl:Xs L L'):∀{l:List PV} {vs:List Value},By B w L l vs->By B' w' L' l vs
 |[],vs,h=>h
 |a::r,vs,⟨v,vs',e,h1,h2⟩=>⟨v,vs',e,h1.mono λc h=>Am.step hb hs hl h,Am.KU hb hs hl h2⟩
end
theorem Dg.step(hb:∀b,B b->B' b)(hs:Same B w w')(hl:Xs L L'){p:PV}{v:Value}(h:Dg B w L p v):Dg B' w' L' p v:=cP.mono (λ_ h=>Am.step hb hs hl h) h
theorem Bw.step(hb:∀b,B b->B' b)(hs:Same B w w')(hl:Xs L L'){p:PV}{v:Value}(h:Bw B w L p v):Bw B' w' L' p v:=by
 cases p<;>first
  |(obtain⟨vs,e,h1⟩:=h;exact⟨vs,e,Am.KU hb hs hl h1⟩)
  |(apply Dg.step hb hs hl;exact h)
def PV.isV:PV->Bool| .undef=>false| .off=>false| .gd _ _ _=>false|_=>true
theorem Cw.iff{t:Nat}{p:PV}(hv:p.isV=true):Cw B w L σ t p↔Bw B w L p (σ t):=by
 cases p<;>first|exact yY|cases hv
theorem Cw.step(hb:∀b,B b->B' b)(hs:Same B w w')(hl:Xs L L'){σ:Env}{t:Nat}{p:PV}(h:Cw B w L σ t p):Cw B' w' L' σ t p:=by
 cases p
 case undef=>exact h
 case off=>exact h
 case gd=>obtain⟨b,h1,h2,h3⟩:=h;exact⟨b,h1,λe=>(h2 e).step hb hs hl,h3⟩
 all_goals exact(Cw.iff rfl).2 (((Cw.iff rfl).1 h).step hb hs hl)
theorem Cj.step(hb:∀b,B b->B' b)(hs:Same B w w')(hl:Xs L L'){σ:Env}{sl:Slots}(h:Cj B w L σ sl):Cj B' w' L' σ sl:=λp hp=>(h p hp).step hb hs hl
theorem Vh.step(hb:∀b,B b->B' b)(hs:Same B w w')(hl:Xs L L'):∀{σs:List Env} {st:List Slots},Vh B w L σs st->Vh B' w' L' σs st
 |[],[],h=>h
 |_::_,_::_,⟨h1,h2⟩=>⟨h1.step hb hs hl,h2.step hb hs hl⟩
theorem Jk.step(hb:∀b,B b->B' b)(hs:Same B w w')(hl:Xs L L'){a:Item}{m:MD}(h:Jk B w L a m):Jk B' w' L' a m:=by
 cases a<;>cases m<;>first
  |exact h
  |exact⟨h.1,Am.step hb hs hl h.2⟩
  |exact⟨h.1,h.2.1,h.2.2.mono λx c h=>Ak.step hb hs h⟩
theorem MemR.step{s:S}{σs:List Env}{σ:Env}(h:MemR B w L s σs σ)(hb:∀b,B b->B' b)(hs:Same B w w'):MemR B' w' L s σs σ:=
 ⟨⟨h.it.1,λi a m h1 h2=>(h.it.2 i a m h1 h2).step hb hs (.refl L)⟩,h.sl.step hb hs (.refl L),h.stk.step hb hs (.refl L)⟩
def IB(R:Reg)(L:List MD)(s:S)(σs:List Env)(σ:Env):Fact where
 holds A w:=MemR (λb=>A b/\R b) w L s σs σ
 step h ha hs _:=h.step (λb ⟨h1,h2⟩=>⟨ha b h1,h2⟩) (λb ⟨h1,_⟩=>hs b h1)
structure Fix where
 R:Reg
 M:Reg
 w0:World
 new:∀b,w0.heap.size<=b->R b
 mod:∀b,M b->R b
 gl:List (Nat×List Value)
 glok:∀p∈gl,R p.1/\ ¬M p.1/\p.1<w0.heap.size/\∃T fr,w0.heap[p.1]? =some (.cells p.2.toArray T fr)
abbrev Rel(Z:Fix)(s:S)(σs:List Env)(A:Reg)(L:List MD)(σ:Env)(w:World):Prop:=St A w [IB Z.R L s σs σ, .old Z.M Z.w0] (L.map MD.Cx)
theorem Rel.mem{Z:Fix}{σs:List Env}{A:Reg}{L:List MD}{w:World}(h:Rel Z s σs A L σ w):MemR (λb=>A b/\Z.R b) w L s σs σ:=h.fact 0 rfl
theorem Rel.bB{Z:Fix}{σs:List Env}{A:Reg}{L:List MD}{w:World}(h:Rel Z s σs A L σ w){p:Nat×List Value}(hp:p∈Z.gl):(A p.1/\Z.R p.1)/\∃T fr,w.heap[p.1]? =some (.cells p.2.toArray T fr):=by
 obtain⟨h1,h2,h3,T,fr,h4⟩:=Z.glok p hp;obtain⟨h5,h6⟩:=(h.fact 1 (f:= .old Z.M Z.w0) rfl).2 p.1 h3 h2;exact⟨⟨h5,h1⟩,T,fr,h6.trans h4⟩
theorem Rel.as{Z:Fix}{σs:List Env}{A:Reg}{L:List MD}{w:World}{F:List Fact}{LL:List Mob}(h:St A w F LL)(hF:F[i]? =some (.old Z.M Z.w0))
  (hm:MemR (λb=>A b/\Z.R b) w L s σs σ) (hL:LL=L.map MD.Cx):Rel Z s σs A L σ w:=by
 subst hL;exact(h.sN.GY (f:= .old Z.M Z.w0) (h.fact i hF)).GY (f:=IB Z.R L s σs σ) hm
end Go.Rx
namespace Go.Rx
open Go Go.Lv
variable{o:BinOp}{e:ET}{k:Kd}{i t:Nat}{x:Operand}{v:Value}
variable {P:Program} {B:Reg} {w:World} {L:List MD} {s:S} {σs:List Env} {σ:Env}
theorem Ni{x:k.T}(h:Bw B w L (.val (.int k) x) v):v=iv (T:=k.T) (k:=k.k) x:=by
 have: [v]=[iv (T:=k.T) (k:=k.k) x]:=h;simpa using this
theorem Ml{x:Bool}(h:Bw B w L (.val .bool x) v):v= .bool x:=by
 have: [v]=[.bool x]:=h;simpa using this
theorem ON{x:List UInt8}(h:Bw B w L (.val .str x) v):v=sv x:=by
 have: [v]=[sv x]:=h;simpa using this
theorem Nh{p:List Step}{md:MD}{b:Nat}(h:L[i]? =some md)(hb:md.base=some b):Bw B w L (.ptr i p) (.pointer (some ⟨b,Ah p,none⟩)):=⟨md,b,h,hb,rfl⟩
theorem Je{p:List Step}(h:Bw B w L (.ptr i p) v):∃md b,L[i]? =some md/\md.base=some b/\v= .pointer (some ⟨b,Ah p,none⟩):=by
 obtain⟨md,b,h1,h2,h3⟩:=h;exact⟨md,b,h1,h2,by simpa using h3⟩
theorem Nj(h:Bw B w L (.own i) v):∃z E c0,L[i]? =some (.own z E v c0):=by
 obtain⟨z,E,v',c0,h1,h2⟩:=h;have:v=v':=by simpa using h2
 subst this;exact⟨z,E,c0,h1⟩
theorem Kj{l:List e.T}(h:Bw B w L (.val (.list e) l) v):∃c0,Rd B w e.size v c0/\Az (Ak B w e) l c0:=by
 obtain⟨v',c0,h1,h2,h3⟩:=h;have:v=v':=by simpa using h1
 subst this;exact⟨c0,h2,h3⟩
theorem BM{l:List e.T}{c0:List Value}(h1:Rd B w e.size v c0)(h2:Az (Ak B w e) l c0):Bw B w L (.val (.list e) l) v:=⟨v,c0,rfl,h1,h2⟩
theorem Mb(h:Bw B w L .nils v):v= .slice none 0 0:=by
 have: [v]=[.slice none 0 0]:=h;simpa using this
theorem cX{f:Nat}{caps:List PV}(h:Bw B w L (.fn f caps) v):∃vs:List Value,v= .func (.func f) #[] vs.toArray/\By B w L caps vs:=by
 obtain⟨vs,h1,h2⟩:=h;exact⟨vs,by simpa using h1,h2⟩
theorem IA{p:PV}(h:Bw B w L (.rptr p) v):∃c0,UT B w v c0/\Am B w L p c0:=by
 obtain⟨pv,c0,h1,h2,h3⟩:=h;have:v=pv:=by simpa using h1
 subst this;exact⟨c0,h2,h3⟩
theorem Vn{p:PV}(hp:p.WY=true):Bw B w L p v↔Dg B w L p v:=by cases p<;>first|exact yY|cases hp
theorem PV.TV{p:PV}(hp:p.WY=true):p.isV=true:=by cases p<;>first|rfl|cases hp
theorem Ig{p:PV}(h:p.isV=false):p= .undef\/p= .off\/∃j w q,p= .gd j w q:=by
 cases p
 case undef=>exact .inl rfl
 case off=>exact .inr (.inl rfl)
 case gd j w q=>exact .inr (.inr ⟨j,w,q,rfl⟩)
 all_goals cases h
def known(p:PV):Option PV:=match p with| .undef=>none| .off=>none| .gd _ _ _=>none|v=>some v
theorem PU{p q:PV}(h:known p=some q):p=q/\q.isV=true:=by
 cases hv:p.isV with
 |true=>
  have:known p=some p:=by cases p<;>first|rfl|cases hv
  rw[this]at h;cases h;exact⟨rfl,hv⟩
 |false=>rcases Ig hv with rfl|rfl|⟨_,_,_,rfl⟩<;>cases h
theorem XQ:∀(sl:Slots) (t:Nat),Ky sl t= .undef\/ (t,Ky sl t)∈sl
 |[],_=> .inl rfl
 |(q,v)::r,t=>by
  simp only[Ky];cases h:Nat.beq q t with
  |true=>
   have:=uV h;subst this;exact .inr A9
  |false=>exact(XQ r t).imp (λh=>h) (λh=>wY _ h)
theorem Gb(hm:Cj B w L σ s.sl):Cw B w L σ t (Ky s.sl t):=by
 rcases XQ s.sl t with h|h
 ·rw[h];exact trivial
 ·exact hm _ h
theorem nL{k:IntKind}{kd:Kd}(h:Kd.of k=some kd):kd.k=k:=by
 cases k<;>simp[Kd.of]at h<;>subst h<;>rfl
theorem Zx(v:Value):ofConst v= .undef\/ ((ofConst v).WY=true/\Dg B w L (ofConst v) v):=by
 unfold ofConst;split
 ·rename_i k n;split
  ·rename_i kd hk;have hk':=nL hk;subst hk';cases hd:decide (kd.gi.toZ (kd.gi.ofZ n)=n)with
   |true=>
    refine .inr ⟨rfl,?_⟩;have:kd.gi.toZ (kd.gi.ofZ n)=n:=by simpa using hd
    show [_]=[_];simp[iv,this]
   |false=>exact .inr ⟨rfl,rfl,rfl⟩
  ·exact .inr ⟨rfl,rfl,rfl⟩
 ·exact .inr ⟨rfl,rfl⟩
 ·rename_i b;refine .inr ⟨rfl,?_⟩
  show [_]=[_];simp[sv,bytesOf]
 ·exact .inr ⟨rfl,rfl⟩
 ·exact .inl rfl
 ·exact .inl rfl
 ·rename_i h1 h2 h3 h4 h5 h6;refine .inr ⟨rfl,rfl,?_⟩;cases v<;>first|rfl|exact(h5 _ rfl).elim|exact(h6 _ rfl).elim
theorem Fw(hm:Cj B w L σ s.sl)(x:Operand)(hv:(Bs s.sl x).isV=true):Bw B w L (Bs s.sl x) (ev σ x):=by
 cases x with
 |tmp t=>
  have h:=Gb (t:=t) hm
  revert hv
  simp only[Bs,ev];split
  ·rename_i b hb;intro _;rw[hb]at h;have h2: [σ t]=[Value.bool b]:=h.1;have h3:σ t= .bool b:=by simpa using h2
   rw[h3];rfl
  ·rename_i hv';intro hv;exact(Cw.iff hv).1 h
 |const v=>
  rcases Zx (B:=B) (w:=w) (L:=L) v with h|h
  ·rw[show Bs s.sl (.const v)= .undef from h]at hv;cases hv
  ·exact(Vn h.1).2 h.2
 |global g=>cases hv
 |func f=>exact⟨[],rfl,rfl⟩
theorem Bg{p:PV}(hm:Cj B w L σ s.sl)(h:Bs s.sl x=p)(hv:p.isV=true):Bw B w L p (ev σ x):=by
 subst h;exact Fw hm x hv
theorem Js{a:k.T}(hm:Cj B w L σ s.sl)(h:Bs s.sl x= .val (.int k) a):ev σ x=iv (T:=k.T) (k:=k.k) a:=Ni (Bg hm h rfl)
theorem HD{a:Bool}(hm:Cj B w L σ s.sl)(h:Bs s.sl x= .val .bool a):ev σ x= .bool a:=Ml (Bg hm h rfl)
theorem Gw{a:List UInt8}(hm:Cj B w L σ s.sl)(h:Bs s.sl x= .val .str a):ev σ x=sv a:=ON (Bg hm h rfl)
theorem iF{x y:k.T}{v:PV}{t:TypeId}(h:jL k o x y=some v):v.isV=true/\∃val,Eb P o t (iv (T:=k.T) (k:=k.k) x) (iv (T:=k.T) (k:=k.k) y) val/\Bw B w L v val:=by
 cases o<;>simp only[jL,uN,reduceCtorEq]at h<;>subst h
 ·exact⟨rfl,_,Bin.add _ _,rfl⟩
 ·exact⟨rfl,_,Bin.sub _ _,rfl⟩
 ·exact⟨rfl,_,Bin.mul _ _,rfl⟩
 ·exact⟨rfl,_,Bin.and _ _,rfl⟩
 ·exact⟨rfl,_,Bin.or _ _,rfl⟩
 ·exact⟨rfl,_,Bin.xor _ _,rfl⟩
 ·exact⟨rfl,_,Bin.eql _ _,rfl⟩
 ·exact⟨rfl,_,Bin.neq _ _,rfl⟩
 ·exact⟨rfl,_,Bin.lss _ _,rfl⟩
 ·exact⟨rfl,_,Bin.leq _ _,rfl⟩
 ·exact⟨rfl,_,Bin.gtr _ _,rfl⟩
 ·exact⟨rfl,_,Bin.geq _ _,rfl⟩
theorem bL(h:k.pH=true)(y:k.T):0<=k.gi.toZ y:=by
 cases k<;>first|exact wD _|cases h
theorem YY(k:Kd):k.gi.toZ (k.gi.ofZ 0)=0:=by cases k<;>rfl
theorem MX{k':Kd}{x:k.T}{y:k'.T}{v:PV}{t:TypeId}(h:gB o k x k' y=some v)(hc:eR o k' y=some true):
  v.isV=true/\∃val,Eb P o t (iv (T:=k.T) (k:=k.k) x) (iv (T:=k'.T) (k:=k'.k) y) val/\Bw B w L v val:=by
 have hnz:Bm y (k'.gi.ofZ 0)=true->k'.gi.toZ y≠0:=λh hz=>by
  simp[Bm,YY,hz]at h
 have hsh:(Bf (k'.pH) (true)<|Ja y (k'.gi.ofZ 0))=true->0<=k'.gi.toZ y:=λh=>by
  cases hu:k'.pH with
  |true=>exact bL hu y
  |false=>rw[hu]at h;simpa [Ja,YY]using h
 cases o<;>simp only[gB,eR,uN,reduceCtorEq]at h hc
 ·split at h
  ·rename_i hk;subst hk;cases h;exact⟨rfl,_,Bin.quo _ _ (hnz hc),rfl⟩
  ·cases h
 ·split at h
  ·rename_i hk;subst hk;have hz:=hnz hc;cases k'<;>simp only[qG,wL,wK,uN,reduceCtorEq]at h<;>subst h
   ·exact⟨rfl,_,Bin.mW _ _ hz,rfl⟩
   ·exact⟨rfl,_,Bin.oG _ _ hz,rfl⟩
   ·exact⟨rfl,_,Bin.mE _ _ hz,rfl⟩
   ·exact⟨rfl,_,Bin.kG _ _ hz,rfl⟩
  ·cases h
 ·subst h;exact⟨rfl,_,Bin.shl _ _ (hsh hc),rfl⟩
 ·have h0:=hsh hc;cases k<;>simp only[pS,wL,wK,uN,reduceCtorEq]at h<;>subst h
  ·exact⟨rfl,_,Bin.lA _ _ h0,rfl⟩
  ·exact⟨rfl,_,Bin.oW _ _ h0,rfl⟩
  ·exact⟨rfl,_,Bin.kN _ _ h0,rfl⟩
  ·exact⟨rfl,_,Bin.lC _ _ h0,rfl⟩
  ·exact⟨rfl,_,Bin.mD _ _ h0,rfl⟩
theorem Az.len{α:Type}{f:α->List Value->Prop}{z:Nat}(h:∀x c,f x c->c.length=z):∀{l:List α} {cs:List Value},Az f l cs->cs.length=l.length*z
 |[],_,hh=>by rw[show _=[]from hh];simp
 |x::l,_,⟨c1,c2,e,h1,h2⟩=>by
  subst e;rw[uR,h x c1 h1,Az.len h h2,wE,wP];omega
theorem Ak.len:∀{e:ET} {x:e.T} {cs:List Value},Ak B w e x cs->cs.length=e.size
 | .int k,x,cs,h=>by rw[show cs=_ from h];rfl
 | .bool,x,cs,h=>by rw[show cs=_ from h];rfl
 | .str,x,cs,h=>by rw[show cs=_ from h];rfl
 | .list e,l,cs,⟨v,c0,e1,_,_⟩=>by rw[e1];rfl
 | .vec n e,l,cs,⟨h1,h2⟩=>by rw[h2.len λx c h=>Ak.len h,h1];rfl
 | .cons a r,x,cs,⟨c1,c2,e,h1,h2⟩=>by rw[e,uR,Ak.len h1,Ak.len h2];rfl
 | .nil,_,cs,h=>by rw[show cs=_ from h];rfl
mutual
theorem Am.len:∀{p:PV} {cs:List Value},Am B w L p cs->cs.length=p.size
 | .val e x,cs,h=>Ak.len (show Ak B w e x cs from h)
 | .agg l,cs,h=>Am.pM (show Am.go B w L l cs from h)
 | .tup _,_,h=>h.elim
 | .nils,cs,h=>by rw[show cs=_ from h];rfl
 | .own i,cs,⟨_,_,_,_,_,h⟩=>by rw[h];rfl
 | .ptr i p,cs,⟨_,_,_,_,h⟩=>by rw[h];rfl
 | .rptr v,cs,⟨_,_,h,_⟩=>by rw[h];rfl
 | .fn f caps,cs,⟨_,h,_⟩=>by rw[h];rfl
 | .cap _ _ _,cs,⟨_,_,h,_⟩=>by rw[h];rfl
 | .bfn _ _,cs,⟨_,h,_⟩=>by rw[h];rfl
 | .mp _ _,cs,⟨_,_,_,h,_⟩=>by rw[h];rfl
 | .cst v,cs,h=>by rw[show cs=_ from h.1];rfl
 | .any,cs,⟨_,h,_⟩=>by rw[h];rfl
 | .view _ _ _ _ _ _,cs,⟨_,_,_,h,_⟩=>by rw[h];rfl
 | .gd _ _ _,_,h=>h.elim
 | .off,_,h=>h.elim
 | .undef,_,h=>h.elim
theorem Am.pM:∀{l:List PV} {cs:List Value},Am.go B w L l cs->cs.length=PV.size.go l
 |[],cs,h=>by rw[show cs=_ from h];rfl
 |a::r,cs,⟨c1,c2,e,h1,h2⟩=>by rw[e,uR,Am.len h1,Am.pM h2];rfl
end
theorem Am.field:∀{l:List PV} {n:Nat} {f:PV} {cs:List Value},Am.go B w L l cs->l[n]? =some f->∃c1 c2 c3,cs=c1++(c2++c3)/\c1.length=NW l n/\Am B w L f c2/\
  (∀f' c2',Am B w L f' c2'->Am.go B w L (l.set n f') (c1++(c2'++c3)))
 |[],n,f,cs,_,h=>by simp at h
 |a::r,0,f,cs,⟨c1,c2,e,h1,h2⟩,h=>by
  simp at h;subst h;exact⟨[],c1,c2,by simpa using e,rfl,h1,λf' c2' h'=>⟨c2',c2,A9,h',h2⟩⟩
 |a::r,n+1,f,cs,⟨c1,c2,e,h1,h2⟩,h=>by
  obtain⟨d1,d2,d3,e',h3,h4,h5⟩:=Am.field (n:=n) h2 (by simpa using h);refine⟨c1++d1,d2,d3,by rw[e,e'];simp,by rw[uR,Am.len h1,h3];rfl,h4,λf' c2' h'=>?_⟩;exact⟨c1,d1++(c2'++d3),A9,h1,h5 f' c2' h'⟩
theorem Am.JD{p:PV}{cs:List Value}(h:Am B w L p cs):p.WY=true:=by
 cases p<;>first|rfl|exact h.elim
theorem jH{p:PV}(h:Dg B w L p v):p.WY=true:=by
 unfold Dg cP at h;split at h
 ·obtain⟨cs,_,h⟩:=h;exact h.JD
 ·exact h.JD
theorem Dp{p:PV}(h:Dg B w L p v):p.isV=true/\Bw B w L p v:=⟨PV.TV (jH h),(Vn (jH h)).2 h⟩
theorem By.get:∀{l:List PV} {vs:List Value} {i:Nat} {p:PV},By B w L l vs->l[i]? =some p->∃v,vs[i]? =some v/\Dg B w L p v
 |[],_,_,_,_,h=>by simp at h
 |a::r,_,0,p,⟨v,vs',e,h1,h2⟩,h=>by simp at h;subst h;subst e;exact⟨v,rfl,h1⟩
 |a::r,_,i+1,p,⟨v,vs',e,h1,h2⟩,h=>by subst e;simpa using By.get (i:=i) h2 (by simpa using h)
theorem BI(hm:Cj B w L σ s.sl):∀(l:List Operand),QU (l.map (Bs s.sl))=true->By B w L (l.map (Bs s.sl)) (l.map (ev σ))
 |[],_=>rfl
 |x::r,h=>by
  simp only[vN,QU,uJ]at h;exact⟨_,_,rfl,(Vn h.1).1 (Fw hm x (PV.TV h.1)),BI hm r h.2⟩
theorem Qq(p q:List Step):Ah (p++q)=Ah p+Ah q:=by
 induction p with
 |nil=>simp[Ah]
 |cons a r ih=>simp only[xA,Ah,ih];omega
theorem Lj{α:Type}{a:Array α}{l:List α}(h:a.toList=l):a=l.toArray:=by subst h;simp
def aP(B:Reg)(w:World)(L:List MD)(σ:Env):PV->Value->Prop
 | .undef,_=>True
 | .off,v=>v=Go.undef
 | .gd j want p,v=>∃b,σ j= .bool b/\ (b=want->Bw B w L p v)/\ (b≠want->v=Go.undef)
 |p,v=>Bw B w L p v
theorem aP.iff{p:PV}(hv:p.isV=true):aP B w L σ p v↔Bw B w L p v:=by
 cases p<;>first|exact yY|cases hv
theorem Vq(hm:Cj B w L σ s.sl)(x:Operand):aP B w L σ (Bs s.sl x) (ev σ x):=by
 cases hv:(Bs s.sl x).isV with
 |true=>exact(aP.iff hv).2 (Fw hm x hv)
 |false=>
  cases x with
  |tmp t=>
   have h:=Gb (t:=t) hm
   revert hv
   simp only[Bs,ev];split
   ·intro hv;cases hv
   ·intro hv
    revert h hv
    generalize Ky s.sl t=p;intro h hv;cases p<;>first|exact h|cases hv
  |const v=>
   rcases Zx (B:=B) (w:=w) (L:=L) v with h|h
   ·rw[show Bs s.sl (.const v)= .undef from h];exact trivial
   ·have h1:=PV.TV h.1;simp only[Bs]at hv;rw[h1]at hv;cases hv
  |global g=>exact trivial
  |func f=>cases hv
theorem MV{b:Bool}{p:PV}(ht:σ t= .bool b)(h:aP B w L σ p v):aP B w L σ (fV t b p) v:=by
 unfold fV;split
 ·rename_i j want q;obtain⟨c,h1,h2,h3⟩:=h;cases hb:(Nat.beq j t&&CX want b)with
  |true=>
   simp only[uJ]at hb;have hj:=uV hb.1;subst hj;have hw:want=b:=by cases want<;>cases b<;>simp_all [CX]
   subst hw;rw[ht]at h1;cases h1;have h4:=h2 rfl;cases hv:q.isV with
   |true=>exact(aP.iff hv).2 h4
   |false=>
    cases q<;>first
     |exact trivial
     |exact absurd hv Bool.noConfusion
     |(exfalso;exact(show False from h4))
  |false=>exact trivial
 ·exact h
end Go.Rx
namespace Go.Rx
open Go Go.Lv
variable{b:Bool}{e:ET}{x:Operand}{p v:PV}{t:TypeId}
variable {P:Program} {B:Reg} {w w':World} {L L':List MD} {s:S} {σs:List Env} {σ:Env} {Z:Fix} {A A':Reg} {n:Nat}
theorem Bc{a b:Nat}(h:Nat.beq a b=true):a=b:=uV h
theorem Aj{α:Type}{x:Option α}{r:α}(h:(Bf (b) (x)<|none)=some r):b=true/\x=some r:=by
 cases b with
 |true=>exact⟨rfl,h⟩
 |false=>cases h
theorem jP{a:Bool}(h:CX a b=true):a=b:=by cases a<;>cases b<;>simp_all [CX]
structure OkLoad (P:Program) (t:TypeId) (u:PV):Prop where
 agg:∃d,P.underlying t=some d/\fP d=u.isA
 size:Dh P t u.size
 one:u.isA=false->u.size=1
theorem Fz{u:PV}(h:Ff P t u=true):OkLoad P t u:=by
 unfold Ff at h;split at h
 ·rename_i b hb;simp only[uJ]at h;obtain⟨⟨h1,h2⟩,h3⟩:=h;have:=jP h1;subst this;unfold pW at hb;cases hu:P.underlying t with
  |none=>rw[hu]at hb;cases hb
  |some d=>
   rw[hu]at hb;refine⟨⟨d,hu,by simpa using hb⟩,?_,λhz=>?_⟩
   ·split at h2
    ·rename_i i hi;exact⟨i,hi,uV h2⟩
    ·cases h2
   ·rw[hz]at h3;exact uV (by simpa using h3)
 ·cases h
theorem VU:∀{e:ET} {x:e.T} {cs:List Value},Am.go B w L (e.pV x) cs↔Ak B w e x cs
 | .cons a r,(x,y),cs=>by
  have ih1:= @VU a x;have ih2:= @VU r y;have e1:∀c,Am B w L (Bf (a.qL) (.agg (a.pV x))<| .val a x) c↔Ak B w a x c:=λc=>by
   cases h:a.qL with
   |true=>exact ih1
   |false=>exact yY
  constructor
  ·rintro⟨c1,c2,e,h1,h2⟩;exact⟨c1,c2,e,(e1 c1).1 h1,ih2.1 h2⟩
  ·rintro⟨c1,c2,e,h1,h2⟩;exact⟨c1,c2,e,(e1 c1).2 h1,ih2.2 h2⟩
 | .nil,_,cs=>yY
 | .int k,x,cs=>⟨λ⟨c1,c2,e,h1,h2⟩=>by rw[e,show c2=[]from h2,vK];exact h1,λh=>⟨cs,[],A9,h,rfl⟩⟩
 | .bool,x,cs=>⟨λ⟨c1,c2,e,h1,h2⟩=>by rw[e,show c2=[]from h2,vK];exact h1,λh=>⟨cs,[],A9,h,rfl⟩⟩
 | .str,x,cs=>⟨λ⟨c1,c2,e,h1,h2⟩=>by rw[e,show c2=[]from h2,vK];exact h1,λh=>⟨cs,[],A9,h,rfl⟩⟩
 | .list e,x,cs=>⟨λ⟨c1,c2,e,h1,h2⟩=>by rw[e,show c2=[]from h2,vK];exact h1,λh=>⟨cs,[],A9,h,rfl⟩⟩
 | .vec n e,x,cs=>⟨λ⟨c1,c2,e,h1,h2⟩=>by rw[e,show c2=[]from h2,vK];exact h1,λh=>⟨cs,[],A9,h,rfl⟩⟩
theorem Tn{x:e.T}{cs:List Value}:Am B w L (e.pv x) cs↔Ak B w e x cs:=by
 unfold ET.pv;cases h:e.qL with
 |true=>exact VU
 |false=>exact yY
theorem iI{e':ET}{x:e.T}{y:e'.T}{cs:List Value}(h:Uv e e' x=some y)(hx:Ak B w e x cs):Ak B w e' y cs:=by
 unfold Uv at h;split at h
 ·rename_i he;subst he;cases h;exact hx
 ·cases h
theorem UL{rec:List PV->Option e.T}(hrec:∀l x cs,rec l=some x->Am.go B w L l cs->Ak B w e x cs){x:e.T}{cs:List Value}(h:ZP e rec p=some x)(hp:Am B w L p cs):Ak B w e x cs:=by
 unfold ZP at h;split at h
 ·exact iI h hp
 ·exact hrec _ _ _ h hp
 ·cases e<;>simp only[ET.qF,reduceCtorEq,uN]at h;subst h;exact⟨_,[],show cs=_ from hp,Rd.nil,rfl⟩
 ·cases h
theorem US:∀{e:ET} {l:List PV} {x:e.T} {cs:List Value},e.gL l=some x->Am.go B w L l cs->Ak B w e x cs
 | .cons a r,[],x,cs,h,hl=>by simp[ET.gL]at h
 | .cons a r,p::ps,x,cs,h,⟨c1,c2,e,h1,h2⟩=>by
  simp only[ET.gL]at h;obtain⟨y,hy,h⟩:=bind_some h;obtain⟨z,hz,h⟩:=bind_some h;cases h;exact⟨c1,c2,e,UL (λl x cs h hl=>US h hl) hy h1,US hz h2⟩
 | .nil,[],x,cs,h,hl=>hl
 | .nil,_::_,x,cs,h,hl=>by simp[ET.gL]at h
 | .int k,l,x,cs,h,hl=>by cases l<;>simp[ET.gL]at h
 | .bool,l,x,cs,h,hl=>by cases l<;>simp[ET.gL]at h
 | .str,l,x,cs,h,hl=>by cases l<;>simp[ET.gL]at h
 | .list e,l,x,cs,h,hl=>by cases l<;>simp[ET.gL]at h
 | .vec n e,l,x,cs,h,hl=>by cases l<;>simp[ET.gL]at h
theorem Qp{x:e.T}{cs:List Value}(h:e.of p=some x)(hp:Am B w L p cs):Ak B w e x cs:=UL (λ_ _ _ h hl=>US h hl) h hp
theorem TR{e:ET}:∀{l:List PV} {x:List e.T} {cs:List Value},UH.go e l=some x->Am.go B w L l cs->Az (Ak B w e) x cs
 |[],x,cs,hx,hl=>by simp only[UH.go,uN]at hx;subst hx;exact hl
 |a::q,x,cs,hx,⟨c1,c2,e',h1,h2⟩=>by
  simp only[UH.go]at hx;split at hx
  ·rename_i y ys hy hys;cases hx;exact⟨c1,c2,e',Qp hy h1,TR hys h2⟩
  ·cases hx
theorem eQ{m:Nat}{l:List PV}{cs:List Value}(h:UH m e l=some v)(hl:Am.go B w L l cs):Am B w L v cs:=by
 unfold UH at h;split at h
 ·rename_i x hx;obtain⟨hb,h⟩:=Aj h;cases h;exact⟨Bc hb,TR hx hl⟩
 ·cases h
theorem EL{f:TypeId->List Value->Option (PV×List Value)}(hf:∀t cs v q,f t cs=some (v,q)->∃c,cs=c++q/\Am B w L v c):∀{ts:List TypeId} {cs:List Value} {vs:List PV} {q:List Value},IX f ts cs=some (vs,q)->∃c,cs=c++q/\Am.go B w L vs c
 |[],cs,vs,q,h=>by simp only[IX,uN,wF]at h;obtain⟨rfl,rfl⟩:=h;exact⟨[],rfl,rfl⟩
 |t::ts,cs,vs,q,h=>by
  simp only[IX]at h;split at h
  ·rename_i v cs' h1;split at h
   ·rename_i us r' h2;cases h;obtain⟨c1,rfl,h3⟩:=hf _ _ _ _ h1;obtain⟨c2,rfl,h4⟩:=EL hf h2;exact⟨c1++c2,A9,c1,c2,rfl,h3,h4⟩
   ·cases h
  ·cases h
theorem eT(c:Value):(ofConst c).isA=false:=by
 unfold ofConst;split
 ·split
  ·rename_i m _ kd _;cases decide (kd.gi.toZ (kd.gi.ofZ m)=m)<;>rfl
  ·rfl
 all_goals rfl
theorem XZ{c:Value}(hc:(ofConst c).WY=true):Am B w L (ofConst c) [c]:=by
 rcases Zx (B:=B) (w:=w) (L:=L) c with h|⟨_,h⟩
 ·rw[h]at hc;cases hc
 ·unfold Dg at h;rw[eT]at h;exact h
theorem Uh:∀(q:Nat) {t:TypeId} {cs:List Value} {v:PV} {r:List Value},parse P q t cs=some (v,r)->∃c,cs=c++r/\Am B w L v c
 |0,_,_,_,_,h=>by simp[parse]at h
 |q+1,t,cs,v,r,h=>by
  simp only[parse]at h;split at h
  ·split at h
   ·rename_i vs r' h1;cases h;obtain⟨c,h2,h3⟩:=EL (λt cs v q' h=>Uh q h) h1;exact⟨c,h2,h3⟩
   ·cases h
  ·split at h
   ·rename_i a vs r' h0 h1;split at h
    ·rename_i u hu;cases h;obtain⟨c,h2,h3⟩:=EL (λt cs v q' h=>Uh q h) h1;exact⟨c,h2,eQ hu h3⟩
    ·cases h
   ·cases h
  ·split at h
   ·rename_i c r';obtain⟨hb,h⟩:=Aj h;cases h;exact⟨[c],rfl,XZ hb⟩
   ·cases h
  ·cases h
theorem DH{v:Value}(h:DS P t v=some p):Am B w L p v.cells.toList:=by
 unfold DS at h;split at h
 ·rename_i p' h1;cases h;obtain⟨c,h2,h3⟩:=Uh (B:=B) (w:=w) (L:=L) Q h1;rw[vK]at h2;rw[h2];exact h3
 ·cases h
theorem NA{a:PV}{c1 c2 c3:List Value}(ho:OkLoad P t a)(ha:Am B w L a c2):∃v,Dg B w L a v/\∀w0,(part t (c1++(c2++c3)).toArray c1.length).run P w0= .ok v w0:=by
 obtain⟨d,hd,hA⟩:=ho.agg;have hlen:=ha.len;cases hb:a.isA with
 |true=>
  refine⟨.agg c2.toArray,by unfold Dg;rw[hb];exact⟨c2,rfl,ha⟩,λw0=>?_⟩;simp only[part,uP,Ca hd (hA.trans hb),As ho.size,uK,yB,uT];congr 2;apply yF;rw[<-hlen];simp[List.take_append,List.drop_append]
 |false=>
  rw[ho.one hb]at hlen
  match c2,hlen with
  |[v],_=>
   refine⟨v,by unfold Dg;rw[hb];exact ha,λw0=>?_⟩;simp only[part,uP,Ca hd (hA.trans hb),uK,vF,wQ];simp
theorem eC{rec:TypeId->PV->PV->Option Bool}{q:Nat}(hrec:∀{t:TypeId} {x y:PV} {b:Bool} {v v':Value},rec t x y=some b->Dg B w L x v->Dg B w L y v'->∀w0,(Op.equalIn q t v v').run P w0= .ok b w0):
  ∀{fs:List Field} {l m:List PV} {off:Nat} {b:Bool} {p1 p2 c1 c2:List Value},UU P rec fs l m off=some b->Am.go B w L l c1->Am.go B w L m c2->p1.length=off->p2.length=off->
   ∀w0,(Op.eqFields q (p1++c1).toArray (p2++c2).toArray fs).run P w0= .ok b w0
 |[],[],[],off,b,p1,p2,c1,c2,h,_,_,_,_,w0=>by
  simp only[UU,uN]at h;subst h;rfl
 |f::fs,x::l,y::m,off,b,p1,p2,c1,c2,h,⟨d1,e1,hc1,hx,hl⟩,⟨d2,e2,hc2,hy,hm⟩,h1,h2,w0=>by
  subst hc1 hc2;simp only[UU]at h;cases hc:(f.name== "_"|| !Nat.beq f.offset off|| !Ff P f.type x|| !Ff P f.type y|| !Nat.beq x.size y.size)with
  |true=>rw[hc]at h;cases h
  |false=>
   rw[hc]at h
   try dsimp only[Bf,cond]at h
   simp only[wI,xH]at hc;obtain⟨⟨⟨⟨hn,ho⟩,hlx⟩,TG⟩,hsz⟩:=hc;have hoff:=Bc ho;have hsz':=Bc hsz;split at h
   ·rename_i bx br hbx hbr;cases h;obtain⟨v,hv,hpx⟩:=NA (c1:=p1) (c3:=e1) (Fz hlx) hx;obtain⟨v',hv',hpy⟩:=NA (c1:=p2) (c3:=e2) (Fz TG) hy;have hr:=hrec hbx hv hv';have hnm:f.name≠ "_":=by simpa using hn
    have ih:=eC hrec (p1:=p1++d1) (p2:=p2++d2) hbr hl hm (by simp[h1,hx.len]) (by simp[h2,hy.len,hsz']);rw[vT,vT]at ih;rw[h1,<-hoff]at hpx;rw[h2,<-hoff]at hpy;simp only[Op.eqFields,hnm,ne_eq,not_false_eq_true,yB,uP,hpx,hpy,uK,hr];cases bx with
    |true=>simpa using ih w0
    |false=>simp
   ·cases h
 |[],_::_,_,_,_,_,_,_,_,h,_,_,_,_,_=>by simp[UU]at h
 |[],[],_::_,_,_,_,_,_,_,h,_,_,_,_,_=>by simp[UU]at h
 |_::_,[],_,_,_,_,_,_,_,h,_,_,_,_,_=>by simp[UU]at h
 |_::_,_::_,[],_,_,_,_,_,_,h,_,_,_,_,_=>by simp[UU]at h
theorem NL{te:TypeId}{k:Kd}{d:Nat}(ho:∀x:k.T,OkLoad P te (.val (.int k) x))(hi:aS P te=true):∀{a b:List k.T} {p1 p2 c1 c2:List Value},Az (Ak B w (.int k)) a c1->Az (Ak B w (.int k)) b c2->a.length=b.length->p1.length=p2.length->
  ∀w0,(Op.eqItems (d+1) te 1 (p1++c1).toArray (p2++c2).toArray (List.range' p1.length a.length)).run P w0= .ok (gT a b) w0
 |[],[],_,_,_,_,_,_,_,_,w0=>by simp[Op.eqItems,gT]
 |x::a,y::b,p1,p2,c1,c2,⟨d1,e1,hc1,hx,ha⟩,⟨d2,e2,hc2,hy,hb⟩,hl,hp,w0=>by
  subst hc1 hc2;obtain⟨v,hv,hpx⟩:=NA (B:=B) (w:=w) (L:=[]) (a:= .val (.int k) x) (c1:=p1) (c3:=e1) (ho x) hx;obtain⟨v',hv',hpy⟩:=NA (B:=B) (w:=w) (L:=[]) (a:= .val (.int k) y) (c1:=p2) (c3:=e2) (ho y) hy;have q1:=Ni (show Bw B w [] (.val (.int k) x) v from hv);have q2:=Ni (show Bw B w [] (.val (.int k) y) v' from hv');have hk:∃k0,P.underlying te=some (.int k0):=by
   unfold aS at hi;split at hi
   ·exact⟨_,by assumption⟩
   ·cases hi
  obtain⟨k0,hk⟩:=hk;have hr:=run_equalIn_int w0 d te k.k k0 (GI.toZ x) (GI.toZ y) hk;have n1:d1.length=1:=by have:d1=_:=hx;rw[this];rfl
  have n2:d2.length=1:=by have:d2=_:=hy;rw[this];rfl
  have ih:=NL (d:=d) ho hi (p1:=p1++d1) (p2:=p2++d2) ha hb (by simpa using hl) (by simp[hp,n1,n2]);rw[vT,vT,uR,n1]at ih;simp only[wE,List.range'_succ,Op.eqItems,uP,Nat.mul_one,hpx,uK];rw[hp,hpy];simp only[uK,q1,q2,iv,hr];rw[<-hp];simp only[gT,geq];cases hz:(GI.toZ x==GI.toZ y)with
  |true=>simpa [hz]using ih w0
  |false=>simp[hz]
 |[],_::_,_,_,_,_,_,_,h,_,_=>by simp at h
 |_::_,[],_,_,_,_,_,_,h,_,_=>by simp at h
theorem iK:∀(q:Nat) {t:TypeId} {x y:PV} {b:Bool} {v v':Value} (d:Nat),pT P q t x y=some b->Dg B w L x v->Dg B w L y v'->∀w0,(Op.equalIn (d+q) t v v').run P w0= .ok b w0
 |0,_,_,_,_,_,_,_,h,_,_,_=>by simp[pT]at h
 |q+1,t,x,y,b,v,v',d,h,hx,hy,w0=>by
  simp only[pT]at h;split at h
  ·rename_i k0 k a k' c hu;split at h
   ·rename_i hk;subst hk;cases h;have e1:=Ni (show Bw B w L (.val (.int k') a) v from hx);have e2:=Ni (show Bw B w L (.val (.int k') c) v' from hy);rw[e1,e2];exact run_equalIn_int w0 (d+q) t k'.k k0 _ _ hu
   ·cases h
  ·rename_i a c hu;cases h;rw[Ml (show Bw B w L (.val .bool a) v from hx),Ml (show Bw B w L (.val .bool c) v' from hy)];exact xP w0 (d+q) t _ _ hu
  ·rename_i a c hu;cases h;rw[ON (show Bw B w L (.val .str a) v from hx),ON (show Bw B w L (.val .str c) v' from hy)];have:=run_equalIn_string w0 (d+q) t ⟨a.toArray⟩ ⟨c.toArray⟩ hu;rw[<-vH];rw[this,BA,BA]
  ·rename_i fs l m hu;cases hst:P.stoodInHeld t with
   |true=>rw[hst]at h;cases h
   |false=>
    rw[hst]at h
    try dsimp only[Bf,cond]at h
    obtain⟨c1,rfl,h1⟩:=hx;obtain⟨c2,rfl,h2⟩:=hy;have hf:P.fieldsOf t=fs:=by simp[Program.fieldsOf,hu]
    have:=run_equalIn_struct w0 (d+q) t c1.toArray c2.toArray (by rw[hf];exact hu) hst;rw[<-vH,this,hf];have:=eC (p1:=[]) (p2:=[]) (q:=d+q) (λh hx hy w0=>iK q d h hx hy w0) h h1 h2 rfl rfl w0;simpa using this
  ·rename_i n te m k a m' k' c hu;obtain⟨hb,h⟩:=Aj h;simp only[uJ]at hb;obtain⟨⟨⟨⟨hm,hm'⟩,hq⟩,hl⟩,hi⟩:=hb;split at h
   ·rename_i hk;subst hk;cases h;have hm:=Bc hm;have hm':=Bc hm';subst hm;subst hm';obtain⟨c1,rfl,h1⟩:=hx;obtain⟨c2,rfl,h2⟩:=hy;obtain⟨l1,h1⟩:a.length=m'/\Az (Ak B w (.int k')) a c1:=h1;obtain⟨l2,h2⟩:c.length=m'/\Az (Ak B w (.int k')) c c2:=h2;obtain⟨q,rfl⟩:∃p,q=p+1:=⟨q-1,by have:=uZ hq;omega⟩;have ho:=Fz hl;obtain⟨i,g1,g2⟩:=ho.size;have hce:P.cellsOf te=1:=by simp[Program.cellsOf,g1];exact g2
    have:=run_equalIn_array (w:=w0) (d+(q+1)) c1.toArray c2.toArray hu g1;rw[<-vH,this,List.range_eq_range',hce,<-l1];have:=NL (p1:=[]) (p2:=[]) (d:=d+q) (λx=>(⟨ho.agg,ho.size,ho.one⟩:OkLoad P te (.val (.int k') x))) hi h1 h2 (l1.trans l2.symm) rfl w0;simpa [vH]using this
   ·cases h
  ·cases h
theorem dR{l:List PV}(hm:Cj B w L σ s.sl)(h:mQ P s t x=some (.agg l)):Dg B w L (.agg l) (ev σ x):=by
 unfold mQ at h;split at h
 ·rename_i cs;have:=DH (B:=B) (w:=w) (L:=L) h;exact⟨cs.toList,by simp[ev],this⟩
 ·have e:Bs s.sl x= .agg l:=xU h;exact Bg (p:= .agg l) hm e rfl
theorem mV{o:BinOp}{t':TypeId}{y:Operand}(hm:Cj B w L σ s.sl)(h:oX P s o t x y=some v):∃b,v= .b b/\∀w',XO P σ w' (.binOp o t x y t') (.bool b):=by
 unfold oX at h;split at h
 ·rename_i q l m hq hl hm';have hx:=dR hm hl;have hy:=dR hm hm';cases hg:P.eqGuardType P.depth t with
  |true=>rw[hg]at h;cases h
  |false=>
   rw[hg]at h;simp only[xL,Uk,vY]at h;obtain⟨b,hb,rfl⟩:=h;refine⟨_,rfl,λw'=>?_⟩;have he:=iK Q (10000-Q) hb hx hy;obtain⟨c1,e1,_⟩:=hx;obtain⟨c2,e2,_⟩:=hy;rw[e1,e2]at he;refine X.bin e1 e2 λox oy w0=>?_;have hgd:=run_eqGuard_agg (P:=P) w0 o t ox oy c1.toArray c2.toArray hg;have he':(Op.equalIn 10000 t (.agg c1.toArray) (.agg c2.toArray)).run P w0= .ok b w0:=he w0;cases o<;>simp only[OV,uN,reduceCtorEq]at hq<;>subst hq
   ·simp only[uP,hgd,uK,run_eql_struct,he',cond_true,Ug]
   ·simp only[uP,hgd,uK,run_neq_struct,he',xL,Uk]
 ·cases h
end Go.Rx
namespace Go.Rx
open Go Go.Lv
variable{b:Bool}{f off:Nat}{c x y:Operand}{a a' p v:PV}{t:TypeId}
variable {P:Program} {B:Reg} {w:World} {L:List MD} {s:S} {σs:List Env} {σ:Env}
abbrev Yields(P:Program)(B:Reg)(w:World)(L:List MD)(σ:Env)(W:World->Prop)(o:Op)(v:PV):Prop:=v.isV=true/\∃val,(∀w',W w'->XO P σ w' o val)/\Bw B w L v val
theorem jU{W:World->Prop}(hc:ev σ c= .bool b)(ha:b=true->aP B w L σ a (ev σ x))(ha':b=false->aP B w L σ a' (ev σ y))(h:nE b a a'=some p):
  Yields P B w L σ W (.pick c x y) p:=by
 have key:∀(q:PV) (v:Value),aP B w L σ q v->known q=some p->p.isV=true/\Bw B w L p v:=λq v hq hp=>by
  obtain⟨rfl,hv⟩:=PU hp;exact⟨hv,(aP.iff hv).1 hq⟩
 cases b with
 |true=>
  obtain⟨h1,h2⟩:=key a _ (ha rfl) h;exact⟨h1,_,λw' _=>X.pick hc rfl rfl rfl,h2⟩
 |false=>
  obtain⟨h1,h2⟩:=key a' _ (ha' rfl) h;exact⟨h1,_,λw' _=>X.pick hc rfl rfl rfl,h2⟩
theorem cR(h:fI x=some b):ev σ x= .bool b:=by
 unfold fI at h;split at h
 ·cases h;rfl
 ·cases h
theorem eS{W:World->Prop}{lit:Option Bool}(hc:ev σ c= .bool b)(ha:b=true->aP B w L σ a (ev σ x))(ha':b=false->aP B w L σ a' (ev σ y))
  (hl:lit=some true->fI x=some true) (hl':lit=some false->fI y=some false) (h:bF b lit a a'=some p):
  Yields P B w L σ W (.pick c x y) p:=by
 unfold bF at h;split at h
 ·rename_i u v;have hu:b=true->ev σ x= .bool u:=λhb=>Ml (ha hb);have hv:b=false->ev σ y= .bool v:=λhb=>Ml (ha' hb);split at h
  ·have:=cR (σ:=σ) (hl rfl);cases h;refine⟨rfl, .bool (b||v),λw' _=>X.pick hc rfl rfl ?_,rfl⟩;cases b with
   |true=>simpa using this
   |false=>simpa using hv rfl
  ·have:=cR (σ:=σ) (hl' rfl);cases h;refine⟨rfl, .bool (b&&u),λw' _=>X.pick hc rfl rfl ?_,rfl⟩;cases b with
   |true=>simpa using hu rfl
   |false=>simpa using this
  ·cases h;refine⟨rfl, .bool (Bf (b) (u)<|v),λw' _=>X.pick hc rfl rfl ?_,rfl⟩;cases b with
   |true=>simpa using hu rfl
   |false=>simpa using hv rfl
 ·rename_i e u e' v _;split at h
  ·rename_i he;subst he;cases h;refine⟨rfl,if b then ev σ x else ev σ y,λw' _=>X.pick hc rfl rfl rfl,?_⟩;cases b with
   |true=>simpa using(show Bw B w L (.val e' u) (ev σ x)from ha rfl)
   |false=>simpa using(show Bw B w L (.val e' v) (ev σ y)from ha' rfl)
  ·cases h
 ·cases h
theorem PR{z:Nat}(h:fieldInfo P t f=some (off,z))(hz:Nat.beq z 0=false):BJ P t f off:=
 BJ.mk h (by intro e;subst e;cases hz)
theorem cD{l:List PV}{u:PV}{v:Value}(h:Bw B w L (.rptr (.agg l)) v)(hl:l[f]? =some u)(ho:NW l f=off):
  ∃b o,v= .pointer (some ⟨b,o,none⟩)/\Bw B w L (.rptr u) (.pointer (some ⟨b,o+off,none⟩)):=by
 obtain⟨c0,⟨b,o,arr,T,fr,rfl,h2,h3,h4⟩,h5⟩:=IA h;obtain⟨c1,c2,c3,e,h6,h7,_⟩:=Am.field (show Am.go B w L l c0 from h5) hl;refine⟨b,o,rfl,_,c2,rfl,⟨b,o+off,arr,T,fr,rfl,h2,h3,λi hi=>?_⟩,h7⟩;have:=h4 (off+i) (by rw[e];simp;omega);rw[vH,this,e,uU A7,h6,ho];rw[show off+i-off=i by omega,uO hi]
theorem mF{o:BinOp}{q:Bool}{k k':Kd}{a:k.T}{c:k'.T}(h:oM o q k a k' c=some v):
  v.isV=true/\∃val,Eb P o t (iv (T:=k.T) (k:=k.k) a) (iv (T:=k'.T) (k:=k'.k) c) val/\Bw B w L v val:=by
 unfold oM at h;cases hd:qS o with
 |true=>
  rw[hd]at h;cases q with
  |true=>
   try dsimp only[Bf,cond]at h
   split at h
   ·rename_i hc;exact MX h hc
   ·cases h
  |false=>
   try dsimp only[Bf,cond]at h
   cases hb:(k'.pH&&oA o)with
   |true=>
    rw[hb]at h;simp only[uJ]at hb;refine MX h ?_;have h1:=hb.2;have h2:=hb.1;cases o<;>simp[oA]at h1<;>simp[eR,h2]
   |false=>rw[hb]at h;cases h
 |false=>
  rw[hd]at h
  try dsimp only[Bf,cond]at h
  split at h
  ·rename_i hk;subst hk;exact iF h
  ·cases h
theorem VK(W:World->Prop)(hm:Cj B w L σ s.sl){o:Op}(h:oJ P s o=some v):Yields P B w L σ W o v:=by
 unfold oJ at h;split at h
 ·
  rename_i x;have hx:=Vq hm x;obtain⟨h1,hv⟩:=PU (show known (Bs s.sl x)=some v from h);rw[h1]at hx;exact⟨hv,_,λw' _=>X.move rfl,(aP.iff hv).1 hx⟩
 ·rename_i x;have hx:=Vq hm x;obtain⟨h1,hv⟩:=PU (show known (Bs s.sl x)=some v from h);rw[h1]at hx;exact⟨hv,_,λw' _=>X.assign rfl,(aP.iff hv).1 hx⟩
 ·
  rename_i o t x y t';split at h
  ·rename_i k a k' c hx hy;have ex:=Js hm hx;have ey:=Js hm hy;obtain⟨hv,val,hb,hr⟩:=mF (P:=P) (B:=B) (w:=w) (L:=L) (t:=t) h;exact⟨hv,val,λw' _=>X.bin ex ey hb,hr⟩
  ·rename_i a c hx hy;have ex:=HD hm hx;have ey:=HD hm hy;split at h
   ·rename_i hu;split at h
    ·cases h;exact⟨rfl,_,λw' _=>X.bin ex ey (Bin.iW hu _ _),rfl⟩
    ·cases h;exact⟨rfl,_,λw' _=>X.bin ex ey (Bin.jN hu _ _),rfl⟩
    ·cases h
   ·cases h
  ·rename_i a c hx hy;have ex:=Gw hm hx;have ey:=Gw hm hy;split at h
   ·cases h;exact⟨rfl,_,λw' _=>X.bin ex ey (Bin.mS _ _),rfl⟩
   ·cases h;exact⟨rfl,_,λw' _=>X.bin ex ey (Bin.lY _ _),rfl⟩
   ·cases h
  ·obtain⟨b,rfl,hb⟩:=mV (t':=t') hm h;exact⟨rfl,_,λw' _=>hb w',rfl⟩
 ·
  rename_i o t x;split at h
  ·rename_i k a hx;have ex:=Js hm hx;split at h
   ·cases h;exact⟨rfl,_,λw' _=>X.neg ex,rfl⟩
   ·cases h;exact⟨rfl,_,λw' _=>X.qH ex,rfl⟩
   ·cases h
  ·rename_i a hx;have ex:=HD hm hx;split at h
   ·cases h;exact⟨rfl,_,λw' _=>X.not ex,rfl⟩
   ·cases h
  ·cases h
 ·
  rename_i c a b;split at h
  ·rename_i t x hx;have hs:=Gb (t:=t) hm;rw[hx]at hs;have hc:σ t= .bool x:=by have: [σ t]=[Value.bool x]:=hs.1;simpa using this
   exact jU hc (λe=>MV (by rw[hc,e]) (Vq hm a)) (λe=>MV (by rw[hc,e]) (Vq hm b)) h
  ·rename_i t x hx;have hs:=Gb (t:=t) hm;rw[hx]at hs;have hc:σ t= .bool x:=Ml hs;refine eS hc (λe=>MV (by rw[hc,e]) (Vq hm a)) (λe=>MV (by rw[hc,e]) (Vq hm b)) (λe=>?_) (λe=>?_) h
   ·split at e
    ·rename_i hl;exact hl
    ·split at e<;>cases e
   ·split at e
    ·cases e
    ·split at e
     ·rename_i hl;exact hl
     ·cases e
  ·cases h
 ·
  rename_i x i;split at h
  ·rename_i l hx;obtain⟨vs,e1,h1⟩:=Bg hm hx rfl;obtain⟨val,h2,h3⟩:=By.get h1 h;obtain⟨h4,h5⟩:=Dp h3;exact⟨h4,val,λw' _=>X.extract e1 h2,h5⟩
  ·cases h
 ·
  rename_i a t x;split at h
  ·rename_i k u k' d hx ht ha;have ex:=Js hm hx;split at h
   ·rename_i kd hk;have hk':=nL hk;subst hk';cases h;exact⟨rfl,_,λw' _=>X.conv (T':=kd.T) ha ht ex,rfl⟩
   ·cases h
  ·cases h
 ·
  rename_i f fs cs;split at h
  ·rename_i hfs;have hf:=Lj hfs;subst hf;cases ha:QU (cs.toList.map (Bs s.sl))with
   |true=>
    rw[ha]at h;cases h;refine⟨rfl,_,λw' _=>?_,⟨_,rfl,BI hm _ ha⟩⟩;have:=X.makeFunc (P:=P) (σ:=σ) (w:=w') (f:=f) (cap:=cs.toList) (vs:=cs.toList.map (ev σ)) rfl;simpa using this
   |false=>rw[ha]at h;cases h
  ·rename_i f1 fr hfs;split at h
   ·rename_i hcs;have hf:=Lj hcs;subst hf;obtain⟨ha,h⟩:=Aj h;cases h;have h1:=BI hm _ ha;have hfs':fs=(f1::fr).toArray:=by rw[<-hfs]
    rw[hfs'];exact⟨rfl,_,λw' _ _ _ _ _ _=>by simp[execOp,Instr.makeFunc],⟨_,rfl,h1⟩⟩
   ·cases h
 ·
  rename_i x;split at h
  ·rename_i i p hx;cases h;have hr:=Bg hm hx rfl;obtain⟨md,b,h1,h2,h3⟩:=Je hr;exact⟨rfl,_,λw' _=>X.nilCheck h3,Nh h1 h2⟩
  ·rename_i u hx;cases h;have hr:=Bg hm hx rfl;obtain⟨c0,⟨b,off,arr,T,fr,h1,h2⟩,h3⟩:=IA hr;exact⟨rfl,_,λw' _=>X.nilCheck h1,by rw[<-h1];exact hr⟩
  ·cases h
 ·
  rename_i t x f;split at h
  ·rename_i i p off z hx hf;cases hz:Nat.beq z 0 with
   |true=>rw[hz]at h;cases h
   |false=>
    rw[hz]at h;cases h;obtain⟨md,b,h1,h2,h3⟩:=Je (Bg hm hx rfl);refine⟨rfl,_,λw' _=>X.fieldAddr (off':=Ah (p++[.fld f off])) (PR hf hz) h3 ?_,Nh h1 h2⟩;rw[Qq];rfl
  ·rename_i l off z hx hf;split at h
   ·rename_i u hl;cases hz:(!Nat.beq z 0&&Nat.beq (NW l f) off)with
    |true=>
     rw[hz]at h;cases h;simp only[uJ,vB]at hz;obtain⟨b,o,h1,h2⟩:=cD (Bg hm hx rfl) hl (uV hz.2);exact⟨rfl,_,λw' _=>X.fieldAddr (PR hf hz.1) h1 rfl,h2⟩
    |false=>rw[hz]at h;cases h
   ·cases h
  ·cases h
 ·
  rename_i as ts;split at h
  ·rename_i x y ha;have:=Lj ha;subst this;split at h
   ·rename_i k a k' c hx hy;split at h
    ·rename_i hk;subst hk;cases h;exact⟨rfl,_,λw' _=>X.min (Js hm hx) (Js hm hy),rfl⟩
    ·cases h
   ·cases h
  ·cases h
 ·rename_i as ts;split at h
  ·rename_i x y ha;have:=Lj ha;subst this;split at h
   ·rename_i k a k' c hx hy;split at h
    ·rename_i hk;subst hk;cases h;exact⟨rfl,_,λw' _=>X.max (Js hm hx) (Js hm hy),rfl⟩
    ·cases h
   ·cases h
  ·cases h
 ·cases h
end Go.Rx
namespace Go.Rx
open Go Go.Lv
variable{e:ET}{i z:Nat}{x:Operand}{u:PV}{E t:TypeId}{v:Value}
variable {P:Program} {B:Reg} {w:World} {L:List MD} {s:S} {σs:List Env} {σ:Env} {Z:Fix} {A:Reg}
theorem EU:∀{it:List Item} {i:Nat} {a:Item},Bd it i=a->a≠ .dead->it[i]? =some a
 |[],_,a,h,hd=>absurd h.symm (by simpa [Bd]using hd)
 |b::r,0,a,h,_=>by simpa [Bd]using h
 |b::r,i+1,a,h,hd=>by simpa using EU (it:=r) (by simpa [Bd]using h) hd
theorem MemR.item(hm:MemR B w L s σs σ){a:Item}(h:Bd s.it i=a)(hd:a≠ .dead):∃md,L[i]? =some md/\Jk B w L a md:=by
 have h1:=EU h hd;have hl:i<L.length:=by rw[<-hm.it.1];exact(List.getElem?_eq_some_iff.1 h1).1
 exact⟨L[i],by simp[hl],hm.it.2 i a _ h1 (by simp[hl])⟩
theorem MemR.box(hm:MemR B w L s σs σ){i:Nat}{T:TypeId}{v:PV}(h:Bd s.it i= .box T v):∃b cells,L[i]? =some (.box b cells T)/\Am B w L v cells:=by
 obtain⟨md,h1,h2⟩:=hm.item h (by intro e;cases e);cases md with
 |dead=>exact h2.elim
 |box b cells T'=>obtain⟨rfl,h3⟩:=h2;exact⟨b,cells,h1,h3⟩
 |own _ _ _ _=>exact h2.elim
theorem MemR.arr(hm:MemR B w L s σs σ){l:List e.T}(h:Bd s.it i= .arr E e l):∃v cs,L[i]? =some (.own e.size E v cs)/\Az (Ak B w e) l cs:=by
 obtain⟨md,h1,h2⟩:=hm.item h (by intro e;cases e);cases md with
 |dead=>exact h2.elim
 |box b cells T'=>exact h2.elim
 |own z E' v cs=>obtain⟨rfl,rfl,h3⟩:=h2;exact⟨v,cs,h1,h3⟩
theorem Rel.Cx(hr:Rel Z s σs A L σ w){md:MD}(h:L[i]? =some md):(L.map MD.Cx)[i]? =some md.Cx:=by simp[h]
structure Ext (Z:Fix) (s:S) (σs:List Env) (A:Reg) (L:List MD) (σ:Env) (w w':World):Prop where
 ex:∃(A':Reg) (L':List MD) (it':List Item),(∀b,A b->A' b)/\Rel Z ⟨s.sl,s.it++it',s.st⟩ σs A' (L++L') σ w'
 same:Same A w w'
theorem Ext.refl(hr:Rel Z s σs A L σ w):Ext Z s σs A L σ w w:=⟨⟨A,[],[],λ_ h=>h,by simpa using hr⟩,λ_ _=>rfl⟩
theorem dU{c1 c2 c3:List Value}{o:Nat}(h:c1.length=o):((c1++(c2++c3)).drop o).take c2.length=c2:=by
 subst h;simp
theorem Wk:∀{p:List Step} {v u:PV} {cs:List Value},MP v p=some u->Am B w L v cs->∃c1 c2 c3,cs=c1++(c2++c3)/\c1.length=Ah p/\Am B w L u c2
 |[],v,u,cs,h,hv=>by simp only[MP,uN]at h;subst h;exact⟨[],cs,[],A9,rfl,hv⟩
 | .fld n off::r,v,u,cs,h,hv=>by
  cases v<;>simp only[MP,reduceCtorEq]at h;rename_i l;split at h
  ·rename_i f hf;cases hb:Nat.beq (NW l n) off with
   |false=>rw[hb]at h;cases h
   |true=>
    rw[hb]at h;obtain⟨c1,c2,c3,e,h1,h2,_⟩:=Am.field (show Am.go B w L l cs from hv) hf;obtain⟨d1,d2,d3,e',h3,h4⟩:=Wk h h2;refine⟨c1++d1,d2,d3++c3,by rw[e,e'];simp,?_,h4⟩;rw[uR,h1,h3,uV hb];rfl
  ·cases h
 | .idx j z::r,v,u,cs,h,hv=>by cases v<;>simp[MP]at h
theorem jI{T:TypeId}{b:Nat}{c1 c2 c3:List Value}{F:List Fact}{LL:List Mob}{w':World}(h:OkLoad P t u)(hu:Am B w L u c2):
  ∃val,Dg B w L u val/\∀(A':Reg) (F:List Fact) (LL:List Mob) (w':World) (i:Nat),St A' w' F LL->LL[i]? =some (.box b (c1++(c2++c3)) T)->ev σ x= .pointer (some ⟨b,c1.length,none⟩)->XO P σ w' (.load t x) val:=by
 obtain⟨d,hd,ha⟩:=h.agg;have hlen:=hu.len;cases hA:u.isA with
 |true=>
  refine⟨.agg c2.toArray,by unfold Dg;rw[hA];exact⟨c2,rfl,hu⟩,λA' F LL w' i hs hL hx=>?_⟩;exact X.fQ hs hL ⟨d,hd,ha.trans hA⟩ h.size hx (by rw[<-hlen];exact dU rfl) hlen
 |false=>
  have h1:=h.one hA;rw[h1]at hlen
  match c2,hlen with
  |[v],_=>
   refine⟨v,by unfold Dg;rw[hA];exact hu,λA' F LL w' i hs hL hx=>?_⟩;exact X.iB hs hL ⟨d,hd,ha.trans hA⟩ hx A9
theorem lK{c2:List Value}(h:OkLoad P t u)(hu:Am B w L u c2)(hp:UT B w v c2)(hx:ev σ x=v):
  ∃val,Dg B w L u val/\∀w',Same B w w'->XO P σ w' (.load t x) val:=by
 obtain⟨d,hd,ha⟩:=h.agg;have hlen:=hu.len;obtain⟨b,off,arr,T,fr,rfl,hB,hb,hc⟩:=hp;have hcell:∀w',Same B w w'->∀k,k<c2.length->w'.cell? ⟨b,off+k,none⟩=c2[k]? :=λw' hs k hk=>by
  rw[cell_of ((hs b hB).trans hb)];exact hc k hk
 cases hA:u.isA with
 |true=>
  refine⟨.agg c2.toArray,by unfold Dg;rw[hA];exact⟨c2,rfl,hu⟩,λw' hs _ _ _ _ _=>?_⟩;have h1:=Eu (P:=P) (w:=w') (b:=b) (off:=off) c2 (hcell w' hs);rw[hlen]at h1;simp only[execOp,hx,Instr.loadAt,Instr.sureAddr,uP,uT,uK,loadVar,Ca hd (ha.trans hA),yB,As h.size,h1]
 |false=>
  have h1:=h.one hA;rw[h1]at hlen
  match c2,hlen with
  |[v],_=>
   refine⟨v,by unfold Dg;rw[hA];exact hu,λw' hs _ _ _ _ _=>?_⟩;have h2:w'.cell? ⟨b,off,none⟩=some v:=by simpa using hcell w' hs 0 A9
   simp only[execOp,hx,Instr.loadAt,Instr.sureAddr,uP,uT,uK,loadVar,Ca hd (ha.trans hA),vF,wQ,Mq h2]
theorem Az.Nx{k:Kd}:∀{l:List k.T} {cs:List Value},Az (Ak B w (.int k)) l cs->cs=Go.Lv.Nx (k:=k.k) l
 |[],_,h=>h
 |x::l,_,⟨c1,c2,e,h1,h2⟩=>by rw[e,show c1=_ from h1,Az.Nx h2];rfl
theorem Az.nil{α:Type}{f:α->List Value->Prop}:Az f [] []:=rfl
theorem Az.take{α:Type}{f:α->List Value->Prop}{z:Nat}(hz:∀x c,f x c->c.length=z):∀{l:List α} {cs:List Value} (k:Nat),Az f l cs->Az f (l.take k) (cs.take (k*z))
 |[],cs,k,h=>by rw[show cs=[]from h];simp[Az]
 |a::l,cs,0,_=>by simp[Az]
 |a::l,cs,k+1,⟨c1,c2,e,h1,h2⟩=>by
  subst e;refine⟨c1,c2.take (k*z),?_,h1,Az.take hz k h2⟩;have:(k+1)*z=c1.length+k*z:=by rw[hz _ _ h1,wP];omega
  rw[this,xV]
theorem Az.drop{α:Type}{f:α->List Value->Prop}{z:Nat}(hz:∀x c,f x c->c.length=z):∀{l:List α} {cs:List Value} (k:Nat),Az f l cs->Az f (l.drop k) (cs.drop (k*z))
 |[],cs,k,h=>by rw[show cs=[]from h];simp[Az]
 |a::l,cs,0,h=>by simpa using h
 |a::l,cs,k+1,⟨c1,c2,e,h1,h2⟩=>by
  subst e;have:(k+1)*z=c1.length+k*z:=by rw[hz _ _ h1,wP];omega
  have h3:(c1++c2).drop (c1.length+k*z)=c2.drop (k*z):=by simp[List.drop_append]
  rw[this,h3];exact Az.drop hz k h2
theorem Rd.part{u:Value}{cs:List Value}{p:List Step}{lo n:Int}(hv:aK true (.own z E u cs) p z lo n v)(h:Rd B w z u cs):Rd B w z v ((cs.drop (lo.toNat*z)).take (n.toNat*z)):=by
 obtain⟨h1,h2,⟨pt,cap,rfl,h4,h5,h6⟩,h7,_⟩:=hv;obtain⟨s',E',q,len,cap0,c0,e0,rfl,g2,g3,_⟩:=h7 rfl;cases e0;obtain⟨q',len',cap',e1,k1,k2,k3,k4⟩:=h;cases e1;have k5:=g3 _ _ _ rfl;have e5:lo.toNat*z+n.toNat*z<=len*z:=by rw[<-vA];exact uM z g2
 refine⟨pt,n.toNat,cap,rfl,?_,h4,h5,λhc=>?_⟩
 ·rw[vG,xB,k1];omega
 ·obtain⟨b,e2,e3⟩:=h6 hc;obtain⟨b',off,arr,T,fr,e4,m1,m2,m3,m4⟩:=k4 A7;subst e4;have e6:b'=b/\off=0:=by
   unfold MD.base at e2;split at e2
   ·rename_i heq;cases heq
   ·rename_i heq;cases heq;cases e2;exact⟨rfl,rfl⟩
   ·cases e2
  obtain⟨rfl,rfl⟩:=e6;refine⟨b',lo.toNat*z,arr,T,fr,by rw[e3];simp[Ah],m1,m2,?_,λi hi=>?_⟩
  ·have:lo.toNat*z+cap*z<=cap0*z:=by rw[<-vA];exact uM z k5
   omega
  ·have:=m4 (lo.toNat*z+i) A7;rw[wO]at this;rw[this,uY,vP hi,vV]
theorem Zc{p:PV}{l:List e.T}(hm:MemR B w L s σs σ)(h:elems s e p=some l)(hv:Bw B w L p v):
  ∃c0,Az (Ak B w e) l c0/\ ((Rd B w e.size v c0)\/ (∃i E u cs,i∈owns p/\L[i]? =some (.own e.size E u cs)/\∀(B:Reg) (w:World),Rd B w e.size u cs->Rd B w e.size v c0)):=by
 unfold elems at h;split at h
 ·rename_i e' x;split at h
  ·rename_i a l';split at h
   ·rename_i ha;subst ha;cases h;obtain⟨c0,h1,h2⟩:=Kj hv;exact⟨c0,h2, .inl h1⟩
   ·cases h
  ·cases h
 ·cases h;rw[Mb hv];exact⟨[],rfl, .inl Rd.nil⟩
 ·rename_i a l' c;split at h
  ·rename_i ha;subst ha;cases h;obtain⟨v',c0,h1,h2,h3,_⟩:=hv;cases h1;exact⟨c0,h3, .inl h2⟩
  ·cases h
 ·rename_i i;split at h
  ·rename_i E a l' hi;split at h
   ·rename_i ha;subst ha;cases h;obtain⟨v',cs,h1,h2⟩:=hm.arr hi;obtain⟨z,E',c',h3⟩:=Nj hv;rw[h1]at h3;cases h3;exact⟨cs,h2, .inr ⟨i,E,_,cs, .head _,h1,λ_ _ h=>h⟩⟩
   ·cases h
  ·cases h
 ·rename_i i p e1 lo n;split at h
  ·rename_i E a l' hi;split at h
   ·rename_i ha;subst ha;cases he:decide (e1=a)with
    |false=>rw[he]at h;cases h
    |true=>
     rw[he]at h;cases h;have:=vU he;subst this;obtain⟨v',cs,h1,h2⟩:=hm.arr hi;obtain⟨md,v1,h3,h4,h5⟩:=hv;rw[h1]at h3;cases h3;have h6:v=v1:=by simpa using h4
     subst h6;exact⟨_,Az.take (λx c h=>Ak.len h) _ (Az.drop (λx c h=>Ak.len h) _ h2), .inr ⟨i,E,v',cs, .head _,h1,λ_ _ h=>Rd.part h5 h⟩⟩
   ·cases h
  ·cases h
 ·cases h
theorem Rd.slice{cs:List Value}(h:Rd B w z v cs)(hz:0<z):∃p len cap,v= .slice p len cap/\cs.length=len*z:=by
 obtain⟨p,len,cap,h1,h2,_⟩:=h;exact⟨p,len,cap,h1,h2⟩
theorem jR{e':TypeId}{p:Option Addr}{len cap:Nat}{l:List e.T}{cs:List Value}(ht:P.underlying t=some (.slice e'))(hz:Nat.beq e.size 0=false)(hc:Az (Ak B w e) l cs)
  (hl:cs.length=len*e.size) (hx:ev σ x= .slice p len cap):∀w',XO P σ w' (.call ⟨.builtin .len, #[x], #[t]⟩) (iv (Aa l)):=by
 have h1:=hc.len λx c h=>Ak.len h;have hp:0<e.size:=by
  rcases yA e.size with h|h
  ·rw[h]at hz;cases hz
  ·exact h
 have:len=l.length:=uQ hp (hl.symm.trans h1);subst this;intro w';exact X.IN ht hx
theorem Rel.Hl(hr:Rel Z s σs A L σ w){i z:Nat}{E:TypeId}{v:Value}{cs:List Value}(h:L[i]? =some (.own z E v cs)):Rd (λ_=>True) w z v cs:=
 St.Hl (E:=E) hr (j:=i) (hr.Cx h)
theorem bM(hr:Rel Z s σs A L σ w){o:Op}{v:PV}(h:pY P s o=some v):Yields P (λb=>A b/\Z.R b) w L σ (Ext Z s σs A L σ w) o v:=by
 have hm:=hr.mem;have hS:∀w',Ext Z s σs A L σ w w'->Same (λb=>A b/\Z.R b) w w':=λw' he b hb=>he.same b hb.1;unfold pY at h;split at h
 ·
  rename_i t x;split at h
  ·rename_i i p hx;obtain⟨md,b,h1,h2,h3⟩:=Je (Bg hm.sl hx rfl);split at h
   ·rename_i T v0 hi;split at h
    ·rename_i u hu;cases hk:Ff P t u with
     |false=>rw[hk]at h;cases h
     |true=>
      rw[hk]at h;cases h;obtain⟨b',cells,h4,h5⟩:=hm.box hi;rw[h4]at h1;cases h1;cases h2;obtain⟨c1,c2,c3,e,h6,h7⟩:=Wk hu h5;obtain⟨val,h8,h9⟩:=jI (σ:=σ) (x:=x) (b:=b) (T:=T) (c1:=c1) (c3:=c3) (F:=[]) (LL:=[]) (w':=w) (Fz hk) h7;obtain⟨hv,hv'⟩:=Dp h8;refine⟨hv,val,λw' he=>?_,hv'⟩;obtain⟨A',L',it',ha,hr'⟩:=he.ex;have h10:(L++L')[i]? =some (.box b cells T):=by rw[uO (List.getElem?_eq_some_iff.1 h4).1];exact h4
      exact h9 A' _ _ w' i hr' (by rw[hr'.Cx h10,<-e];rfl) (by rw[h3,h6])
    ·cases h
   ·cases h
  ·rename_i u hx;cases hk:Ff P t u with
   |false=>rw[hk]at h;cases h
   |true=>
    rw[hk]at h;cases h;obtain⟨c0,h1,h2⟩:=IA (Bg hm.sl hx rfl);obtain⟨val,h3,h4⟩:=lK (P:=P) (Fz hk) h2 h1 rfl;obtain⟨hv,hv'⟩:=Dp h3;exact⟨hv,val,λw' he=>h4 w' (hS w' he),hv'⟩
  ·cases h
 ·
  rename_i a t x;split at h
  ·rename_i ht;split at h
   ·rename_i e ha;split at h
    ·rename_i he;cases hel:elems s (.int .u8) (Bs s.sl x)with
     |none=>rw[hel]at h;cases h
     |some l=>
      rw[hel]at h;cases h;have hx:=Vq hm.sl x;have hV:(Bs s.sl x).isV=true:=by
       cases hq:(Bs s.sl x).isV with
       |true=>rfl
       |false=>rcases Ig hq with h|h|⟨_,_,_,h⟩<;>rw[h]at hel<;>cases hel
      obtain⟨c0,h1,h2⟩:=Zc hm hel ((aP.iff hV).1 hx);have h3:=Az.Nx (k:= .u8) h1;subst h3;refine⟨rfl,sv l,λw' hext=>?_,rfl⟩;rcases h2 with h2|⟨i,E,u,cs,_,h2,hpart⟩
      ·exact X.sO (l:=l) ha he ht (h2.step (λ_ h=>h) (hS w' hext)) rfl
      ·obtain⟨A',L',it',ha',hr'⟩:=hext.ex;have h4:(L++L')[i]? =some (.own 1 E u cs):=by rw[uO (List.getElem?_eq_some_iff.1 h2).1];exact h2
       exact X.sO (l:=l) ha he ht (hpart _ _ (hr'.Hl h4)) rfl
    ·cases h
   ·cases h
  ·cases h
 ·
  rename_i as ts;split at h
  ·rename_i x t has hts;have h1:=Lj has;have h2:=Lj hts;subst h1 h2;split at h
   ·rename_i ht;split at h
    ·rename_i l hx;cases h;exact⟨rfl,_,λw' _=>X.mM ht (Gw hm.sl hx),rfl⟩
    ·cases h
   ·rename_i e' ht;split at h
    ·rename_i e l hx;cases hz:Nat.beq e.size 0 with
     |true=>rw[hz]at h;cases h
     |false=>
      rw[hz]at h;cases h;obtain⟨c0,h3,h4⟩:=Kj (Bg hm.sl hx rfl);obtain⟨p,len,cap,h5,h6,_⟩:=h3;exact⟨rfl,_,λw' _=>jR ht hz h4 h6 h5 w',rfl⟩
    ·rename_i hx;cases h;have h3:=Mb (Bg hm.sl hx rfl);exact⟨rfl,_,λw' _=>X.IN ht h3,rfl⟩
    ·rename_i o i p e n lo hx;cases h;obtain⟨md,v1,h3,h4,h5⟩:=Bg hm.sl hx rfl;obtain⟨k1,k2,⟨pt,cap,k3,_⟩,_⟩:=h5;have h6:ev σ x=v1:=by simpa using h4
     refine⟨rfl,_,λw' _=>X.IN ht (h6.trans k3),?_⟩
     show [_]=[_];simp[iv,GI.toZ,Int.toNat_of_nonneg k2]
    ·rename_i i hx;split at h
     ·rename_i E e l hi;cases hz:Nat.beq e.size 0 with
      |true=>rw[hz]at h;cases h
      |false=>
       rw[hz]at h;cases h;obtain⟨v',cs,h3,h4⟩:=hm.arr hi;obtain⟨z,E',c',h5⟩:=Nj (Bg hm.sl hx rfl);rw[h3]at h5;cases h5;obtain⟨p,len,cap,h6,h7,_⟩:=hr.Hl h3;exact⟨rfl,_,λw' _=>jR ht hz h4 h7 h6 w',rfl⟩
     ·cases h
    ·cases h
   ·rename_i n _ ht;cases h;exact⟨rfl,_,λw' _=>X.lT ht rfl,rfl⟩
   ·cases h
  ·cases h
 ·cases h
end Go.Rx
namespace Go.Rx
open Go Go.Lv
variable{a:Item}{p:PV}{sl:Slots}{v:Value}
variable {P:Program} {B:Reg} {w w':World} {L L':List MD} {s:S} {σs:List Env} {σ:Env} {Z:Fix} {A A':Reg} {n:Nat}
theorem Up:∀{sl:Slots} {d t:Nat} {p:PV},(t,p)∈KB d sl-> (t,p)∈sl/\t≠d/\∀j w q,p= .gd j w q->j≠d
 |[],_,_,_,h=>by simp[KB]at h
 |(q,v)::r,d,t,p,h=>by
  have key:∀{j:Nat},Nat.beq j d=false->j≠d:=λh e=>by subst e;simp at h
  simp only[KB]at h;cases hq:Nat.beq q d with
  |true=>rw[hq]at h;obtain⟨h1,h2⟩:=Up h;exact⟨.tail _ h1,h2⟩
  |false=>
   rw[hq]at h;dsimp only[Bf,cond]at h;split at h
   ·rename_i j w u;cases hj:Nat.beq j d with
    |true=>rw[hj]at h;obtain⟨h1,h2⟩:=Up h;exact⟨.tail _ h1,h2⟩
    |false=>
     rw[hj]at h;rcases List.mem_cons.1 h with h|h
     ·cases h;exact⟨.head _,key hq,λj' w' q' e=>by cases e;exact key hj⟩
     ·obtain⟨h1,h2⟩:=Up h;exact⟨.tail _ h1,h2⟩
   ·rename_i hg;rcases List.mem_cons.1 h with h|h
    ·cases h;exact⟨.head _,key hq,λj' w' q' e=>(hg _ _ _ e).elim⟩
    ·obtain⟨h1,h2⟩:=Up h;exact⟨.tail _ h1,h2⟩
theorem Cw.other{d t:Nat}(h:Cw B w L σ t p)(ht:t≠d)(hg:∀j w q,p= .gd j w q->j≠d):Cw B w L (Hi σ d v) t p:=by
 cases hv:p.isV with
 |true=>
  refine(Cw.iff hv).2 ?_;rw[Wi _ _ ht];exact(Cw.iff hv).1 h
 |false=>
  rcases Ig hv with rfl|rfl|⟨j,w,q,rfl⟩
  ·exact trivial
  ·show Go.Lv.Hi σ d v t=_;rw[Wi _ _ ht];exact h
  ·obtain⟨b,h1,h2,h3⟩:=h;have hj:=hg _ _ _ rfl;exact⟨b,by rw[Wi _ _ hj];exact h1,by rw[Wi _ _ ht];exact h2,by rw[Wi _ _ ht];exact h3⟩
theorem Cj.set{d:Nat}(h:Cj B w L σ sl)(hp:Cw B w L (Hi σ d v) d p):Cj B w L (Hi σ d v) (fH sl d p):=by
 rintro⟨t,q⟩ hq;rcases List.mem_cons.1 hq with hq|hq
 ·cases hq;exact hp
 ·obtain⟨h1,h2,h3⟩:=Up hq;exact(h _ h1).other h2 h3
theorem Rel.YF{s':S}{σ':Env}(hr:Rel Z s σs A L σ w)(hi:s'.it=s.it)(ht:s'.st=s.st)(h:Cj (λb=>A b/\Z.R b) w L σ' s'.sl):Rel Z s' σs A L σ' w:=
 Rel.as hr (i:=1) rfl ⟨by rw[hi];exact hr.mem.it,h,by rw[ht];exact hr.mem.stk⟩ rfl
theorem Cw.put{d:Nat}(hv:p.isV=true)(h:Bw B w L p v):Cw B w L (Hi σ d v) d p:=by
 refine(Cw.iff hv).2 ?_;rw[Jq];exact h
theorem Rel.set{d:Nat}{p:PV}{v:Value}(hr:Rel Z s σs A L σ w)(h:Cw (λb=>A b/\Z.R b) w L (Hi σ d v) d p):Rel Z (s.set d p) σs A L (Hi σ d v) w:=
 hr.YF rfl rfl (hr.mem.sl.set h)
def fO(σ:Env)(d:Option Nat)(v:Value):Env:=match d with|some d=>Hi σ d v|none=>σ
theorem Rel.Cl{d:Option Nat}(hr:Rel Z s σs A L σ w)(hv:p.isV=true)(h:Bw (λb=>A b/\Z.R b) w L p v):Rel Z (s.Cl d p) σs A L (fO σ d v) w:=by
 cases d with
 |none=>exact hr
 |some d=>exact hr.set (.put hv h)
theorem Rel.kI{d:Option Nat}(hr:Rel Z s σs A L σ w):Rel Z (s.Cl d .off) σs A L (fO σ d Go.undef) w:=by
 cases d with
 |none=>exact hr
 |some d=>exact hr.set (show Hi σ d Go.undef d=Go.undef from Jq _ _ _)
theorem YU:∀{sl:Slots} {t q:Nat} {b:Bool} {p:PV},(q,p)∈fD t b sl-> (q=t/\p= .cst (.bool b))\/ (∃p0,(q,p0)∈sl/\ (p=p0\/∃want u,p0= .gd t want u/\p=(Bf (CX want b) (u)<| .off)))
 |[],_,_,_,_,h=>by simp[fD]at h
 |(q',v)::r,t,q,b,p,h=>by
  simp only[fD]at h;rcases List.mem_cons.1 h with g|g
  ·clear h;cases hq:Nat.beq q' t with
   |true=>
    rw[hq]at g;simp only[cond_true,Ug,wF]at g;exact .inl ⟨g.1.trans (uV hq),g.2⟩
   |false=>
    rw[hq]at g;dsimp only[Bf,cond]at g;split at g
    ·rename_i j want u;cases hj:Nat.beq j t with
     |true=>
      rw[hj]at g;simp only[cond_true,Ug,wF]at g;have:=uV hj;subst this;exact .inr ⟨_,by rw[g.1];exact .head _, .inr ⟨want,u,rfl,g.2⟩⟩
     |false=>
      rw[hj]at g;cases g;exact .inr ⟨_, .head _, .inl rfl⟩
    ·cases g;exact .inr ⟨_, .head _, .inl rfl⟩
  ·rcases YU g with h|⟨p0,h1,h2⟩
   ·exact .inl h
   ·exact .inr ⟨p0, .tail _ h1,h2⟩
theorem Cj.res{t:Nat}{b:Bool}(h:Cj B w L σ sl)(ht:σ t= .bool b):Cj B w L σ (fD t b sl):=by
 rintro⟨q,p⟩ hp;rcases YU hp with⟨h1,h2⟩|⟨p0,h1,h2⟩
 ·subst h1;subst h2;exact⟨show [σ q]=[_] by rw[ht],rfl⟩
 ·have h3:=h _ h1;rcases h2 with rfl|⟨want,u,rfl,rfl⟩
  ·exact h3
  ·obtain⟨c,h4,h5,h6⟩:=h3;rw[ht]at h4;cases h4;cases hw:CX want b with
   |true=>
    have hb:=jP hw;subst hb;have h7:=h5 rfl;cases hv:u.isV with
    |true=>exact(Cw.iff hv).2 h7
    |false=>
     rcases Ig hv with rfl|rfl|⟨j,w',q',rfl⟩
     ·exact trivial
     ·exact(show False from h7).elim
     ·exact(show False from h7).elim
   |false=>
    show σ q=_;refine h6 λe=>?_;subst e;cases b<;>cases hw
theorem Rel.res{t:Nat}{b:Bool}(hr:Rel Z s σs A L σ w)(ht:σ t= .bool b):Rel Z (s.res t b) σs A L σ w:=hr.YF rfl rfl (hr.mem.sl.res ht)
structure Grow (A:Reg) (L:List MD) (it:List Item) (w:World) (A':Reg) (L':List MD) (it':List Item) (w':World):Prop where
 reg:∀b,A b->A' b
 same:Same A w w'
 md:∃M,L'=L++M
 it:∃m,it'=it++m
theorem Grow.refl{it:List Item}:Grow A L it w A L it w:=⟨λ_ h=>h,λ_ _=>rfl,⟨[],A9⟩,⟨[],A9⟩⟩
theorem Grow.trans{A'':Reg}{L'':List MD}{it it' it'':List Item}{w'':World}(h:Grow A L it w A' L' it' w')(h':Grow A' L' it' w' A'' L'' it'' w''):Grow A L it w A'' L'' it'' w'':=by
 obtain⟨M,e1⟩:=h.md;obtain⟨m,e2⟩:=h.it;obtain⟨M',e3⟩:=h'.md;obtain⟨m',e4⟩:=h'.it;exact⟨λb hb=>h'.reg b (h.reg b hb),λb hb=>(h'.same b (h.reg b hb)).trans (h.same b hb),⟨M++M',by rw[e3,e1,vT]⟩,⟨m++m',by rw[e4,e2,vT]⟩⟩
theorem Grow.ext{s':S}{σ':Env}(hg:Grow A L s.it w A' L' s'.it w')(hr:Rel Z s σs A L σ w)(hr':Rel Z s' σs A' L' σ' w'):Ext Z s σs A L σ w w':=by
 obtain⟨M,e1⟩:=hg.md;obtain⟨m,e2⟩:=hg.it;refine⟨⟨A',M,m,hg.reg,?_⟩,hg.same⟩;rw[<-e1];have hl:Xs L L':=by rw[e1];exact Xs.append _ _
 exact Rel.as hr' (i:=1) rfl ⟨by rw[<-e2];exact hr'.mem.it,hr.mem.sl.step (λb hb=>⟨hg.reg b hb.1,hb.2⟩) (λb hb=>hg.same b hb.1) hl,
  hr.mem.stk.step (λb hb=>⟨hg.reg b hb.1,hb.2⟩) (λb hb=>hg.same b hb.1) hl⟩ rfl
theorem Bi.Wj{F:List Fact}{LL LL':List Mob}(h:St A w F LL)(hp:LL.Perm LL'):St A w F LL':=⟨h.lt,h.facts,h.mobs.perm hp⟩
theorem Rel.push{md:MD}(h:St A' w' [IB Z.R L s σs σ, .old Z.M Z.w0] (md.Cx::L.map MD.Cx))(ha:Jk (λb=>A' b/\Z.R b) w' (L++[md]) a md):
  Rel Z (s.add a) σs A' (L++[md]) σ w':=by
 have hm:MemR (λb=>A' b/\Z.R b) w' L s σs σ:=h.fact 0 rfl;have hl:=Xs.append L [md];refine Rel.as (h:=Bi.Wj h ?_) (i:=1) rfl ⟨⟨?_,?_⟩,hm.sl.step (λ_ h=>h) (λ_ _=>rfl) hl,hm.stk.step (λ_ h=>h) (λ_ _=>rfl) hl⟩ rfl
 ·rw[wW];exact(xN (l₁:=[md.Cx]) (l₂:=L.map MD.Cx))
 ·simp[S.add,hm.it.1]
 ·intro i a' m h1 h2;simp only[S.add]at h1;rcases wG i s.it.length with hi|hi
  ·rw[uO hi]at h1;rw[uO (by rw[<-hm.it.1];exact hi)]at h2;exact(hm.it.2 i a' m h1 h2).step (λ_ h=>h) (λ_ _=>rfl) hl
  ·rw[uU hi]at h1;rw[uU (by rw[<-hm.it.1];exact hi)]at h2;rw[hm.it.1]at h1;cases hq:i-L.length with
   |zero=>rw[hq]at h1 h2;simp at h1 h2;subst h1 h2;exact ha
   |succ q=>rw[hq]at h1;simp at h1
theorem BF:∀{it:List Item} {i j:Nat} {a b:Item},(Lh it i a)[j]? =some b-> (j=i/\b=a)\/ (j≠i/\it[j]? =some b)
 |[],_,_,_,_,h=>by simp[Lh]at h
 |c::r,0,0,a,b,h=>by simp[Lh]at h;exact .inl ⟨rfl,h.symm⟩
 |c::r,0,j+1,a,b,h=>by simp[Lh]at h;exact .inr ⟨A7,by simpa using h⟩
 |c::r,i+1,0,a,b,h=>by simp[Lh]at h;exact .inr ⟨A7,by simpa using h⟩
 |c::r,i+1,j+1,a,b,h=>by
  simp[Lh]at h;rcases BF h with⟨h1,h2⟩|⟨h1,h2⟩
  ·exact .inl ⟨A7,h2⟩
  ·exact .inr ⟨A7,by simpa using h2⟩
theorem BH:∀{it:List Item} {i:Nat} {a:Item},(Lh it i a).length=it.length
 |[],_,_=>rfl
 |_::_,0,_=>rfl
 |_::r,i+1,a=>by simp[Lh,BH]
theorem Rel.change{i:Nat}{md md':MD}(h:St A' w' [IB Z.R L s σs σ, .old Z.M Z.w0] ((L.map MD.Cx).set i md'.Cx))(hi:L[i]? =some md)
  (hle:Xs L (L.set i md')) (ha:Jk (λb=>A' b/\Z.R b) w' (L.set i md') a md'):Rel Z (s.Hi i a) σs A' (L.set i md') σ w':=by
 have hm:MemR (λb=>A' b/\Z.R b) w' L s σs σ:=h.fact 0 rfl;refine Rel.as h (i:=1) rfl ⟨⟨?_,?_⟩,hm.sl.step (λ_ h=>h) (λ_ _=>rfl) hle,hm.stk.step (λ_ h=>h) (λ_ _=>rfl) hle⟩ (by rw[xD])
 ·simp[S.Hi,BH,hm.it.1]
 ·intro j b m h1 h2;simp only[S.Hi]at h1;rcases BF h1 with⟨rfl,rfl⟩|⟨h3,h4⟩
  ·rw[vM (List.getElem?_eq_some_iff.1 hi).1]at h2;cases h2;exact ha
  ·rw[vJ (xE h3)]at h2;exact(hm.it.2 j b m h4 h2).step (λ_ h=>h) (λ_ _=>rfl) hle
theorem Xs.set{i:Nat}{md md':MD}(hi:L[i]? =some md)(h1:∀s E v c,md= .own s E v c->∃s' E' c',md'= .own s' E' v c')(h2:∀b,md.base=some b->md'.base=some b):Xs L (L.set i md'):=by
 have hl:=(List.getElem?_eq_some_iff.1 hi).1;refine⟨λj s E v c h=>?_,λj m b h h'=>?_⟩
 ·by_cases hj:j=i
  ·subst hj;rw[hi]at h;cases h;obtain⟨s',E',c',rfl⟩:=h1 _ _ _ _ rfl;exact⟨s',E',c',by rw[vM hl]⟩
  ·exact⟨s,E,c,by rw[vJ (xE hj)];exact h⟩
 ·by_cases hj:j=i
  ·subst hj;rw[hi]at h;cases h;exact⟨md',by rw[vM hl],h2 b h'⟩
  ·exact⟨m,by rw[vJ (xE hj)];exact h,h'⟩
end Go.Rx
namespace Go.Rx
open Go Go.Lv
variable{a:Item}{R:Type}
variable {P:Program} {B:Reg} {w w':World} {L L':List MD} {s:S} {σs:List Env} {σ:Env} {Z:Fix} {A A':Reg} {n:Nat}
theorem Az.get{α:Type}{f:α->List Value->Prop}{z:Nat}(hz:∀x c,f x c->c.length=z):∀{l:List α} {i:Nat} {x:α} {cs:List Value},Az f l cs->l[i]? =some x->
  ∃c1 c2 c3,cs=c1++(c2++c3)/\c1.length=i*z/\f x c2/\∀y c2',f y c2'->Az f (l.set i y) (c1++(c2'++c3))
 |[],_,_,_,_,h=>by simp at h
 |a::l,0,x,cs,⟨c1,c2,e,h1,h2⟩,h=>by
  simp at h;subst h;exact⟨[],c1,c2,by simpa using e,A9,h1,λy c2' hy=>⟨c2',c2,A9,hy,h2⟩⟩
 |a::l,i+1,x,cs,⟨c1,c2,e,h1,h2⟩,h=>by
  obtain⟨d1,d2,d3,e',h3,h4,h5⟩:=Az.get hz (i:=i) h2 (by simpa using h);refine⟨c1++d1,d2,d3,by rw[e,e'];simp,by rw[uR,hz _ _ h1,h3,wP];omega,h4,λy c2' hy=>?_⟩;exact⟨c1,d1++(c2'++d3),A9,h1,h5 y c2' hy⟩
theorem Az.append{α:Type}{f:α->List Value->Prop}:∀{l m:List α} {cs ds:List Value},Az f l cs->Az f m ds->Az f (l++m) (cs++ds)
 |[],m,cs,ds,h,h'=>by rw[show cs=[]from h];exact h'
 |a::l,m,cs,ds,⟨c1,c2,e,h1,h2⟩,h'=>⟨c1,c2++ds,by rw[e];simp,h1,Az.append h2 h'⟩
theorem Ak.one:∀{e:ET} {x:e.T} {cs:List Value},Ak B w e x cs->∀v∈cs,v.oneCell'=true
 | .int k,x,cs,h,v,hv=>by rw[show cs=_ from h]at hv;simp at hv;subst hv;rfl
 | .bool,x,cs,h,v,hv=>by rw[show cs=_ from h]at hv;simp at hv;subst hv;rfl
 | .str,x,cs,h,v,hv=>by rw[show cs=_ from h]at hv;simp at hv;subst hv;rfl
 | .list e,l,cs,⟨u,c0,e1,h,_⟩,v,hv=>by
  rw[e1]at hv;simp at hv;subst hv;obtain⟨p,len,cap,rfl,_⟩:=h;rfl
 | .vec n e,l,cs,⟨_,h⟩,v,hv=>by
  have key:∀(l:List e.T) (cs:List Value),Az (Ak B w e) l cs->v∈cs->v.oneCell'=true:=by
   intro l
   induction l with
   |nil=>intro cs h hv;rw[show cs=[]from h]at hv;simp at hv
   |cons a l ih=>
    rintro cs ⟨c1,c2,e',h1,h2⟩ hv;subst e';rcases List.mem_append.1 hv with hv|hv
    ·exact Ak.one h1 v hv
    ·exact ih _ h2 hv
  exact key l cs h hv
 | .cons a r,x,cs,⟨c1,c2,e,h1,h2⟩,v,hv=>by
  subst e;rcases List.mem_append.1 hv with hv|hv
  ·exact Ak.one h1 v hv
  ·exact Ak.one h2 v hv
 | .nil,_,cs,h,v,hv=>by rw[show cs=[]from h]at hv;simp at hv
theorem Az.one{e:ET}:∀{l:List e.T} {cs:List Value},Az (Ak B w e) l cs->∀v∈cs,v.oneCell'=true
 |[],cs,h,v,hv=>by rw[show cs=[]from h]at hv;simp at hv
 |a::l,cs,⟨c1,c2,e',h1,h2⟩,v,hv=>by
  subst e';rcases List.mem_append.1 hv with hv|hv
  ·exact h1.one v hv
  ·exact Az.one h2 v hv
theorem Az.WG{e:ET}{l:List e.T}{cs:List Value}(h:Az (Ak B w e) l cs):cs.all (·.oneCell')=true:=List.all_eq_true.2 h.one
theorem MW{R:Type}{k:PV->Option R}{r:R}:∀{p:List Step} {v:PV} {cs:List Value},aG v p k=some r->Am B w L v cs->
  ∃u c1 c2 c3,k u=some r/\cs=c1++(c2++c3)/\c1.length=Ah p/\Am B w L u c2
 |[],v,cs,h,hv=>⟨v,[],cs,[],by simpa [aG]using h,A9,rfl,hv⟩
 | .fld m off::p,v,cs,h,hv=>by
  cases v<;>simp only[aG,reduceCtorEq]at h;rename_i l;split at h
  ·rename_i f hf;obtain⟨hb,h⟩:=Aj h;obtain⟨c1,c2,c3,e,h1,h2,_⟩:=Am.field (show Am.go B w L l cs from hv) hf;obtain⟨u,d1,d2,d3,hk,e',h3,h4⟩:=MW h h2;refine⟨u,c1++d1,d2,d3++c3,hk,by rw[e,e'];simp,?_,h4⟩;rw[uR,h1,h3,Bc hb];rfl
  ·cases h
 | .idx j z::p,v,cs,h,hv=>by
  cases v<;>simp only[aG,reduceCtorEq]at h;rename_i e x;split at h
  ·rename_i m a l;obtain⟨hb,h⟩:=Aj h;obtain⟨y,hy,h⟩:=bind_some h;obtain⟨hj,_,hl⟩:=Dk hy;obtain⟨c1,c2,c3,e,h1,h2,_⟩:=Az.get (λx c h=>Ak.len h) (show Az (Ak B w a) l cs from hv.2) hl;obtain⟨u,d1,d2,d3,hk,e',h3,h4⟩:=MW h (Tn.2 h2);refine⟨u,c1++d1,d2,d3++c3,hk,by rw[e,e'];simp,?_,h4⟩;rw[uR,h1,h3,Bc hb];rfl
  ·cases h
def CZ(B:Reg)(w:World)(L:List MD):Item->List Value->Prop
 | .box _ v,cs=>Am B w L v cs
 | .arr _ e l,cs=>Az (Ak B w e) l cs
 | .dead,_=>False
theorem RT{k:PV->Option R}{r:R}{p:List Step}{cs:List Value}(h:getRoot a p k=some r)(hv:CZ B w L a cs):
  ∃u c1 c2 c3,k u=some r/\cs=c1++(c2++c3)/\c1.length=Ah p/\Am B w L u c2:=by
 unfold getRoot at h;split at h
 ·exact MW h hv
 ·rename_i E e l j z p;obtain⟨hb,h⟩:=Aj h;obtain⟨y,hy,h⟩:=bind_some h;obtain⟨hj,_,hl⟩:=Dk hy;obtain⟨c1,c2,c3,e',h1,h2,_⟩:=Az.get (λx c h=>Ak.len h) (show Az (Ak B w e) l cs from hv) hl;obtain⟨u,d1,d2,d3,hk,e'',h3,h4⟩:=MW h (Tn.2 h2);refine⟨u,c1++d1,d2,d3++c3,hk,by rw[e',e''];simp,?_,h4⟩;rw[uR,h1,h3,Bc hb];rfl
 ·cases h
theorem Vm{c1 c2 c3 ns:List Value}(h:ns.length=c2.length):Ap (c1++(c2++c3)) c1.length ns=c1++(ns++c3):=by
 unfold Ap;rw[List.take_left,h,<-List.drop_drop,yX,yX]
theorem Tt{c1 c2 c3 ns:List Value}{o:Nat}(hc:c1.length=o)(off:Nat)(h:off+ns.length<=c2.length):Ap (c1++(c2++c3)) (o+off) ns=c1++(Ap c2 off ns++c3):=by
 subst hc;unfold Ap;rw[xV,xQ A7,vH,<-List.drop_drop,yX,List.drop_append_of_le_length A7];simp
theorem FP{R:Type}{new:PV}{ns:List Value}(hn:Am B w L new ns){r:R}:∀{p:List Step} {v:PV} {cs:List Value} {k:PV->Option R},VR new v p k=some r->Am B w L v cs->
  ∃v',k v'=some r/\Ah p+ns.length<=cs.length/\Am B w L v' (Ap cs (Ah p) ns)
 |[],v,cs,k,h,hv=>by
  simp only[VR]at h;obtain⟨hb,h⟩:=Aj h;have h1:=hn.len;have h2:=hv.len;have h3:=Bc hb;refine⟨new,h,by simp[Ah];omega,?_⟩;have:Ap cs 0 ns=ns:=by
   unfold Ap;rw[yD,wS,wR A7,vK]
  rw[show Ah []=0 from rfl,this];exact hn
 | .fld m off::p,v,cs,k,h,hv=>by
  cases v<;>simp only[VR,reduceCtorEq]at h;rename_i l;split at h
  ·rename_i f hf;obtain⟨hb,h⟩:=Aj h;obtain⟨c1,c2,c3,e,h1,h2,h3⟩:=Am.field (show Am.go B w L l cs from hv) hf;obtain⟨f',hk,h4,h5⟩:=FP hn h h2;have ho:Ah (.fld m off::p)=c1.length+Ah p:=by rw[h1,Bc hb];rfl
   refine⟨_,hk,by rw[ho,e];simp;omega,?_⟩;rw[ho,e,Tt rfl _ h4];exact h3 f' _ h5
  ·cases h
 | .idx j z::p,v,cs,k,h,hv=>by
  cases v<;>simp only[VR,reduceCtorEq]at h;rename_i e x;split at h
  ·rename_i m a l;obtain⟨hb,h⟩:=Aj h;have hz:=Bc hb;have key:∀(y y':a.T) (l':List a.T) (f:List Value->List Value),Ag l j=some y->Ee l j y'=some l'-> (∀c2,Ak B w a y c2->Ah p+ns.length<=c2.length/\Ak B w a y' (Ap c2 (Ah p) ns))->
     Ah (.idx j z::p)+ns.length<=cs.length/\Am B w L (.val (.vec m a) l') (Ap cs (Ah (.idx j z::p)) ns):=by
    intro y y' l' f hy hs hyp;obtain⟨hj,hlt,hl⟩:=Dk hy;obtain⟨_,_,rfl⟩:=Ui hs;obtain⟨c1,c2,c3,e,h1,h2,h3⟩:=Az.get (λx c h=>Ak.len h) (show Az (Ak B w a) l cs from hv.2) hl;obtain⟨h4,h5⟩:=hyp c2 h2;have ho:Ah (.idx j z::p)=c1.length+Ah p:=by rw[h1,hz];rfl
    refine⟨by rw[ho,e];simp;omega,?_⟩;rw[ho,e,Tt rfl _ h4];exact⟨by rw[xW];exact hv.1,h3 y' _ h5⟩
   split at h
   ·split at h
    ·rename_i y' hy';obtain⟨l',hs,h⟩:=bind_some h;obtain⟨hj,hlt,_⟩:=Ui hs;have hg:Ag l j=some l[j.toNat]:=by
      unfold Ag;rw[vP A7];simp[hlt]
     obtain⟨h1,h2⟩:=key _ y' l' id hg hs (λc2 hc2=>by
      have e1:=(Qp hy' hn).len;have e2:=hc2.len;refine⟨by simp[Ah];omega,?_⟩;have:Ap c2 0 ns=ns:=by
       unfold Ap;rw[yD,wS,wR A7,vK]
      rw[show Ah []=0 from rfl,this];exact Qp hy' hn)
     exact⟨_,h,h1,h2⟩
    ·cases h
   ·obtain⟨y,hy,h⟩:=bind_some h;obtain⟨hj,hlt,hl⟩:=Dk hy;obtain⟨c1,c2,c3,e,h1,h2,h3⟩:=Az.get (λx c h=>Ak.len h) (show Az (Ak B w a) l cs from hv.2) hl;obtain⟨q,hk,h4,h5⟩:=FP hn h (Tn.2 h2);split at hk
    ·rename_i y' hy';obtain⟨l',hs,hk⟩:=bind_some hk;obtain⟨_,_,rfl⟩:=Ui hs;have ho:Ah (.idx j z::p)=c1.length+Ah p:=by rw[h1,hz];rfl
     refine⟨_,hk,by rw[ho,e];simp;omega,?_⟩;rw[ho,e,Tt rfl _ h4];exact⟨by rw[xW];exact hv.1,h3 y' _ (Qp hy' h5)⟩
    ·cases hk
  ·cases h
def sameKind:Item->Item->Prop| .box T _, .box T' _=>T'=T| .arr E e _, .arr E' e' _=>E'=E/\e'=e|_,_=>False
theorem bP{new:PV}{ns:List Value}(hn:Am B w L new ns){r:R}{p:List Step}{cs:List Value}{k:Item->Option R}(h:MZ new a p k=some r)(hv:CZ B w L a cs):
  ∃a',k a'=some r/\Ah p+ns.length<=cs.length/\CZ B w L a' (Ap cs (Ah p) ns)/\sameKind a a':=by
 unfold MZ at h;split at h
 ·obtain⟨v',hk,h1,h2⟩:=FP hn h hv;exact⟨_,hk,h1,h2,rfl⟩
 ·rename_i E a l j z p;obtain⟨hb,h⟩:=Aj h;have hz:=Bc hb;split at h
  ·split at h
   ·rename_i y' hy';obtain⟨l',hs,h⟩:=bind_some h;obtain⟨hj,hlt,rfl⟩:=Ui hs;have hl:l[j.toNat]? =some l[j.toNat]:=by simp[hlt]
    obtain⟨c1,c2,c3,e,h1,h2,h3⟩:=Az.get (λx c h=>Ak.len h) (show Az (Ak B w a) l cs from hv) hl;have e1:=(Qp hy' hn).len;have e2:=h2.len;have ho:Ah [.idx j z]=c1.length:=by rw[h1,hz];rfl
    refine⟨_,h,by rw[ho,e];simp;omega,?_,rfl,rfl⟩;rw[ho,e,Vm A7];exact h3 y' _ (Qp hy' hn)
   ·cases h
  ·obtain⟨y,hy,h⟩:=bind_some h;obtain⟨hj,hlt,hl⟩:=Dk hy;obtain⟨c1,c2,c3,e,h1,h2,h3⟩:=Az.get (λx c h=>Ak.len h) (show Az (Ak B w a) l cs from hv) hl;obtain⟨q,hk,h4,h5⟩:=FP hn h (Tn.2 h2);split at hk
   ·rename_i y' hy';obtain⟨l',hs,hk⟩:=bind_some hk;obtain⟨_,_,rfl⟩:=Ui hs;have ho:Ah (.idx j z::p)=c1.length+Ah p:=by rw[h1,hz];rfl
    refine⟨_,hk,by rw[ho,e];simp;omega,?_,rfl,rfl⟩;rw[ho,e,Tt rfl _ h4];exact h3 y' _ (Qp hy' h5)
   ·cases hk
 ·cases h
end Go.Rx
namespace Go.Rx
open Go Go.Lv
variable{j:Int}{q:IntKind}{x ix:Operand}{p u:PV}{v:Value}
variable {P:Program} {w w':World} {L L':List MD} {s:S} {σs:List Env} {σ:Env} {Z:Fix} {A A':Reg} {n:Nat} {ops:Array Oper} {rest:List Oper} {K:Env->World->Prop}
variable {R:Type} {k:S->Option R} {r:R} {d:Option Nat} {ty:TypeId} {pos:String} {after:Array Edge}
theorem WL.bS{o:Oper}{w':World}(hg:o.guard=none)(hdn:Dt n o=true)
  (hx:(execOp (ev σ) o).run P w= .ok (.value v) w') (h:WL P n ops rest K (fO σ o.dst v) w'):WL P n ops (o::rest) K σ w:=by
 intro ds a ha;refine yN hg λK' hK'=>?_;unfold Oper.wp;rw[ha.eval,hx];refine hK' _ _ ?_;cases hd:o.dst with
 |none=>rw[hd]at h;exact h _ _ (ha.QA v)
 |some d=>
  rw[hd]at h;unfold Dt at hdn;rw[hd]at hdn;exact h _ _ (ha.put hdn v)
def SO(Z:Fix)(σs:List Env)(k:S->Option R)(r:R)(G:Prop)(A:Reg)(L:List MD)(it:List Item)(w:World)(σ':Env)(w':World):Prop:=
 ∃s' A' L',k s'=some r/\Rel Z s' σs A' L' σ' w'/\ (G->Grow A L it w A' L' s'.it w')
abbrev Ju(P:Program)(n:Nat)(ops:Array Oper)(o:Oper)(Z:Fix)(s:S)(σs:List Env)(k:S->Option R)(r:R)(G:Prop)(A:Reg)(L:List MD)(σ:Env)(w:World):Prop:=
 WL P n ops [o] (SO Z σs k r G A L s.it w) σ w
theorem Bp{o:Op}{val:Value}{G:Prop}(hr:Rel Z s σs A L σ w)(hd:Dt n ⟨d,o,ty,pos,after,none⟩=true)(hx:XO P σ w o val)(hv:p.isV=true)(h:Bw (λb=>A b/\Z.R b) w L p val)
  (hk:k (s.Cl d p)=some r):Ju P n ops ⟨d,o,ty,pos,after,none⟩ Z s σs k r G A L σ w:=by
 refine WL.bS rfl hd (hx _ _ _ _ _) (WL.nil ⟨_,A,L,hk,hr.Cl hv h,λ_=>?_⟩);have:(s.Cl d p).it=s.it:=by cases d<;>rfl
 rw[this];exact .refl
theorem Mw{B:Reg}(h:Wp p=some j)(hv:Bw B w L p v):∃q,v= .int q j:=by
 unfold Wp at h;split at h
 ·rename_i e x;split at h
  ·cases h;exact⟨_,Ni hv⟩
  ·cases h
 ·cases h
theorem Rz(h:Wp p=some j):p.isV=true:=by unfold Wp at h;split at h;rfl;cases h
theorem NR{B:Reg}(h:asInt p=some j)(hv:Bw B w L p v):v=iv j:=by
 unfold asInt at h;split at h
 ·rename_i e x;split at h
  ·rename_i q y;split at h
   ·cases h;exact Ni hv
   ·cases h
  ·cases h
 ·cases h
theorem VO(h:asInt p=some j):p.isV=true:=by unfold asInt at h;split at h;rfl;cases h
theorem Ej{o:Option Operand}{dflt:Int}{B:Reg}(hm:Cj B w L σ s.sl)(h:Sp s.sl o dflt=some j):(∃q,o.map (ev σ)=some (.int q j))\/ (o=none/\j=dflt):=by
 unfold Sp at h;split at h
 ·cases h;exact .inr ⟨rfl,rfl⟩
 ·rename_i x;obtain⟨q,hq⟩:=Mw h (Fw hm x (Rz h));exact .inl ⟨q,by rw[wL,hq]⟩
theorem X.gS{t:TypeId}{l:List UInt8}{y:UInt8}(ht:P.underlying t=some .string)(hx:ev σ x=sv l)(hi:ev σ ix= .int q j)(hg:Ag l j=some y):
  XO P σ w (.index t x ix) (iv y):=λ_ _ _ _ _=>by
 obtain⟨h1,h2,h3⟩:=Dk hg;have h4:=run_index_string (P:=P) w t ⟨l.toArray⟩ q j ht;have h5:0<=j/\j<(⟨l.toArray⟩:ByteArray).size:=by simp[ByteArray.size];omega
 rw[dif_pos h5]at h4;have h6:(⟨l.toArray⟩:ByteArray)[j.toNat]'(by simp[ByteArray.size];omega)=y:=by
  have e1:l[j.toNat]=y:=by rw[uX h2]at h3;simpa using h3
  rw[<-e1];rfl
 simp only[execOp,hx,hi,uP,h4,uK,uT,dC];rw[h6]
theorem kP{t et:TypeId}{m:Nat}{e:ET}{l:List e.T}{y:e.T}{cs:List Value}{B:Reg}(ht:P.underlying t=some (.array m et))(hsz:Dh P et e.size)
  (hag:∃u,P.underlying et=some u/\fP u=(e.pv y).isA) (h1:(e.pv y).isA=false->e.size=1) (hlen:l.length=m)
  (hx:ev σ x= .agg cs.toArray) (hl:Az (Ak B w e) l cs) (hi:ev σ ix= .int q j) (hg:Ag l j=some y):∃val,XO P σ w (.index t x ix) val/\Dg B w L (e.pv y) val:=by
 obtain⟨h3,h4,h5⟩:=Dk hg;obtain⟨c1,c2,c3,he,h6,h7,_⟩:=Az.get (λx c h=>Ak.len h) hl h5;have h8:0<=j/\j<(m:Int):=A7
 obtain⟨u,hu,ha⟩:=hag;have hc2:=h7.len;cases hA:(e.pv y).isA with
 |true=>
  refine⟨.agg c2.toArray,λ_ _ _ _ _=>?_,by unfold Dg;rw[hA];exact⟨c2,rfl,Tn.2 h7⟩⟩;have e1:(cs.drop (j.toNat*e.size)).take e.size=c2:=by rw[he,<-h6,<-hc2];simp
  simp[execOp,hx,hi,Instr.index,asIntOf,uL ht,h8,As hsz,asAgg,part,Ca hu (ha.trans hA),e1]
 |false=>
  rw[h1 hA]at hc2
  match c2,hc2 with
  |[v],_=>
   refine⟨v,λ_ _ _ _ _=>?_,by unfold Dg;rw[hA];exact Tn.2 h7⟩;have e1:cs[j.toNat*e.size]? =some v:=by rw[he,<-h6];simp
   simp[execOp,hx,hi,Instr.index,asIntOf,uL ht,h8,As hsz,asAgg,part,Ca hu (ha.trans hA),e1]
theorem Hh{t et:TypeId}{b o len cap z:Nat}(ht:P.underlying t=some (.slice et))(hsz:Dh P et z)(hx:ev σ x= .slice (some ⟨b,o,none⟩) len cap)(hi:ev σ ix= .int q j)
  (h0:0<=j) (h1:j<len) (w:World):XO P σ w (.indexAddr t x ix) (.pointer (some ⟨b,o+j.toNat*z,none⟩)):=λ_ _ _ _ _=>by
 simp only[execOp,hx,hi,Instr.indexAt,uP,asIntOf,uT,uK,uL ht,h0,h1,and_self,yB,As hsz,Fj]
theorem Ti{t et:TypeId}{b o m z:Nat}(ht:P.underlying t=some (.array m et))(hsz:Dh P et z)(hx:ev σ x= .pointer (some ⟨b,o,none⟩))(hi:ev σ ix= .int q j)
  (h0:0<=j) (h1:j<m) (w:World):XO P σ w (.indexAddr t x ix) (.pointer (some ⟨b,o+j.toNat*z,none⟩)):=λ_ _ _ _ _=>by
 simp only[execOp,hx,hi,Instr.indexAt,Instr.sureAddr,uP,asIntOf,uT,uK,uL ht,h0,h1,and_self,yB,As hsz,Fj]
theorem Cc{t:TypeId}{i:TypeInfo}{z:Nat}(h:P.info? t=some i)(hz:Nat.beq i.size z=true):Dh P t z:=⟨i,h,Bc hz⟩
theorem Rel.base(hr:Rel Z s σs A L σ w){i z:Nat}{E:TypeId}{cs:List Value}(h:L[i]? =some (.own z E v cs))(hne:0<cs.length):∃b len cap,v= .slice (some ⟨b,0,none⟩) len cap/\cs.length=len*z:=by
 obtain⟨b,m,c,hv,_⟩:=St.WS hr (hr.Cx h) hne;obtain⟨p,len,cap,h1,h2,_⟩:=hr.Hl h;subst hv;cases h1;exact⟨b,m,c,rfl,h2⟩
theorem Vz(st:Step):∀(p:List Step),Ah (p++[st])=Ah p+BD st
 |[]=>by simp[Ah]
 |a::p=>by simp[Ah,Vz st p,vH]
theorem aT{t:TypeId}{G:Prop}(hr:Rel Z s σs A L σ w)(hd:Dt n ⟨d, .indexAddr t x ix,ty,pos,after,none⟩=true)(h:IK P s d t x ix k=some r):
  Ju P n ops ⟨d, .indexAddr t x ix,ty,pos,after,none⟩ Z s σs k r G A L σ w:=by
 have hm:=hr.mem;unfold IK at h;split at h
 ·cases h
 ·rename_i j hj;obtain⟨q,hix⟩:=Mw hj (Fw hm.sl ix (Rz hj));split at h
  ·rename_i et ht;split at h
   ·cases h
   ·rename_i inf He;split at h
    ·rename_i e0 l0 hx;split at h
     ·rename_i e l;obtain⟨hb,h⟩:=Aj h;simp only[uJ]at hb;obtain⟨y,hy,h⟩:=bind_some h;obtain⟨hj0,hj1,hj2⟩:=Dk hy;obtain⟨c0,h1,h2⟩:=Kj (Bg hm.sl hx rfl);obtain⟨p,len,cap,h3,h4,h5,h6,h7⟩:=h1;have hlen:=h2.len λx c h=>Ak.len h;have hz:0<e.size:=by have:=uZ hb.2;omega
      have hl:len=l.length:=uQ hz (h4.symm.trans hlen);subst hl;obtain⟨b,off,arr,T,fr,rfl,hB,hbl,hcap,hc⟩:=h7 A7;obtain⟨c1,c2,c3,he,h8,h9,_⟩:=Az.get (λx c h=>Ak.len h) h2 hj2;have h10:c2.length=e.size:=h9.len;have h11:(j.toNat+1)*e.size<=l.length*e.size:=uM _ hj1;rw[wP]at h11;have hp:UT (λb=>A b/\Z.R b) w (.pointer (some ⟨b,off+j.toNat*e.size,none⟩)) c2:=by
       refine⟨b,off+j.toNat*e.size,arr,T,fr,rfl,hB,hbl,λq hq=>?_⟩;rw[vH,hc _ A7,he,uU A7,h8,show j.toNat*e.size+q-j.toNat*e.size=q by omega,uO hq]
      have jZ:Bw (λb=>A b/\Z.R b) w L (.rptr (e.pv y)) (.pointer (some ⟨b,off+j.toNat*e.size,none⟩)):=⟨_,c2,rfl,hp,Tn.2 h9⟩;exact Bp hr hd (Hh ht (Cc He hb.1) h3 hix A7 A7 w) rfl jZ h
     ·cases h
    ·rename_i i hx;split at h
     ·rename_i E e l hi;obtain⟨hb,h⟩:=Aj h;simp only[uJ]at hb;obtain⟨y,hy,h⟩:=bind_some h;obtain⟨hj0,hj1,hj2⟩:=Dk hy;obtain⟨v,cs,h1,h2⟩:=hm.arr hi;obtain⟨z',E',c',h3⟩:=Nj (Bg hm.sl hx rfl);rw[h1]at h3;cases h3;have hlen:=h2.len λx c h=>Ak.len h;have hz:0<e.size:=by have:=uZ hb.2;omega
      have hpos:0<cs.length:=by rw[hlen];exact zE A7 hz
      obtain⟨b,len,cap,h4,h5⟩:=hr.base h1 hpos;have hl:len=l.length:=uQ hz (h5.symm.trans hlen);subst hl;have:=Hh ht (Cc He hb.1) h4 hix A7 A7 w;refine Bp hr hd this rfl ?_ h;rw[show(0:Nat)+j.toNat*e.size=Ah [.idx j e.size] by simp[Ah,BD]];refine Nh h1 ?_;rw[h4];rfl
     ·cases h
    ·rename_i o i p e lo n' hx;obtain⟨hb,h⟩:=Aj h;simp only[uJ]at hb;obtain⟨_,hok,h⟩:=bind_some h;have hj':0<=j/\j<n':=vU (Ie hok);obtain⟨md,v1,h3,h4,k1,k2,⟨pt,cap,k3,k4,k5,k6⟩,_⟩:=Bg hm.sl hx rfl;have h6:ev σ x=v1:=by simpa using h4
     obtain⟨b,e1,rfl⟩:=k6 A7;have:=Hh ht (Cc He hb.1) (h6.trans k3) hix hj'.1 A7 w;refine Bp hr hd this rfl ?_ h;rw[show Ah p+lo.toNat*e.size+j.toNat*e.size=Ah (p++[.idx (lo+j) e.size]) by
      rw[Vz,vH,<-vA]
      show _=Ah p+(lo+j).toNat*e.size;rw[Int.toNat_add k1 hj'.1]]
     exact Nh h3 e1
    ·cases h
  ·rename_i m et ht;split at h
   ·cases h
   ·rename_i inf He;split at h
    ·rename_i i p hx;split at h
     ·rename_i T v hi;split at h
      ·rename_i e0 l0 hg;split at h
       ·rename_i m' e l;obtain⟨hb,h⟩:=Aj h;simp only[uJ]at hb;obtain⟨y,hy,h⟩:=bind_some h;obtain⟨hj0,hj1,hj2⟩:=Dk hy;obtain⟨b,cells,h1,h2⟩:=hm.box hi;obtain⟨c1,c2,c3,he,h3,h4⟩:=Wk hg h2;obtain⟨md,b',h5,h6,h7⟩:=Je (Bg hm.sl hx rfl);rw[h1]at h5;cases h5;cases h6;have hl:l.length=m:=(show l.length=m'/\ _ from h4).1.trans (Bc hb.2);have:=Ti ht (Cc He hb.1.1) h7 hix A7 A7 w;refine Bp hr hd this rfl ?_ h;rw[show Ah p+j.toNat*e.size=Ah (p++[.idx j e.size]) by simp[Qq,Ah,BD]];exact Nh h1 rfl
       ·cases h
      ·cases h
     ·cases h
    ·cases h
  ·cases h
def MD.cells:MD->List Value| .box _ c _=>c| .own _ _ _ c=>c| .dead=>[]
theorem Rel.cells(hr:Rel Z s σs A L σ w){i b:Nat}{md:MD}(h:L[i]? =some md)(hb:md.base=some b):∀j,j<md.cells.length->w.cell? ⟨b,j,none⟩=md.cells[j]? :=by
 intro j hj;cases md with
 |dead=>cases hb
 |box b' cells T=>cases hb;rw[cell_of (St.box hr (hr.Cx h))];simp[MD.cells]
 |own z E v cells=>
  obtain⟨b',m,c,hv,hs'⟩:=St.WS hr (hr.Cx h) (by simp[MD.cells]at hj;omega);subst hv;cases hb;obtain⟨o,rfl,h2⟩:=Bi.mem (A:=A) hs'.mobs (i:=i) (m:= .at_ b z E m c cells) (by rw[vM (by simpa using(List.getElem?_eq_some_iff.1 h).1)]);obtain⟨_,len,cap,e,h3,_,_,_,h6⟩:=h2;obtain⟨arr,fr,_,hb,_,_,hc⟩:=h6 b rfl;rw[cell_of hb];exact hc j (by rw[<-h3];exact hj)
theorem Ym{t:TypeId}{c2:List Value}{b off:Nat}{B:Reg}(h:OkLoad P t u)(hu:Am B w L u c2)
  (hx:ev σ x= .pointer (some ⟨b,off,none⟩)):∃val,Dg B w L u val/\∀w':World,(∀j,j<c2.length->w'.cell? ⟨b,off+j,none⟩=c2[j]?)->XO P σ w' (.load t x) val:=by
 obtain⟨d,hd,ha⟩:=h.agg;have hlen:=hu.len;cases hA:u.isA with
 |true=>
  refine⟨.agg c2.toArray,by unfold Dg;rw[hA];exact⟨c2,rfl,hu⟩,λw' hc _ _ _ _ _=>?_⟩;have h1:=Eu (P:=P) (w:=w') (b:=b) (off:=off) c2 hc;rw[hlen]at h1;simp only[execOp,hx,Instr.loadAt,Instr.sureAddr,uP,uT,uK,loadVar,Ca hd (ha.trans hA),yB,As h.size,h1]
 |false=>
  have h1:=h.one hA;rw[h1]at hlen
  match c2,hlen with
  |[v],_=>
   refine⟨v,by unfold Dg;rw[hA];exact hu,λw' hc _ _ _ _ _=>?_⟩;have h2:w'.cell? ⟨b,off,none⟩=some v:=by simpa using hc 0 A9
   simp only[execOp,hx,Instr.loadAt,Instr.sureAddr,uP,uT,uK,loadVar,Ca hd (ha.trans hA),vF,wQ,Mq h2]
theorem RU{t:TypeId}{c2:List Value}{b off:Nat}{B:Reg}(h:OkLoad P t u)(hu:Am B w L u c2)(hc:∀j,j<c2.length->w.cell? ⟨b,off+j,none⟩=c2[j]?)
  (hx:ev σ x= .pointer (some ⟨b,off,none⟩)):∃val,Dg B w L u val/\XO P σ w (.load t x) val:=by
 obtain⟨val,h1,h2⟩:=Ym (P:=P) (σ:=σ) h hu hx;exact⟨val,h1,h2 w hc⟩
def oL:Item->MD->Prop| .box T _,md=>∃b c,md= .box b c T| .arr E e _,md=>∃v c,md= .own e.size E v c| .dead,_=>False
def Jb(off:Nat)(ns:List Value):MD->MD->Prop
 | .box b c T,md'=>md'= .box b (Ap c off ns) T
 | .own z E v c,md'=>md'= .own z E v (Ap c off ns)
 | .dead,_=>False
theorem MemR.root{B:Reg}(hm:MemR B w L s σs σ){i:Nat}{md:MD}(h:L[i]? =some md)(hd:Bd s.it i≠ .dead):CZ B w L (Bd s.it i) md.cells/\oL (Bd s.it i) md:=by
 obtain⟨md',h1,h2⟩:=hm.item rfl hd;rw[h]at h1;cases h1
 revert h2 hd
 cases Bd s.it i with
 |dead=>intro hd _;exact absurd rfl hd
 |box T v=>
  intro _ h2;cases md with
  |box b c T'=>obtain⟨rfl,h3⟩:=h2;exact⟨h3,b,c,rfl⟩
  |_=>exact h2.elim
 |arr E e l=>
  intro _ h2;cases md with
  |own z E' v c=>obtain⟨rfl,rfl,h3⟩:=h2;exact⟨h3,v,c,rfl⟩
  |_=>exact h2.elim
theorem mJ{t:TypeId}{G:Prop}(hr:Rel Z s σs A L σ w)(hd:Dt n ⟨d, .load t x,ty,pos,after,none⟩=true)(h:bA P s d t x k=some r):
  Ju P n ops ⟨d, .load t x,ty,pos,after,none⟩ Z s σs k r G A L σ w:=by
 have hm:=hr.mem;unfold bA at h;split at h
 ·rename_i i p hx;obtain⟨md,b,h1,h2,h3⟩:=Je (Bg hm.sl hx rfl);have hne:Bd s.it i≠ .dead:=by intro e;rw[e]at h;simp[getRoot]at h
  obtain⟨h4,_⟩:=hm.root h1 hne;obtain⟨u,c1,c2,c3,hk,he,h5,h6⟩:=RT h h4;obtain⟨hb,hk⟩:=Aj hk;have hc:=hr.cells h1 h2;obtain⟨val,h7,h8⟩:=RU (P:=P) (σ:=σ) (x:=x) (b:=b) (off:=Ah p) (Fz hb) h6 (λj hj=>by
   rw[hc _ (by rw[he];simp;omega),he,uU A7,h5,show Ah p+j-Ah p=j by omega,uO hj]) h3
  obtain⟨hv,hv'⟩:=Dp h7;exact Bp hr hd h8 hv hv' hk
 ·cases h
mutual
theorem Am.one{B:Reg}:∀{p:PV} {cs:List Value},Am B w L p cs->L.all (λm=>match m with| .own _ _ v _=>v.oneCell'|_=>true)=true->∀v∈cs,v.oneCell'=true
 | .val e x,cs,h,_,v,hv=>Ak.one (show Ak B w e x cs from h) v hv
 | .agg l,cs,h,hL,v,hv=>Am.BR (show Am.go B w L l cs from h) hL v hv
 | .tup _,_,h,_,_,_=>h.elim
 | .nils,cs,h,_,v,hv=>by rw[show cs=_ from h]at hv;simp at hv;subst hv;rfl
 | .own i,cs,⟨z,E,u,c,h1,h2⟩,hL,v,hv=>by
  rw[h2]at hv;simp at hv;subst hv;exact List.all_eq_true.1 hL _ (vW h1)
 | .ptr i p,cs,⟨_,_,_,_,h⟩,_,v,hv=>by rw[h]at hv;simp at hv;subst hv;rfl
 | .rptr q,cs,⟨pv,_,h,⟨_,_,_,_,_,e,_⟩,_⟩,_,v,hv=>by rw[h]at hv;simp at hv;subst hv;rw[e];rfl
 | .fn f caps,cs,⟨_,h,_⟩,_,v,hv=>by rw[h]at hv;simp at hv;subst hv;rfl
 | .cap _ _ _,cs,⟨_,_,h,_,_,_,_,_,e⟩,_,v,hv=>by rw[h]at hv;simp at hv;subst hv;rw[e];rfl
 | .bfn _ _,cs,⟨_,h,_⟩,_,v,hv=>by rw[h]at hv;simp at hv;subst hv;rfl
 | .mp _ _,cs,⟨_,_,_,h,_⟩,_,v,hv=>by rw[h]at hv;simp at hv;subst hv;rfl
 | .cst u,cs,h,_,v,hv=>by rw[show cs=_ from h.1]at hv;simp at hv;subst hv;exact h.2
 | .any,cs,⟨u,h,h'⟩,_,v,hv=>by rw[h]at hv;simp at hv;subst hv;exact h'
 | .view _ _ _ _ _ _,cs,⟨_,u,_,h,_,_,⟨_,_,e,_⟩,_⟩,_,v,hv=>by rw[h]at hv;simp at hv;subst hv;rw[e];rfl
 | .gd _ _ _,_,h,_,_,_=>h.elim
 | .off,_,h,_,_,_=>h.elim
 | .undef,_,h,_,_,_=>h.elim
theorem Am.BR{B:Reg}:∀{l:List PV} {cs:List Value},Am.go B w L l cs->L.all (λm=>match m with| .own _ _ v _=>v.oneCell'|_=>true)=true->∀v∈cs,v.oneCell'=true
 |[],cs,h,_,v,hv=>by rw[show cs=[]from h]at hv;simp at hv
 |a::q,cs,⟨c1,c2,e,h1,h2⟩,hL,v,hv=>by
  subst e;rcases List.mem_append.1 hv with hv|hv
  ·exact Am.one h1 hL v hv
  ·exact Am.BR h2 hL v hv
end
theorem Rel.BR(hr:Rel Z s σs A L σ w):L.all (λm=>match m with| .own _ _ v _=>v.oneCell'|_=>true)=true:=by
 refine List.all_eq_true.2 λm hm=>?_;obtain⟨i,hi,he⟩:=List.getElem_of_mem hm;cases m with
 |own z E v c=>
  obtain⟨p,len,cap,rfl,_⟩:=hr.Hl (i:=i) (by rw[uX hi,he]);rfl
 |_=>rfl
theorem Qb{B:Reg}(hr:Rel Z s σs A L σ w)(h:Dg B w L p v):∃cs:List Value,v.cells=cs.toArray/\Am B w L p cs:=by
 unfold Dg cP at h;split at h
 ·obtain⟨cs,rfl,h⟩:=h;exact⟨cs,rfl,h⟩
 ·refine⟨[v],?_,h⟩;have:=h.one hr.BR v (.head _);cases v<;>first|rfl|cases this
theorem Xs.own{i z:Nat}{E:TypeId}{cs cs':List Value}(h:L[i]? =some (.own z E v cs)):Xs L (L.set i (.own z E v cs')):=
 Xs.set h (λ_ _ _ _ e=>by cases e;exact⟨_,_,_,rfl⟩) (λb hb=>by
  unfold MD.base at hb⊢;split at hb
  ·rename_i e;cases e
  ·rename_i e;cases e;exact hb
  ·cases hb)
theorem Xs.box{i b:Nat}{T:TypeId}{cs cs':List Value}(h:L[i]? =some (.box b cs T)):Xs L (L.set i (.box b cs' T)):=
 Xs.set h (λ_ _ _ _ e=>by cases e) (λb hb=>hb)
theorem WA{i:Nat}{md:MD}(h:L[i]? =some md):(L.map MD.Cx)[i]? =some md.Cx:=by simp[h]
theorem gA{t:TypeId}{a:Operand}{i b off z:Nat}{md:MD}{ns:List Value}{K:Env->World->Prop}{F:List Fact}(hr:St A w F (L.map MD.Cx))(h:L[i]? =some md)(hb:md.base=some b)
  (hsz:Dh P t z) (ha:ev σ a= .pointer (some ⟨b,off,none⟩)) (hx:ev σ x=v) (hv:v.cells=ns.toArray) (hl:ns.length=z) (h1:ns.all (·.oneCell')=true) (hle:off+z<=md.cells.length) (hz:0<z)
  (hK:∀(w':World) (md':MD),St A w' F ((L.map MD.Cx).set i md'.Cx)->Jb off ns md md'->K σ w'):
  WL P n ops [⟨none, .store t a x,ty,pos,after,none⟩] K σ w:=by
 cases md with
 |dead=>cases hb
 |box b' cells T=>
  cases hb;exact WL.fA hr (WA h) hsz ha hx hv hl h1 (by simpa [Nat.ble_eq,MD.cells]using hle) rfl rfl (λw' hs'=>WL.nil (hK w' (.box b (Ap cells off ns) T) hs' rfl))
 |own z' E u cells=>
  obtain⟨b',m,c,hu,hs'⟩:=St.WS hr (WA h) (by simp[MD.cells]at hle;omega);subst hu;cases hb;have hlen:i<(L.map MD.Cx).length:=by simpa using(List.getElem?_eq_some_iff.1 h).1
  have hL1:((L.map MD.Cx).set i (.at_ b z' E m c cells))[i]? =some (.at_ b z' E m c cells):=by rw[vM hlen]
  refine WL.gM hs' hL1 hsz ha hx hv hl h1 hle rfl rfl (λw' hs2=>WL.nil ?_);have hs3:=hs2.pX (i:=i) (b:=b) (s:=z') (m:=m) (c:=c) (E:=E) (cs:=Ap cells off ns) (by rw[vM (by simpa using hlen)]);rw[yQ,yQ]at hs3;exact hK w' (.own z' E (.slice (some ⟨b,0,none⟩) m c) (Ap cells off ns)) hs3 rfl
end Go.Rx
