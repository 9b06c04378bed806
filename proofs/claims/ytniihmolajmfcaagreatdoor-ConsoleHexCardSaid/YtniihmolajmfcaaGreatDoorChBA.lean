/- A part of a proof (see the text that ends in Proof). No conditions. -/
import Derived.Tactics
import Derived.OrdersHeld
import Derived.Below
import Derived.LoopNIn
import Derived.OrdersIn
import Derived.TacticsIn
import Derived.RangeFuncCalls
import GoSem.Core.View
import Derived.Laws.Entries
import Derived.Laws.Strings
import Derived.Laws.Append
import Derived.Laws.IdiomStrings
import Derived.StillTail
import Derived.WalkKit
import Derived.OpenShut
import Derived.Laws.StructEq
import Derived.ChangeKeysEq
set_option linter.unusedVariables false
set_option linter.unusedSimpArgs false
namespace Go
theorem F3{p:Prop}(h:p:=by omega):p:=h
theorem F7{p:Prop}(h:p:=by simp):p:=h
end Go
set_option linter.defProp false
namespace Go
def B_:=@Bool.and_eq_true
def C!:=@List.length_append
def C':=@Option.bind_some
def C3:=@List.length_cons
def C8:=@Bool.or_eq_false_iff
def C2:=@List.length_nil
def C_:=@List.length_replicate
def C6:=@Bool.not_eq_true'
def C9:=@Bool.false_eq_true
def C5:=@List.length_take
def D5:=@Bool.and_eq_false_imp
def D0:=@Bool.not_eq_false'
def C4:=@Go.run_underlying
def C7:=@Bool.or_eq_true
def D6:=@Bool.true_eq_false
def D':=@List.length_drop
def E7:=@List.getElem?_eq_getElem
def D4:=@not_false_eq_true
def D7:=@not_true_eq_false
def D8:=@List.not_mem_nil
def D1:=@List.length_set
def E4:=@Go.Result.andThen_ok
def C?:=@List.mem_cons
def F?:=@List.getElem?_append_left
def E9:=@Nat.mul_le_mul_right
def D9:=@false_implies
def E6:=@Option.some.injEq
def E_:=@decide_eq_true_eq
def E!:=@true_implies
def D_:=@forall_const
def G3:=@List.getD_eq_getElem?_getD
def BA:=@if_pos
def E5:=@Go.Sem.run_bind
def E3:=@Nat.le_refl
def FH:=@Nat.lt_of_lt_of_le
def G7:=@decide_eq_false_iff_not
def H0:=@List.getElem?_append_right
def H4:=@Nat.eq_of_mul_eq_mul_right
def G6:=@Nat.eq_of_beq_eq_true
def H9:=@Array.getD_eq_getD_getElem?
def C1:=@if_neg
def H!:=@List.mem_cons_of_mem
def E8:=@Go.Sem.run_pure
def D2:=@and_true
def I5:=@List.eq_nil_of_length_eq_zero
def G0:=@decide_eq_true
def D3:=@true_and
def HE:=@Int.eq_ofNat_of_zero_le
def G1:=@Option.some.inj
def H5:=@List.getElem?_set_ne
def E0:=@or_false
def H':=@Int.toNat_natCast
def J1:=@Array.getElem?_setIfInBounds_ne
def G5:=@List.append_nil
def I2:=@List.length_singleton
def I0:=@List.getElem?_set_self
def H6:=@List.mem_cons_self
def H7:=@List.getElem?_take
def HZ:=@Nat.le_of_ble_eq_true
def FE:=@Nat.add_mul
def I!:=@List.mem_of_getElem?
def I8:=@Classical.byContradiction
def E1:=@eq_self
def H?:=@List.append_assoc
def G8:=@Nat.add_assoc
def G9:=@List.map_cons
def HT:=@List.size_toArray
def S1:=@Array.getElem?_setIfInBounds_self_of_lt
def J2:=@Go.World.putObj_heap_other
def I3:=@of_decide_eq_true
def J4:=@List.getElem?_toArray
def J5:=@List.getElem?_eq_none
def H2:=@Nat.zero_add
def K6:=@List.take_of_length_le
def K7:=@Array.getElem?_modify
def I9:=@List.getElem?_map
def H3:=@Int.le_refl
def J6:=@List.getElem?_drop
def G2:=@Go.wpIn_mono
def IP:=@List.cons_append
def I1:=@Prod.mk.injEq
def CB:=@ne_eq
def IZ:=@Option.map_some
def K8:=@BitVec.toNat_ofInt
def S2:=@Int.fdiv_eq_ediv_of_nonneg
def Q4:=@Option.map_eq_some_iff
def Q7:=@List.drop_of_length_le
def I6:=@Bool.true_and
def I4:=@Nat.lt_or_ge
def J7:=@List.nil_append
def N':=@Int.natCast_nonneg
def K9:=@List.take_length
def L!:=@List.getElem_mem
def QW:=@Array.length_toList
def L6:=@List.cons.injEq
def N3:=@Nat.mod_eq_of_lt
def N4:=@List.all_eq_true
def J':=@List.map_set
def QY:=@Int.emod_lt_of_pos
def UK:=@List.drop_eq_getElem_cons
def S5:=@List.getElem?_append
def QZ:=@List.ext_getElem?
def N7:=@Option.map_none
def UR:=@Array.getElem?_replicate
def N9:=@List.map_append
def J9:=@Nat.succ_mul
def kG:=@Nat.and_two_pow_sub_one_eq_mod
def G?:=@Ne.symm
def H8:=@if_false
def S6:=@UInt64.toNat_ofNat'
def kH:=@List.take_append_of_le_length
def O':=@List.take_zero
def US:=@Array.getElem?_eq_none
def SA:=@UInt8.toNat_ofNat'
def SB:=@Array.ext_getElem?
def UT:=@Array.getElem?_toList
def J?:=@Nat.sub_mul
def QJ:=@Int.ediv_nonneg
def QN:=@Nat.min_eq_left
def UC:=@List.perm_append_comm
def QO:=@Int.emod_nonneg
def N0:=@Bool.not_true
def kE:=@Int.tdiv_eq_ediv_of_nonneg
def UH:=@Go.World.alloc_heap_new
def QT:=@Bool.false_and
def QU:=@List.drop_left
def kF:=@Go.World.cell?_setCell_same'
def kK:=@List.getElem_append_right
def SO:=@Int.ediv_le_self
def SQ:=@BitVec.toNat_and
def SS:=@Nat.min_eq_right
def SZ:=@Nat.div_eq_of_lt
def UX:=@Nat.testBit_two_pow
def V7:=@List.flatten_append
def O0:=@List.map_nil
def V8:=@Nat.eq_zero_or_pos
def xR:=@List.take_succ_eq_append_getElem
def kL:=@Go.World.putObj_heap_same
def VB:=@List.flatten_cons
def VC:=@Nat.one_shiftLeft
def L7:=@cond_false
def So:=@Nat.mul_le_mul
def T!:=@List.mem_range
def R!:=@Nat.add_zero
def kM:=@List.take_append_drop
def xT:=@Int.mul_le_mul_of_nonneg_right
def VG:=@Nat.lt_succ_self
def VI:=@Go.run_equalIn_bool
def xU:=@Int.mul_le_mul_of_nonneg_left
def kN:=@Go.Region.noSelect_spec
def kP:=@Nat.pow_le_pow_right
def kQ:=@List.range_eq_range'
def kR:=@Go.World.cell?_of_block
def UU:=@Nat.testBit_and
def xP:=@List.take_length_add_append
def UW:=@List.mem_append
def kI:=@Go.Value.pointer.injEq
def SC:=@Nat.le_trans
def SK:=@Nat.le_of_eq
def SL:=@Int.mul_comm
def kJ:=@List.mem_singleton
def I7:=@if_true
def xQ:=@Array.getElem?_eq_getElem
def VX:=@Nat.testBit_or
def R':=@Array.ext'
def kU:=@Int.emod_eq_of_lt
def xY:=@List.getElem?_set_self'
def T5:=@Nat.mul_one
def xZ:=@Nat.add_sub_cancel_left
def kV:=@List.zipIdx_cons
def kW:=@List.range'_succ
def kX:=@List.drop_append
def kY:=@Go.IntKind.wrap_i64
def Vk:=@Go.wpList_plain
def l!:=@decide_eq_false
def WB:=@Nat.le_total
def l?:=@Bool.eq_iff_iff
def WE:=@List.set_set
def WG:=@Nat.sub_zero
def lg:=@Nat.not_lt_zero
def WM:=@Int.le_trans
def m?:=@Go.growslice_fits
def mR:=@Bool.not_false
def mT:=@List.drop_drop
def mV:=@Int.toNat_zero
def mW:=@Int.mul_nonneg
def WN:=@Int.pow_pos
def WT:=@Nat.zero_le
def mX:=@Go.Addr.mk.injEq
def O4:=@Iff.rfl
def T0:=@Go.wpIn_seq
def L?:=@not_or
end Go
namespace Go.Lv
variable{a:Act}{b want:Bool}{c x y:Code}{f:FuncId}
abbrev Env:=Nat->Value
def Lq(σ:Env)(d:Nat)(v:Value):Env:=λt=>match Nat.beq t d with|true=>v|false=>σ t
def ev(σ:Env):Operand->Value
 | .tmp t=>σ t
 | .const v=>v
 | .global g=> .pointer (some ⟨g,0,none⟩)
 | .func f=> .func (.func f) #[] #[]
structure Fits (ds:List Deferred) (n:Nat) (a:Act) (σ:Env):Prop where
 size:a.tmps.size=n
 defers:a.defers=ds
 get:∀t,a.tmps.getD t undef=σ t
theorem Fits.eval{ds:List Deferred}{n:Nat}{a:Act}{σ:Env}(h:Fits ds n a σ):a.eval=ev σ:=by
 funext x;cases x<;>simp only[Act.eval,ev,h.get]
theorem Vo(σ:Env)(d:Nat)(v:Value):Lq σ d v d=v:=by simp[Lq]
theorem YP(σ:Env){d t:Nat}(v:Value)(h:t≠d):Lq σ d v t=σ t:=by
 unfold Lq;have:Nat.beq t d=false:=by
  cases hb:Nat.beq t d with
  |false=>rfl
  |true=>exact absurd (G6 hb) h
 rw[this]
theorem Fits.put{ds:List Deferred}{n:Nat}{a:Act}{σ:Env}(h:Fits ds n a σ){d:Nat}(hd:Nat.blt d n=true)(v:Value):Fits ds n (a.put (some d) v) (Lq σ d v):=by
 have hd':d<n:=by simpa [Nat.blt_eq]using hd
 refine⟨by simp[Act.put,h.size],h.defers,λt=>?_⟩;by_cases ht:t=d
 ·subst ht;rw[Vo];simp[Act.put,Array.getD,h.size,hd']
 ·rw[YP _ _ ht,<-h.get t];simp[Act.put,H9,J1 (G? ht)]
theorem Fits.Z6{ds:List Deferred}{n:Nat}{σ:Env}(h:Fits ds n a σ)(v:Value):Fits ds n (a.put none v) σ:=h
variable {P:Program} {n:Nat}
def wr(ro:Option Nat):Fence:={Fence.wide with round:=ro}
theorem Asl{ro:Option Nat}{m:Nat}{args:Array Value}{w:World}{R:Ending->World->Prop}(h:Calls P f args w R):CallsIn (wr ro) m P f args w R:=callsIn_wide.2 h
theorem Anm{ro:Option Nat}{m:Nat}{o:Oper}{next:Act->World->Prop}{Q:Exit->Act->World->Prop}{r:Result Next}(h:o.upon P a next Q r):o.uponIn (wr ro) m P a next Q r:=by
 cases r with
 |ok x w'=>
  cases x<;>first
   |exact h
   |exact⟨(λh=>by simp[wr,Fence.wide]at h),Asl h⟩
   |exact⟨(λh=>by simp[wr,Fence.wide]at h),λc cs _=>let⟨v,w',r,s⟩:=h c cs;⟨v,w',r,stepsIn_wide.2 s⟩⟩
   |exact h.elim
 |halt x w'=>cases x<;>first|exact h|exact h.elim
def gO:List Oper->Bool
 |[]=>true
 |o::r=>(match o.op with| .defer _=>false|_=>true)&&gO r
theorem qE{l:List Oper}(h:gO l=true):∀o∈l,∀c,o.op≠ .defer c:=by
 induction l with
 |nil=>intro o ho;cases ho
 |cons o l ih=>
  simp only[gO,B_]at h;intro o' ho' c hc;rcases List.mem_cons.1 ho' with rfl|ho'
  ·rw[hc]at h;cases h.1
  ·exact ih h.2 o' ho' c hc
theorem wF{ro:Option Nat}{m:Nat}{o:Oper}{w:World}{next:Act->World->Prop}{Q:Exit->Act->World->Prop}(hd:∀c,o.op≠ .defer c)(h:o.wp P a w next Q):o.wpIn (wr ro) m P a w next Q:=
 ⟨λ_ _=>trivial,by rw[Oper.semAt_eq _ _ _ hd];exact Anm h⟩
def Nrm(Z:Act->World->Prop):Exit->Act->World->Prop:=λe a w=>e= .normal/\Z a w
theorem v? {Z:Act->World->Prop}(h:LetsOut (Nrm Z)):False:=by
 obtain⟨_,_,h,_⟩:=h;cases h
theorem jC{ro:Option Nat}{m:Nat}{ops:Array Oper}{Z:Act->World->Prop}:∀{l:List Oper} {a:Act} {w:World},(∀o∈l,∀c,o.op≠ .defer c)->wpList P ops (Nrm Z) l a w->wpListIn (wr ro) m P ops (Nrm Z) l a w
 |[],_,_,_,h=>h
 |o::l,a,w,hd,h=>by
  have hn:∀a w,wpList P ops (Nrm Z) l a w->wpListIn (wr ro) m P ops (Nrm Z) l a w:=λa w=>jC (λo ho=>hd o (H! _ ho));simp only[wpList]at h;simp only[wpListIn];split
  ·rename_i hw;rw[BA hw]at h;rcases h with h|⟨_,h⟩
   ·exact Oper.wpIn_mono hn (wF (hd o H6) h)
   ·exact(v? h).elim
  ·rename_i hw;rw[C1 hw]at h;exact⟨λ_ _=>trivial,hn _ _ h⟩
theorem Apm{ro:Option Nat}{m:Nat}{ops:Array Oper}{Z:Act->World->Prop}{i:Nat}{K:Act->World->Prop}{w:World}(hd:∀o∈ops.toList,∀c,o.op≠ .defer c)(h:wpOp P ops (Nrm Z) i K a w):wpOpIn (wr ro) m P ops (Nrm Z) i K a w:=by
 unfold wpOp at h;unfold wpOpIn;split
 ·rename_i ho;rw[ho]at h;exact h
 ·rename_i o ho;rw[ho]at h;simp only at h;split
  ·rename_i hw;rw[BA hw]at h;rcases h with h|⟨_,h⟩
   ·exact wF (hd o (by rw[<-UT]at ho;exact I! ho)) h
   ·exact(v? h).elim
  ·rename_i hw;rw[C1 hw]at h;exact⟨λ_ _=>trivial,h⟩
theorem nW{ro:Option Nat}{m:Nat}{md:Region.Mode}{ops:Array Oper}{Z:Act->World->Prop}(hd:∀o∈ops.toList,∀c,o.op≠ .defer c):∀{fuel:Nat} {listed:Array Bool} {a:Act} {w:World},wpAny P md ops (Nrm Z) fuel listed a w->wpAnyIn (wr ro) m P md ops (Nrm Z) fuel listed a w
 |0,_,_,_,h=>h
 |_+1,_,_,_,h=>⟨h.1,λi hi=>wpOpIn_mono (λ_ _ h=>nW hd h) (Apm hd (h.2 i hi))⟩
def W(P:Program)(n:Nat)(c:Code)(Q:Exit->Env->World->Prop)(σ:Env)(w:World):Prop:=
 ∀(ro:Option Nat) (m:Nat) (ds:List Deferred) (a:Act),Fits ds n a σ->c.wpIn (wr ro) m P (λe a' w'=>∃σ',Fits ds n a' σ'/\Q e σ' w') a w
theorem W.wp{Q:Exit->Env->World->Prop}{σ:Env}{w:World}(h:W P n c Q σ w)(ha:Fits [] n a σ):c.wp P (λe a' w'=>∃σ',Fits [] n a' σ'/\Q e σ' w') a w:=wpIn_wide.1 (h none 0 [] a ha)
def wo(K:Env->World->Prop)(Q:Exit->Env->World->Prop):Exit->Env->World->Prop
 | .normal,σ,w=>K σ w
 |e,σ,w=>Q e σ w
def j!(id:Nat)(Q:Exit->Env->World->Prop):Exit->Env->World->Prop
 | .exit id',σ,w=>if id'=id then Q .normal σ w else Q (.exit id') σ w
 |e,σ,w=>Q e σ w
variable {Q:Exit->Env->World->Prop} {σ:Env} {w:World}
theorem W.mono{Q':Exit->Env->World->Prop}(h:W P n c Q σ w)(hq:∀e σ w,Q e σ w->Q' e σ w):W P n c Q' σ w:=
 λro m ds a ha=>G2 (h ro m ds a ha) λ_ _ _ ⟨σ',hf,hh⟩=>⟨σ',hf,hq _ _ _ hh⟩
theorem W.seq(h:W P n x (wo (W P n y Q) Q) σ w):W P n (.seq x y) Q σ w:=by
 intro ro m ds a ha;refine T0 (G2 (h ro m ds a ha) ?_);rintro e a' w' ⟨σ',hf,hh⟩;cases e<;>first|exact hh ro m ds a' hf|exact⟨σ',hf,hh⟩
theorem W.skip(h:Q .normal σ w):W P n .skip Q σ w:=λ_ _ _ _ ha=>wpIn_skip ⟨σ,ha,h⟩
theorem W.ret(h:Q .ret σ w):W P n .ret Q σ w:=λ_ _ _ _ ha=>wpIn_ret ⟨σ,ha,h⟩
theorem W.exit{id:Nat}(h:Q (.exit id) σ w):W P n (.exit id) Q σ w:=λ_ _ _ _ ha=>wpIn_exit ⟨σ,ha,h⟩
theorem W.block{id:Nat}(h:W P n c (j! id Q) σ w):W P n (.block id c) Q σ w:=by
 intro ro m ds a ha;refine wpIn_block (G2 (h ro m ds a ha) ?_);rintro e a' w' ⟨σ',hf,hh⟩;cases e with
 |exit id'=>
  simp only[j!]at hh;simp only[Exit.inBlock];split
  ·rename_i he;simp only[he,I7]at hh;exact⟨σ',hf,hh⟩
  ·rename_i he;simp only[he,H8]at hh;exact⟨σ',hf,hh⟩
 |_=>exact⟨σ',hf,hh⟩
theorem W.cond{c:Operand}{t:Bool}(hc:ev σ c= .bool t)(ht:t=true->W P n x Q σ w)(hf:t=false->W P n y Q σ w):
  W P n (.cond c x y) Q σ w:=by
 intro ro m ds a ha;exact wpIn_cond_split (by rw[ha.eval];exact hc) (λh=>ht h ro m ds a ha) (λh=>hf h ro m ds a ha)
theorem W.loop(I:Nat->Env->World->Prop)(m:Nat)(h0:I m σ w)
  (round:∀k σ w,I k σ w->W P n c (wo (λσ' w'=>∃j,j<k/\I j σ' w') Q) σ w):W P n (.loop c) Q σ w:=by
 intro ro d ds a ha;have key:∀(q k:Nat) (σ:Env) (w:World) (a:Act),k<q->I k σ w->Fits ds n a σ->Code.roundsIn (wr ro) d P c (λe a' w'=>∃σ',Fits ds n a' σ'/\Q e σ' w') q a w:=by
  intro q
  induction q with
  |zero=>intro k σ w a hk;omega
  |succ q ih=>
   intro k σ w a hk hI ha;rw[roundsIn_succ];refine G2 (round k σ w hI ro d ds a ha) ?_;rintro e a' w' ⟨σ',hf,hh⟩;cases e with
   |normal=>
    obtain⟨j,hj,hI'⟩:=hh;exact ih j σ' w' a' F3 hI' hf
   |_=>exact⟨σ',hf,hh⟩
 exact wpIn_loop_rounds (m+1) (key (m+1) m σ w a (VG _) h0 ha)
theorem Oper.YW{o:Oper}{w:World}{next next':Act->World->Prop}{Z:Act->World->Prop}{R:Exit->Act->World->Prop}
  (h:o.wp P a w next (λe a w=>e=Exit.normal/\Z a w)) (hn:∀a w,next a w->next' a w):o.wp P a w next' R:=by
 unfold Oper.wp at*
 generalize(execOp a.eval o).run P w=r at*
 cases r with
 |ok x w'=>
  cases x<;>simp only[Oper.upon]at h⊢<;>first
   |exact hn _ _ h
   |exact Rows.mono h λ_ _ hh=>hn _ _ hh
   |skip
  refine Calls.mono h ?_;intro e w'' hh;cases e with
  |returned v=>exact hn _ _ hh
  |panicked c=>exact absurd hh.1 F7
  |outgrown=>obtain⟨_,_,hh,_⟩:=hh;exact absurd hh F7
 |halt x w'=>
  cases x<;>simp only[Oper.upon]at h⊢;exact absurd h.1 F7
theorem Aeq{ops:Array Oper}{Z:Act->World->Prop}{R:Exit->Act->World->Prop}{l:List Oper}(h2:∀a w,Z a w->wpList P ops R l a w):
  ∀(l1:List Oper) (a:Act) (w:World),wpList P ops (λe a w=>e=Exit.normal/\Z a w) l1 a w->wpList P ops R (l1++l) a w:=by
 intro l1
 induction l1 with
 |nil=>intro a w h;exact h2 _ _ h.2
 |cons o l1 ih=>
  intro a w h;simp only[wpList,IP]at h⊢;split
  ·rename_i hw;rw[BA hw]at h;rcases h with h|⟨_,_,_,hh,_⟩
   ·exact .inl (Oper.YW h ih)
   ·exact absurd hh F7
  ·rename_i hw;rw[C1 hw]at h;exact ih _ _ h
def WL(P:Program)(n:Nat)(ops:Array Oper)(l:List Oper)(K:Env->World->Prop)(σ:Env)(w:World):Prop:=
 ∀(ds:List Deferred) (a:Act),Fits ds n a σ->wpList P ops (λe a' w'=>e=Exit.normal/\∃σ',Fits ds n a' σ'/\K σ' w') l a w
theorem W.region{id:Nat}{l:List Oper}(hd:gO l=true)(h:WL P n l.toArray l (λσ' w'=>Q .normal σ' w') σ w):W P n (.region id l.toArray false) Q σ w:=by
 intro ro m ds a ha;refine G2 (wpIn_region_lit (jC (Z:=λa' w'=>∃σ',Fits ds n a' σ'/\Q .normal σ' w') (qE hd) (h ds a ha))) ?_;rintro e a' w' ⟨rfl,h⟩;exact h
variable {ops:Array Oper} {rest:List Oper} {K:Env->World->Prop}
theorem WL.nil(h:K σ w):WL P n ops [] K σ w:=λ_ _ ha=>⟨rfl,σ,ha,h⟩
theorem WL.cut(J:Env->World->Prop)(l1:List Oper)(h1:WL P n ops l1 J σ w)(h2:∀σ w,J σ w->WL P n ops rest K σ w):WL P n ops (l1++rest) K σ w:=
 λds a ha=>Aeq (λa' w' ⟨σ',hf,hj⟩=>h2 σ' w' hj ds a' hf) l1 a w (h1 ds a ha)
theorem WL.val{o:Oper}{d:Nat}{v:Value}{w':World}(hg:o.guard=none)(hd:o.dst=some d)(hdn:Nat.blt d n=true)
  (hx:(execOp (ev σ) o).run P w= .ok (.value v) w') (h:WL P n ops rest K (Lq σ d v) w'):WL P n ops (o::rest) K σ w:=by
 intro ds a ha;refine Vk hg λK' hK'=>?_;unfold Oper.wp;rw[ha.eval,hx];exact hK' _ _ (by rw[hd];exact h _ _ (ha.put hdn v))
theorem WL.unit{o:Oper}{w':World}(hg:o.guard=none)(hd:o.dst=none)
  (hx:(execOp (ev σ) o).run P w= .ok .skip w') (h:WL P n ops rest K σ w'):WL P n ops (o::rest) K σ w:=by
 intro ds a ha;refine Vk hg λK' hK'=>?_;unfold Oper.wp;rw[ha.eval,hx];exact hK' _ _ (by rw[hd];exact h _ _ ha)
theorem WL.enter{o:Oper}{d:Nat}{args:Array Value}{w1:World}{R1:Ending->World->Prop}(hg:o.guard=none)(hd:o.dst=some d)(hdn:Nat.blt d n=true)
  (hx:(execOp (ev σ) o).run P w= .ok (.enter f args) w1) (hc:Calls P f args w1 R1)
  (hr:∀e w',R1 e w'->∃r,e= .returned r/\WL P n ops rest K (Lq σ d r) w'):WL P n ops (o::rest) K σ w:=by
 intro ds a ha;refine Vk hg λK' hK'=>?_;unfold Oper.wp;rw[ha.eval,hx];simp only[Oper.upon];refine hc.mono ?_;intro e w' h;obtain⟨r,rfl,hh⟩:=hr e w' h;exact hK' _ _ (by rw[hd];exact hh _ _ (ha.put hdn r))
theorem MB{ds:List Deferred}(ha:Fits ds n a σ){j t:Nat}(hj:(ops[j]?).bind (·.dst)=some t)(hb:σ t= .bool b):yielded ops a.tmps j=some b:=by
 unfold yielded;rw[hj];have h1:=ha.get t;rw[hb]at h1;have h2:a.tmps[t]? =some (.bool b):=by
  cases h:a.tmps[t]? with
  |none=>rw[H9,h]at h1;simp[undef]at h1
  |some v=>rw[H9,h]at h1;simpa using h1
 simp[h2]
theorem WL.off{o:Oper}{d j t:Nat}(hg:o.guard=some (j,want))(hj:(ops[j]?).bind (·.dst)=some t)(hb:σ t= .bool b)(hne:(b==want)=false)
  (hd:o.dst=some d) (hdn:Nat.blt d n=true) (h:WL P n ops rest K (Lq σ d undef) w):WL P n ops (o::rest) K σ w:=by
 intro ds a ha;refine wpList_step λK' hK'=>?_;have hw:Region.wanted o (yielded ops a.tmps)=false:=by
  simp only[Region.wanted,hg,MB ha hj hb];cases b<;>cases want<;>simp_all
 rw[C1 (by rw[hw];simp)];exact hK' _ _ (by rw[hd];exact h _ _ (ha.put hdn _))
theorem WL.on{o:Oper}{j t:Nat}(hg:o.guard=some (j,want))(hj:(ops[j]?).bind (·.dst)=some t)(hb:σ t= .bool b)(hne:(b==want)=true)
  (h:WL P n ops (({o with guard:=none}:Oper)::rest) K σ w):WL P n ops (o::rest) K σ w:=by
 intro ds a ha;have h1:=h ds a ha;have hw:Region.wanted o (yielded ops a.tmps)=true:=by
  simp only[Region.wanted,hg,MB ha hj hb];cases b<;>cases want<;>simp_all
 have hw':Region.wanted ({o with guard:=none}:Oper) (yielded ops a.tmps)=true:=rfl;unfold wpList at h1⊢;rw[BA hw']at h1;rw[BA hw];exact h1
end Go.Lv
namespace Go.Lv
variable{s i:Nat}{w w':World}
abbrev Reg:=Nat->Prop
def Same(A:Reg)(w w':World):Prop:=∀b,A b->w'.heap[b]? =w.heap[b]?
structure Gr (w w':World):Prop where
 le:w.heap.size<=w'.heap.size
 os:w'.os=w.os
 tape:w'.tape=w.tape
 output:w'.output=w.output
theorem Gr.refl(w:World):Gr w w:=⟨E3 _,rfl,rfl,rfl⟩
theorem Gr.trans{a b c:World}(h:Gr a b)(h':Gr b c):Gr a c:=⟨SC h.le h'.le,h'.os.trans h.os,h'.tape.trans h.tape,h'.output.trans h.output⟩
structure Keep (w w':World):Prop where
 same:∀b,b<w.heap.size->w'.heap[b]? =w.heap[b]?
 gr:Gr w w'
theorem Keep.le{w w':World}(h:Keep w w'):w.heap.size<=w'.heap.size:=h.gr.le
theorem Keep.refl(w:World):Keep w w:=⟨λ_ _=>rfl, .refl _⟩
theorem Keep.trans{a b c:World}(h:Keep a b)(h':Keep b c):Keep a c:=
 ⟨λi hi=>(h'.same i (FH hi h.le)).trans (h.same i hi),h.gr.trans h'.gr⟩
theorem lt_of_heap{b:Nat}{o:Obj}(h:w.heap[b]? =some o):b<w.heap.size:=by
 rcases I4 b w.heap.size with h'|h'
 ·exact h'
 ·rw[US h']at h;cases h
def Rd(A:Reg)(w:World)(s:Nat)(v:Value)(cs:List Value):Prop:=
 ∃(p:Option Addr) (len cap:Nat),v= .slice p len cap/\cs.length=len*s/\len<=cap/\ (p=none->cap=0)/\
  (0<cap->∃b off arr T fr,p=some ⟨b,off,none⟩/\A b/\w.heap[b]? =some (.cells arr T fr)/\off+cap*s<=arr.size/\∀i,i<len*s->arr[off+i]? =cs[i]?)
theorem Rd.step{A A':Reg}{v:Value}{cs:List Value}(h:Rd A w s v cs)(ha:∀b,A b->A' b)(hs:Same A w w'):Rd A' w' s v cs:=by
 obtain⟨p,len,cap,h1,h2,h3,h4,h5⟩:=h;refine⟨p,len,cap,h1,h2,h3,h4,λhc=>?_⟩;obtain⟨b,off,arr,T,fr,e1,e2,e3,e4⟩:=h5 hc;exact⟨b,off,arr,T,fr,e1,ha _ e2,(hs b e2).trans e3,e4⟩
theorem Rd.nil{A:Reg}:Rd A w s (.slice none 0 0) []:=⟨none,0,0,rfl,F7,E3 _,λ_=>rfl,λh=>absurd h F7⟩
structure Fact where
 holds:Reg->World->Prop
 step:∀{A A':Reg} {w w':World},holds A w-> (∀b,A b->A' b)->Same A w w'->Gr w w'->holds A' w'
def Fact.rd(R:Reg)(s:Nat)(v:Value)(cs:List Value):Fact where
 holds A w:=Rd (λb=>A b/\R b) w s v cs
 step h ha hs _:=h.step (λb ⟨h1,h2⟩=>⟨ha b h1,h2⟩) (λb ⟨h1,_⟩=>hs b h1)
def Fact.box(R:Reg)(b:Nat)(cells:List Value)(T:TypeId):Fact where
 holds A w:=A b/\R b/\∃fr,w.heap[b]? =some (.cells cells.toArray T fr)
 step h ha hs _:=⟨ha _ h.1,h.2.1,h.2.2.imp λ_ e=>(hs _ h.1).trans e⟩
def Fact.old(M:Reg)(w0:World):Fact where
 holds A w:=Gr w0 w/\∀b,b<w0.heap.size-> ¬M b->A b/\w.heap[b]? =w0.heap[b]?
 step:=λh ha hs hsz=>⟨h.1.trans hsz,λb hb hM=>⟨ha b (h.2 b hb hM).1,(hs b (h.2 b hb hM).1).trans (h.2 b hb hM).2⟩⟩
structure Mob where
 holds:Option Nat->World->Prop
 step:∀{o:Option Nat} {w w':World},holds o w-> (∀b,o=some b->w'.heap[b]? =w.heap[b]?)->holds o w'
def Mob.box(b:Nat)(cells:List Value)(T:TypeId):Mob where
 holds o w:=o=some b/\w.heap[b]? =some (.cells cells.toArray T (0,0))
 step h hs:=⟨h.1,(hs _ h.1).trans h.2⟩
def Mob.own(s:Nat)(E:TypeId)(v:Value)(cs:List Value):Mob where
 holds o w:=∃(p:Option Addr) (len cap:Nat),v= .slice p len cap/\cs.length=len*s/\len<=cap/\ (p=none->cap=0)/\
  (o=none->p=none)/\∀b,o=some b->∃arr fr,p=some ⟨b,0,none⟩/\w.heap[b]? =some (.cells arr E fr)/\arr.size=cap*s/\
   (fr.1=fr.2\/arr.size<=fr.1)/\∀i,i<len*s->arr[i]? =cs[i]?
 step:=by
  rintro o w w' ⟨p,len,cap,h1,h2,h3,h4,h5,h6⟩ hs;refine⟨p,len,cap,h1,h2,h3,h4,h5,λb hb=>?_⟩;obtain⟨arr,fr,e1,e2,e3⟩:=h6 b hb;exact⟨arr,fr,e1,(hs b hb).trans e2,e3⟩
def Cc(w:World):Reg->List Mob->Prop
 |_,[]=>True
 |A,m::L=>∃o,m.holds o w/\ (∀b,o=some b-> ¬A b/\b<w.heap.size)/\Cc w (λb=>A b\/o=some b) L
theorem Cc.Hk{w:World}:∀{L:List Mob} {A A':Reg},Cc w A L-> (∀b,A' b->A b)->Cc w A' L
 |[],_,_,_,_=>trivial
 |m::L,A,A',⟨o,h1,h2,h3⟩,ha=>⟨o,h1,λb hb=>⟨λh=>(h2 b hb).1 (ha b h),(h2 b hb).2⟩,h3.Hk (λb hb=>hb.imp (ha b) id)⟩
theorem Cc.step{w w':World}(hsz:w.heap.size<=w'.heap.size):∀{L:List Mob} {A:Reg},Cc w A L-> (∀b,b<w.heap.size-> ¬A b->w'.heap[b]? =w.heap[b]?)->Cc w' A L
 |[],_,_,_=>trivial
 |m::L,A,⟨o,h1,h2,h3⟩,hs=>⟨o,m.step h1 (λb hb=>hs b (h2 b hb).2 (h2 b hb).1),λb hb=>⟨(h2 b hb).1,FH (h2 b hb).2 hsz⟩,
   h3.step hsz (λb hb hA=>hs b hb (λh=>hA (.inl h)))⟩
theorem Cc.lt{w:World}:∀{L:List Mob} {A:Reg},Cc w A L->Cc w (λb=>A b\/w.heap.size<=b) L
 |[],_,_=>trivial
 |m::L,A,⟨o,h1,h2,h3⟩=>⟨o,h1,λb hb=>⟨λh=>h.elim (h2 b hb).1 (λh=>absurd (h2 b hb).2 (Nat.not_lt.2 h)),(h2 b hb).2⟩,
   h3.lt.Hk (λb hb=>by rcases hb with(h|h)|h<;>simp[h])⟩
theorem Cc.swap{A:Reg}{m1 m2:Mob}{L:List Mob}:Cc w A (m1::m2::L)->Cc w A (m2::m1::L):=by
 rintro⟨o1,h1,h2,o2,h3,h4,h5⟩;refine⟨o2,h3,λb hb=>⟨λh=>(h4 b hb).1 (.inl h),(h4 b hb).2⟩,o1,h1,λb hb=>⟨?_,(h2 b hb).2⟩,h5.Hk ?_⟩
 ·rintro(h|h)
  ·exact(h2 b hb).1 h
  ·exact(h4 b h).1 (.inr hb)
 ·rintro b ((h|h)|h)<;>simp[h]
theorem Cc.perm{L L':List Mob}(hp:L.Perm L'):∀{A:Reg},Cc w A L->Cc w A L':=by
 induction hp with
 |nil=>exact λh=>h
 |cons m _ ih=>exact λ⟨o,h1,h2,h3⟩=>⟨o,h1,h2,ih h3⟩
 |swap m1 m2 L=>exact Cc.swap
 |trans _ _ ih1 ih2=>exact λh=>ih2 (ih1 h)
theorem Cc.drop{w:World}{m:Mob}{L:List Mob}{A:Reg}:Cc w A (m::L)->Cc w A L
 |⟨_,_,_,h3⟩=>h3.Hk (λ_ h=> .inl h)
structure St (A:Reg) (w:World) (F:List Fact) (L:List Mob):Prop where
 lt:∀b,A b->b<w.heap.size
 facts:∀f∈F,f.holds A w
 mobs:Cc w A L
theorem St.fact{A:Reg}{F:List Fact}{L:List Mob}(h:St A w F L)(i:Nat){f:Fact}(hi:F[i]? =some f):f.holds A w:=
 h.facts f (I! hi)
theorem XZ{α:Type}{l:List α}{m:α}(h:l[i]? =some m):(m::l.eraseIdx i).Perm l:=by
 induction l generalizing i with
 |nil=>simp at h
 |cons x l ih=>
  cases i with
  |zero=>simp at h;subst h;exact .refl _
  |succ i=>
   simp at h;exact(List.Perm.swap x m _).trans ((ih h).cons x)
theorem Vf{α:Type}{l:List α}{m m':α}(h:l[i]? =some m):(m'::l.eraseIdx i).Perm (l.set i m'):=by
 induction l generalizing i with
 |nil=>simp at h
 |cons x l ih=>
  cases i with
  |zero=>simp
  |succ i=>
   simp at h;exact(List.Perm.swap x m' _).trans ((ih h).cons x)
theorem St.front{A:Reg}{F:List Fact}{L:List Mob}(h:St A w F L){m:Mob}(hi:L[i]? =some m):St A w F (m::L.eraseIdx i):=
 ⟨h.lt,h.facts,h.mobs.perm (XZ hi).symm⟩
theorem St.back{A:Reg}{F:List Fact}{L:List Mob}{m m':Mob}(hi:L[i]? =some m)(h:St A w F (m'::L.eraseIdx i)):St A w F (L.set i m'):=
 ⟨h.lt,h.facts,h.mobs.perm (Vf hi)⟩
theorem St.Ate{A:Reg}{F:List Fact}{L:List Mob}{m:Mob}(h:St A w F (m::L)):St A w F L:=⟨h.lt,h.facts,h.mobs.drop⟩
theorem St.zS{A:Reg}{F:List Fact}{L:List Mob}{f:Fact}(h:St A w (f::F) L):St A w F L:=⟨h.lt,λg hg=>h.facts g (.tail _ hg),h.mobs⟩
theorem St.sJ{A:Reg}{F:List Fact}{L:List Mob}{f:Fact}(h:St A w F L)(hf:f.holds A w):St A w (f::F) L:=
 ⟨h.lt,λg hg=>by cases hg with|head=>exact hf|tail _ hg=>exact h.facts g hg,h.mobs⟩
theorem St.keep{A:Reg}{F:List Fact}{L:List Mob}(h:St A w F L)(hk:Keep w w'):St A w' F L:=
 ⟨λb hb=>FH (h.lt b hb) hk.le,λf hf=>f.step (h.facts f hf) (λ_ h=>h) (λb hb=>hk.same b (h.lt b hb)) hk.gr,
  h.mobs.step hk.le (λb hb _=>hk.same b hb)⟩
structure Fr (w w':World) (F1:List Fact) (L1:List Mob):Prop where
 keep:Keep w w'
 own:∃A1:Reg,(∀b,A1 b->w.heap.size<=b/\b<w'.heap.size)/\ (∀f∈F1,f.holds A1 w')/\Cc w' (λb=>A1 b\/b<w.heap.size) L1
theorem Fr.nil(h:Keep w w'):Fr w w' [] []:=⟨h,λ_=>False,λ_ h=>h.elim,λ_ h=>(by cases h),trivial⟩
theorem Cc.append{w:World}:∀{L1 L2:List Mob} {A:Reg} (B:Reg),(∀b,B b->b<w.heap.size)->Cc w (λb=>A b\/B b) L1->Cc w (λb=>A b\/ ¬B b) L2->Cc w A (L1++L2)
 |[],L2,A,B,_,_,h2=>h2.Hk (λ_ h=> .inl h)
 |m::L1,L2,A,B,hB,⟨o,h1,h2,h3⟩,h4=>by
  refine⟨o,h1,λb hb=>⟨λh=>(h2 b hb).1 (.inl h),(h2 b hb).2⟩,?_⟩;refine Cc.append B hB (h3.Hk ?_) (h4.Hk ?_)
  ·rintro b ((h|h)|h)<;>simp[h]
  ·rintro b ((h|h)|h)
   ·exact .inl h
   ·exact .inr (λhb=>(h2 b h).1 (.inr hb))
   ·exact .inr h
theorem St.call{A:Reg}{F F1:List Fact}{L L1:List Mob}(h:St A w F L)(hf:Fr w w' F1 L1):∃A',St A' w' (F1++F) (L1++L):=by
 have hk:=h.keep hf.keep;obtain⟨A1,h1,h2,h3⟩:=hf.own;refine⟨λb=>A b\/A1 b,λb hb=>hb.elim (hk.lt b) (λh=>(h1 b h).2),λf hf'=>?_,?_⟩
 ·rcases List.mem_append.1 hf' with hf'|hf'
  ·exact f.step (h2 f hf') (λ_ h=> .inr h) (λ_ _=>rfl) (.refl _)
  ·exact f.step (hk.facts f hf') (λ_ h=> .inl h) (λ_ _=>rfl) (.refl _)
 ·refine Cc.append (λb=>b<w.heap.size) (λb hb=>FH hb hf.keep.le) (h3.Hk ?_) ?_
  ·rintro b ((h'|h')|h')
   ·exact .inr (h.lt b h')
   ·exact .inl h'
   ·exact .inr h'
  ·refine(h.mobs.lt.step hf.keep.le λb hb _=>hf.keep.same b hb).Hk ?_;rintro b ((h'|h')|h')
   ·exact .inl h'
   ·exact .inr (h1 b h').1
   ·exact .inr (by simpa using h')
class GI (T:Type) (k:outParam IntKind)where
 toZ:T->Int
 ofZ:Int->T
 toZ_ofZ:∀n,toZ (ofZ n)=k.wrap n
def wrap64(n:Int):Int:=IntKind.i64.wrap n
theorem A!(n:Int):wrap64 n=if n %18446744073709551616>=9223372036854775808 then n %18446744073709551616-18446744073709551616 else n %18446744073709551616:=by
 unfold wrap64 IntKind.wrap;simp only[IntKind.bits,IntKind.signed,I6];change (if decide (n %18446744073709551616>=9223372036854775808)=true then n %18446744073709551616-18446744073709551616 else n %18446744073709551616)=_;by_cases h:n %18446744073709551616>=9223372036854775808<;>simp[h]
theorem Db{n:Int}(h: -9223372036854775808<=n)(h':n<=9223372036854775807):wrap64 n=n:=by
 rw[A!];split<;>omega
instance:GI Int .i64 where
 toZ x:=x
 ofZ n:=wrap64 n
 toZ_ofZ _:=rfl
instance:GI UInt8 .u8 where
 toZ x:=(x.toNat:Int)
 ofZ n:=UInt8.ofNat (n %256).toNat
 toZ_ofZ n:=by
  simp only[IntKind.wrap,IntKind.bits,IntKind.signed,QT,C9,H8,SA];show((n %256).toNat %256:Nat)=n %256;omega
instance:GI UInt32 .u32 where
 toZ x:=(x.toNat:Int)
 ofZ n:=UInt32.ofNat (n %4294967296).toNat
 toZ_ofZ n:=by
  simp only[IntKind.wrap,IntKind.bits,IntKind.signed,QT,C9,H8,UInt32.toNat_ofNat'];show((n %4294967296).toNat %4294967296:Nat)=n %4294967296;omega
instance:GI UInt64 .u64 where
 toZ x:=(x.toNat:Int)
 ofZ n:=UInt64.ofNat (n %18446744073709551616).toNat
 toZ_ofZ n:=by
  simp only[IntKind.wrap,IntKind.bits,IntKind.signed,QT,C9,H8,S6];show((n %18446744073709551616).toNat %18446744073709551616:Nat)=n %18446744073709551616;omega
instance:GI Int32 .i32 where
 toZ x:=x.toInt
 ofZ n:=Int32.ofInt n
 toZ_ofZ n:=by
  rw[Int32.toInt_ofInt,Int.bmod_def];simp only[IntKind.wrap,IntKind.bits,IntKind.signed,I6];change (if n %4294967296<(4294967296+1)/2 then n %4294967296 else n %4294967296-4294967296)=if decide (n %4294967296>=2147483648)=true then n %4294967296-4294967296 else n %4294967296;by_cases h:n %4294967296>=2147483648
  ·rw[C1 F3,BA (by simpa using h)]
  ·rw[BA F3,C1 (by simpa using h)]
instance:GI Int8 .i8 where
 toZ x:=x.toInt
 ofZ n:=Int8.ofInt n
 toZ_ofZ n:=by
  rw[Int8.toInt_ofInt,Int.bmod_def];simp only[IntKind.wrap,IntKind.bits,IntKind.signed,I6];change (if n %256<(256+1)/2 then n %256 else n %256-256)=if decide (n %256>=128)=true then n %256-256 else n %256;by_cases h:n %256>=128
  ·rw[C1 F3,BA (by simpa using h)]
  ·rw[BA F3,C1 (by simpa using h)]
section
variable {T:Type} {k:IntKind} [GI T k]
open GI
def Af(a b:T):T:=ofZ (toZ a+toZ b)
def Ag(a b:T):T:=ofZ (toZ a-toZ b)
def Ch(a b:T):T:=ofZ (toZ a*toZ b)
def Ep(a b:T):T:=ofZ ((toZ a).tdiv (toZ b))
def V? (a b:T):T:=ofZ ((toZ a).tmod (toZ b))
def Dq(a b:T):T:=ofZ (BitVec.ofInt k.bits (toZ a)&&&BitVec.ofInt k.bits (toZ b)).toNat
def B? (a b:T):T:=ofZ (BitVec.ofInt k.bits (toZ a)|||BitVec.ofInt k.bits (toZ b)).toNat
def oO(a b:T):T:=ofZ (BitVec.ofInt k.bits (toZ a)^^^BitVec.ofInt k.bits (toZ b)).toNat
def RJ(a:T):T:=ofZ (BitVec.ofInt k.bits (if k.signed then -1 else k.max)^^^BitVec.ofInt k.bits (toZ a)).toNat
def LW(a:T):T:=ofZ (0-toZ a)
def Fc(a:T)(n:Nat):T:=ofZ (toZ a*2^(min n k.bits))
def Da(a:T)(n:Nat):T:=ofZ ((toZ a).fdiv (2^(min n k.bits)))
def geq(a b:T):Bool:=toZ a==toZ b
def Bb(a b:T):Bool:=toZ a !=toZ b
def Bw(a b:T):Bool:=decide (toZ a<toZ b)
def TH(a b:T):Bool:=decide (toZ a<=toZ b)
def Dr(a b:T):Bool:=decide (toZ a>toZ b)
def Fu(a b:T):Bool:=decide (toZ a>=toZ b)
def RB:List T->List T->Bool
 |x::a,y::b=>geq x y&&RB a b
 |_,_=>true
def Gk(a b:T):T:=if toZ b<toZ a then b else a
def G4(a b:T):T:=if toZ b>toZ a then b else a
def Am{T':Type}{k':IntKind} [GI T' k'](a:T):T':=ofZ (toZ a)
end
def Jb(a b:Int):Int:=a.tmod b
def I'(a:Int)(n:Nat):Int:=a.fdiv (2^(min n 64))
def Ae{α:Type}(l:List α)(i:Int):Option α:=if 0<=i then l[i.toNat]? else none
def Mh{α:Type}(l:List α)(i:Int)(x:α):Option (List α):=if 0<=i/\i<l.length then some (l.set i.toNat x)else none
def Bi{α:Type}(l:List α)(lo hi:Int):Option (List α):=if 0<=lo/\lo<=hi/\hi<=l.length then some ((l.take hi.toNat).drop lo.toNat)else none
def pN:Nat:=2^34
def Ay{α:Type}(l m:List α):Option (List α):=if l.length+m.length<=pN then some (l++m)else none
def mkI{α:Type}(n:Int)(z:α):Option (List α):=if 0<=n/\n<=pN then some (List.replicate n.toNat z)else none
def Es(b:Bool):Option Unit:=if b=true then some ()else none
def Aa{α:Type}(l:List α):Int:=(l.length:Int)
def Ej{α:Type}(l:List α)(lo n:Int):List α:=(l.drop lo.toNat).take n.toNat
def jI(m a b:Int):Option Unit:=Es (decide (0<=a/\a<=b/\b<=m))
def Cr{α:Type}(l m:List α):List α:=m.take l.length++l.drop m.length
def Om{α:Type}(l:List α)(lo n:Int)(m:List α):List α:=l.take lo.toNat++(m.take n.toNat++l.drop (lo.toNat+(m.take n.toNat).length))
def Cq(n:Int)(m:Nat):Int:=if(m:Int)<n then(m:Int)else n
def As:Nat:=2^65
end Go.Lv
namespace Go.Lv
variable{b want:Bool}{f:FuncId}{op:Op}{v vx vy:Value}
section
variable {T:Type} {k:IntKind} [GI T k]
@[reducible] def iv (x:T):Value:= .int k (GI.toZ x)
@[reducible] def sv (l:List UInt8):Value:= .string ⟨l.toArray⟩
variable {P:Program}
def Iz(P:Program)(b:BinOp)(t:TypeId)(x y v:Value):Prop:=
 ∀(ox oy:Operand) (w:World),(do eqGuard b t ox oy x y;binOp b t x y:Sem Value).run P w= .ok v w
theorem Pp(n:Int):(.int k (k.wrap n):Value)=iv (GI.ofZ n:T):=by rw[iv,GI.toZ_ofZ]
theorem Bin.add{t:TypeId}(a b:T):Iz P .add t (iv a) (iv b) (iv (Af a b)):=λ_ _ w=>by
 simp[eqGuard,binOp,Op.intArith,Af,<-Pp]
theorem Bin.sub{t:TypeId}(a b:T):Iz P .sub t (iv a) (iv b) (iv (Ag a b)):=λ_ _ w=>by
 simp[eqGuard,binOp,Op.intArith,Ag,<-Pp]
theorem Bin.mul{t:TypeId}(a b:T):Iz P .mul t (iv a) (iv b) (iv (Ch a b)):=λ_ _ w=>by
 simp[eqGuard,binOp,Op.intArith,Ch,<-Pp]
theorem Bin.quo{t:TypeId}(a b:T)(h:GI.toZ b≠0):Iz P .quo t (iv a) (iv b) (iv (Ep a b)):=λ_ _ w=>by
 simp[eqGuard,binOp,Op.intDiv,Ep,<-Pp,h]
theorem Bin.and{t:TypeId}(a b:T):Iz P .and t (iv a) (iv b) (iv (Dq a b)):=λ_ _ w=>by
 simp[eqGuard,binOp,Op.intBits,Dq,<-Pp]
theorem Bin.or{t:TypeId}(a b:T):Iz P .or t (iv a) (iv b) (iv (B? a b)):=λ_ _ w=>by
 simp[eqGuard,binOp,Op.intBits,B?,<-Pp]
theorem Bin.xor{t:TypeId}(a b:T):Iz P .xor t (iv a) (iv b) (iv (oO a b)):=λ_ _ w=>by
 simp[eqGuard,binOp,Op.intBits,oO,<-Pp]
theorem Bin.eql{t:TypeId}(a b:T):Iz P .eql t (iv a) (iv b) (.bool (geq a b)):=λ_ _ w=>by
 simp[eqGuard,binOp,Op.intCmp,geq]
theorem Bin.neq{t:TypeId}(a b:T):Iz P .neq t (iv a) (iv b) (.bool (Bb a b)):=λ_ _ w=>by
 simp[eqGuard,binOp,Op.intCmp,Bb]
theorem Bin.lss{t:TypeId}(a b:T):Iz P .lss t (iv a) (iv b) (.bool (Bw a b)):=λ_ _ w=>by
 simp[eqGuard,binOp,Op.intCmp,Bw]
theorem Bin.leq{t:TypeId}(a b:T):Iz P .leq t (iv a) (iv b) (.bool (TH a b)):=λ_ _ w=>by
 simp[eqGuard,binOp,Op.intCmp,TH]
theorem Bin.gtr{t:TypeId}(a b:T):Iz P .gtr t (iv a) (iv b) (.bool (Dr a b)):=λ_ _ w=>by
 simp[eqGuard,binOp,Op.intCmp,Dr]
theorem Bin.geq{t:TypeId}(a b:T):Iz P .geq t (iv a) (iv b) (.bool (Fu a b)):=λ_ _ w=>by
 simp[eqGuard,binOp,Op.intCmp,Fu]
variable {T':Type} {k':IntKind} [GI T' k']
theorem Bin.shl{t:TypeId}(a:T)(b:T')(h:0<=GI.toZ b):Iz P .shl t (iv a) (iv b) (iv (Fc a (GI.toZ b).toNat)):=λ_ _ w=>by
 have:¬GI.toZ b<0:=F3
 simp[eqGuard,binOp,Op.shift,Fc,<-Pp,this]
theorem Bin.shr{t:TypeId}(a:T)(b:T')(h:0<=GI.toZ b)(hr:k.wrap ((GI.toZ a).fdiv (2^(min (GI.toZ b).toNat k.bits)))=(GI.toZ a).fdiv (2^(min (GI.toZ b).toNat k.bits))):
  Iz P .shr t (iv a) (iv b) (iv (Da a (GI.toZ b).toNat)):=λ_ _ w=>by
 have:¬GI.toZ b<0:=F3
 simp[eqGuard,binOp,Op.shift,Da,<-Pp,this,hr]
theorem VI{t:TypeId}(hu:P.underlying t=some .bool)(d:Nat)(a b:Bool)(w:World):(Op.equalIn (d+1) t (.bool a) (.bool b)).run P w= .ok (a==b) w:=by
 simp[Op.equalIn,C4 hu]
theorem Bin.Alh{t:TypeId}(hu:P.underlying t=some .bool)(a b:Bool):Iz P .eql t (.bool a) (.bool b) (.bool (a==b)):=λ_ _ w=>by
 have h:=VI hu 9999 a b w;simp only[eqGuard,binOp,Op.equal,Op.maxDepth];simp[h]
theorem Bin.Ame{t:TypeId}(hu:P.underlying t=some .bool)(a b:Bool):Iz P .neq t (.bool a) (.bool b) (.bool (a !=b)):=λ_ _ w=>by
 have h:=VI hu 9999 a b w;simp only[eqGuard,binOp,Op.equal,Op.maxDepth];simp[h,bne]
theorem iZ(a:List UInt8):(⟨a.toArray⟩:ByteArray).toList=a:=by rw[ByteArray.toList_eq]
theorem Bin.Ap6{t:TypeId}(a b:List UInt8):Iz P .eql t (sv a) (sv b) (.bool (a==b)):=λ_ _ w=>by
 simp[eqGuard,binOp,Op.stringOp,iZ]
theorem Bin.Apb{t:TypeId}(a b:List UInt8):Iz P .neq t (sv a) (sv b) (.bool (a !=b)):=λ_ _ w=>by
 simp[eqGuard,binOp,Op.stringOp,bne,iZ]
theorem Ait(a b:List UInt8):(⟨a.toArray⟩:ByteArray)++⟨b.toArray⟩=⟨(a++b).toArray⟩:=by
 simp[ByteArray.ext_iff]
theorem Bin.Aom{t:TypeId}(a b:List UInt8)(h:(a.length:Int)+b.length<=9223372036854775807):Iz P .add t (sv a) (sv b) (sv (a++b)):=λ_ _ w=>by
 have h1:¬(9223372036854775807<(a.length:Int)+b.length):=F3
 have h2:∀l:List UInt8,(⟨l.toArray⟩:ByteArray).size=l.length:=λl=>by simp[ByteArray.size]
 simp only[eqGuard,binOp,Op.stringOp];simp[h2,h1,Ait]
end
variable {P:Program} {n:Nat} {ops:Array Oper} {rest:List Oper} {K:Env->World->Prop} {σ:Env} {w:World}
variable {d:Nat} {ty:TypeId} {pos:String} {after:Array Edge}
def XO(P:Program)(σ:Env)(w:World)(op:Op)(v:Value):Prop:=
 ∀(d:Option Tmp) (ty:TypeId) (pos:String) (after:Array Edge) (g:Option (Nat×Bool)),(execOp (ev σ) ⟨d,op,ty,pos,after,g⟩).run P w= .ok (.value v) w
theorem WL.x(hd:Nat.blt d n=true)(hx:XO P σ w op v)(h:WL P n ops rest K (Lq σ d v) w):WL P n ops (⟨some d,op,ty,pos,after,none⟩::rest) K σ w:=
 .val rfl rfl hd (hx _ _ _ _ _) h
def gv(b want:Bool)(v:Value):Value:=if b==want then v else undef
theorem Q5(h:(b==want)=true):gv b want v=v:=by unfold gv;rw[BA h]
theorem WL.gx{j t:Nat}(hj:(ops[j]?).bind (·.dst)=some t)(hb:σ t= .bool b)(hd:Nat.blt d n=true)
  (hx:(b==want)=true->XO P σ w op v) (h:WL P n ops rest K (Lq σ d (gv b want v)) w):
  WL P n ops (⟨some d,op,ty,pos,after,some (j,want)⟩::rest) K σ w:=by
 by_cases hbw:(b==want)=true
 ·refine WL.on rfl hj hb hbw (WL.val rfl rfl hd (hx hbw _ _ _ _ _) ?_);rw[Q5 hbw]at h;exact h
 ·have hbw':(b==want)=false:=by simpa using hbw
  refine WL.off rfl hj hb hbw' rfl hd ?_;have:gv b want v=undef:=by unfold gv;rw[hbw'];simp
  rw[this]at h;exact h
section
variable {x y c:Operand}
theorem X.move(hx:ev σ x=v):XO P σ w (.move x) v:=λ_ _ _ _ _=>by simp[execOp,hx]
theorem X.assign(hx:ev σ x=v):XO P σ w (.assign x) v:=λ_ _ _ _ _=>by simp[execOp,hx]
theorem X.bin{b:BinOp}{t t':TypeId}(hx:ev σ x=vx)(hy:ev σ y=vy)(hr:Iz P b t vx vy v):XO P σ w (.binOp b t x y t') v:=λ_ _ _ _ _=>by
 have:=hr x y w;simp only[execOp,hx,hy,E5,this,E4];simp
theorem X.not{t:TypeId}(hx:ev σ x= .bool b):XO P σ w (.unOp .not t x) (.bool (!b)):=λ_ _ _ _ _=>by simp[execOp,hx,Op.unary]
theorem X.neg{T:Type}{k:IntKind} [GI T k]{t:TypeId}{a:T}(hx:ev σ x=iv a):XO P σ w (.unOp .neg t x) (iv (LW a)):=λ_ _ _ _ _=>by
 simp[execOp,hx,Op.unary,Op.intArith,LW,<-Pp]
theorem X.At9{T:Type}{k:IntKind} [GI T k]{t:TypeId}{a:T}(hx:ev σ x=iv a):XO P σ w (.unOp .xor t x) (iv (RJ a)):=λ_ _ _ _ _=>by
 simp[execOp,hx,Op.unary,Op.intBits,RJ,<-Pp]
theorem X.pick(hc:ev σ c= .bool b)(hx:ev σ x=vx)(hy:ev σ y=vy)(hv:(if b then vx else vy)=v):XO P σ w (.pick c x y) v:=λ_ _ _ _ _=>by
 simp[execOp,hc,hx,hy,asBool];cases b<;>simp at hv<;>simp[hv]
theorem X.extract{i:Nat}{vs:List Value}{v:Value}(hx:ev σ x= .tuple vs.toArray)(hi:vs[i]? =some v):XO P σ w (.extract x i) v:=λ_ _ _ _ _=>by
 simp[execOp,hx,Instr.extract,hi]
theorem X.conv{T T':Type}{k k':IntKind} [GI T k] [GI T' k']{s t:TypeId}{a:T}{u:TypeDesc}(hs:P.underlying s=some u)(ht:P.underlying t=some (.int k'))
  (hx:ev σ x=iv a):XO P σ w (.convert s t x) (iv (Am a:T')):=λ_ _ _ _ _=>by
 simp[execOp,hx,convert,C4 hs,C4 ht,Conv.intToInt,Am,<-Pp]
theorem X.wH{t e:TypeId}{p:Option Addr}{len cap:Nat}(ht:P.underlying t=some (.slice e))(hx:ev σ x= .slice p len cap):
  XO P σ w (.call ⟨.builtin .len, #[x], #[t]⟩) (iv (len:Int)):=λ_ _ _ _ _=>by
 simp[execOp,resolve,invoke,builtin,Builtin.len_,hx,C4 ht,goInt,iv,GI.toZ]
theorem X.Apr{t:TypeId}{l:List UInt8}(ht:P.underlying t=some .string)(hx:ev σ x=sv l):XO P σ w (.call ⟨.builtin .len, #[x], #[t]⟩) (iv (Aa l)):=λ_ _ _ _ _=>by
 have h2:(⟨l.toArray⟩:ByteArray).size=l.length:=by simp[ByteArray.size]
 simp[execOp,resolve,invoke,builtin,Builtin.len_,hx,C4 ht,goInt,iv,GI.toZ,Aa,h2]
theorem X.Aox{t e:TypeId}{m:Nat}(ht:P.underlying t=some (.array m e))(hx:ev σ x=v):XO P σ w (.call ⟨.builtin .len, #[x], #[t]⟩) (iv (m:Int)):=λ_ _ _ _ _=>by
 simp[execOp,resolve,invoke,builtin,Builtin.len_,hx,C4 ht,goInt,iv,GI.toZ]
theorem X.min{T:Type}{k:IntKind} [GI T k]{ts:Array TypeId}{a b:T}(hx:ev σ x=iv a)(hy:ev σ y=iv b):XO P σ w (.call ⟨.builtin .min, #[x,y],ts⟩) (iv (Gk a b)):=λ_ _ _ _ _=>by
 simp[execOp,resolve,invoke,builtin,Builtin.min_,Builtin.min2,hx,hy,Gk];split<;>rfl
theorem X.max{T:Type}{k:IntKind} [GI T k]{ts:Array TypeId}{a b:T}(hx:ev σ x=iv a)(hy:ev σ y=iv b):XO P σ w (.call ⟨.builtin .max, #[x,y],ts⟩) (iv (G4 a b)):=λ_ _ _ _ _=>by
 simp[execOp,resolve,invoke,builtin,Builtin.max_,Builtin.max2,hx,hy,G4];split<;>rfl
theorem X.makeFunc{f:FuncId}{cap:List Operand}{vs:List Value}(hc:cap.map (ev σ)=vs):XO P σ w (.makeFunc (.func f) #[] cap.toArray) (.func (.func f) #[] vs.toArray):=λ_ _ _ _ _=>by
 simp[execOp,Instr.makeFunc,hc]
theorem X.nilCheck{a:Addr}(hx:ev σ x= .pointer (some a)):XO P σ w (.nilCheck x) (.pointer (some a)):=λ_ _ _ _ _=>by simp[execOp,hx]
end
def Ent(P:Program)(f:FuncId):Prop:=∀(args:Array Value) (w:World),(callFunc f args).run P w= .ok (.enter f args) w
theorem Ent.mk{fn:Func}{c:Code}(hf:P.funcs[f]? =some fn)(hn:(fn.name== "runtime.NumGoroutine")=false)(hb:fn.body=some c):Ent P f:=fun args w=>by
 have hn':¬fn.name= "runtime.NumGoroutine":=by simpa using hn
 unfold callFunc
 show Sem.run P (Sem.bind (Sem.program Sem.pure) _) w=_;simp only[Sem.bind,Sem.run,hf];simp[hn',hb]
def XE(P:Program)(σ:Env)(w:World)(op:Op)(f:FuncId)(vs:Array Value):Prop:=
 ∀(d:Option Tmp) (ty:TypeId) (pos:String) (after:Array Edge) (g:Option (Nat×Bool)),(execOp (ev σ) ⟨d,op,ty,pos,after,g⟩).run P w= .ok (.enter f vs) w
theorem X.call{args:List Operand}{ts:Array TypeId}{vs:List Value}(he:Ent P f)(ha:args.map (ev σ)=vs):XE P σ w (.call ⟨.value (.func f),args.toArray,ts⟩) f vs.toArray:=λ_ _ _ _ _=>by
 have:=he vs.toArray w;simp[execOp,resolve,ev,Deferred.ofValue,invoke,ha,this]
theorem X.At3{g:Operand}{args:List Operand}{ts:Array TypeId}{vs cs:List Value}(he:Ent P f)(hg:ev σ g= .func (.func f) #[] cs.toArray) (ha:args.map (ev σ)=vs):
  XE P σ w (.call ⟨.value g,args.toArray,ts⟩) f (vs++cs).toArray:=λ_ _ _ _ _=>by
 have:=he (vs++cs).toArray w;simp[execOp,resolve,hg,Deferred.ofValue,invoke,ha,this]
theorem WL.e{vs:Array Value}{R1:Ending->World->Prop}(hd:Nat.blt d n=true)(hx:XE P σ w op f vs)(hc:Calls P f vs w R1)
  (hr:∀e w',R1 e w'->∃r,e= .returned r/\WL P n ops rest K (Lq σ d r) w'):WL P n ops (⟨some d,op,ty,pos,after,none⟩::rest) K σ w:=
 .enter rfl rfl hd (hx _ _ _ _ _) hc hr
end Go.Lv
namespace Go
theorem F5{p:Prop}(h:p:=by simp;omega):p:=h
end Go
namespace Go.Lv
variable{x:Operand}{v:Value}
variable {P:Program} {n:Nat} {ops:Array Oper} {rest:List Oper} {K:Env->World->Prop} {σ:Env} {w:World}
variable {d:Nat} {ty:TypeId} {pos:String} {after:Array Edge} {A:Reg} {F:List Fact} {L:List Mob}
def PT:TypeDesc->Bool
 | .struct _| .array _ _=>true
 |_=>false
def Plain(P:Program)(t:TypeId):Prop:=∃u,P.underlying t=some u/\PT u=false
def gM(P:Program)(t:TypeId):Prop:=∃u,P.underlying t=some u/\PT u=true
def Ho(P:Program)(t:TypeId)(s:Nat):Prop:=∃i,P.info? t=some i/\i.size=s
theorem El{t:TypeId}{u:TypeDesc}{b:Bool}(h:P.underlying t=some u)(hb:PT u=b)(w:World):(isAgg t).run P w= .ok b w:=by
 unfold isAgg;rw[E5,C4 h,E4];subst hb;cases u<;>rfl
theorem Bo{t:TypeId}{s:Nat}(h:Ho P t s)(w:World):(sizeOf t).run P w= .ok s w:=by
 obtain⟨i,hi,rfl⟩:=h;simp[sizeOf,typeInfo,hi]
theorem cell_of{b off:Nat}{arr:Array Value}{T:TypeId}{fr:Nat×Nat}(h:w.heap[b]? =some (.cells arr T fr)):w.cell? ⟨b,off,none⟩=arr[off]? :=by
 simp[World.cell?,h]
theorem EE{b off:Nat}(h:w.cell? ⟨b,off,none⟩=some v):(load ⟨b,off,none⟩).run P w= .ok v w:=by
 simp[load,Sem.run,h]
theorem Lg(b off k:Nat):(⟨b,off,none⟩:Addr).add k=⟨b,off+k,none⟩:=by
 unfold Addr.add;split<;>simp_all
theorem Kl{b off:Nat}(cs:List Value)(h:∀i,i<cs.length->w.cell? ⟨b,off+i,none⟩=cs[i]?):(loadCells ⟨b,off,none⟩ cs.length).run P w= .ok cs.toArray w:=
 run_loadCells_list (P:=P) (w:=w) ⟨b,off,none⟩ cs (λj v hj=>by
  have hlt:j<cs.length:=(List.getElem?_eq_some_iff.1 hj).1;rw[Lg,h j hlt,hj])
theorem Cc.mem{A:Reg}:∀{L:List Mob} {A:Reg} {m:Mob} {i:Nat},Cc w A L->L[i]? =some m->∃o,m.holds o w
 |[],_,_,_,_,h=>by simp at h
 |_::_,_,_,0,⟨o,h1,_,_⟩,h=>⟨o,by simp at h;exact h▸h1⟩
 |_::_,_,_,_+1,⟨_,_,_,h3⟩,h=>Cc.mem (A:=A) h3 (by simpa using h)
theorem St.box(hs:St A w F L){i b:Nat}{cells:List Value}{T:TypeId}(hL:L[i]? =some (.box b cells T)):w.heap[b]? =some (.cells cells.toArray T (0,0)):=by
 obtain⟨o,h1,h2⟩:=Cc.mem (A:=A) hs.mobs hL;exact h2
def Dn(w:World)(b:Nat)(o:Obj):World:={w with heap:=w.heap.setIfInBounds b o}
theorem St.XD(hs:St A w F L){i b:Nat}{cells cells':List Value}{T:TypeId}(hL:L[i]? =some (.box b cells T)):
  St A (Dn w b (.cells cells'.toArray T (0,0))) F (L.set i (.box b cells' T)):=by
 have hb:=lt_of_heap (hs.box hL);have h1:=hs.front hL;refine St.back hL ?_;obtain⟨o,⟨rfl,_⟩,h3,h4⟩:=h1.mobs;have hsz:(Dn w b (.cells cells'.toArray T (0,0))).heap.size=w.heap.size:=by simp[Dn]
 have hne:∀c,c≠b-> (Dn w b (.cells cells'.toArray T (0,0))).heap[c]? =w.heap[c]? :=λc hc=>by
  simp[Dn,J1 (G? hc)]
 have hnA:=(h3 b rfl).1;refine⟨λc hc=>by rw[hsz];exact hs.lt c hc,λf hf=>f.step (hs.facts f hf) (λ_ h=>h) (λc hc=>hne c (λe=>hnA (e▸hc))) ⟨by rw[hsz];exact E3 _,rfl,rfl,rfl⟩,some b,⟨rfl,?_⟩,λc hc=>⟨(h3 c hc).1,by rw[hsz];exact(h3 c hc).2⟩,?_⟩
 ·simp[Dn,hb]
 ·refine h4.step (by rw[hsz];exact E3 _) (λc _ hc=>hne c (λe=>hc (.inr (by rw[e]))))
def Hv(w:World)(o:Obj):World:={w with heap:=w.heap.push o}
theorem dV(w:World)(o:Obj):(Hv w o).heap.size=w.heap.size+1:=by simp only[Hv,Array.size_push]
theorem Ae5{w:World}{o:Obj}{b:Nat}(hb:b<w.heap.size):(Hv w o).heap[b]? =w.heap[b]? :=by
 simp only[Hv];rw[Array.getElem?_push_lt hb,xQ hb]
theorem Rp(w:World)(o:Obj):(Hv w o).heap[w.heap.size]? =some o:=by
 simp only[Hv,Array.getElem?_push_size]
theorem zG(w:World)(o:Obj):Keep w (Hv w o):=⟨λb hb=>Ae5 hb,by rw[dV];omega,rfl,rfl,rfl⟩
theorem St.xM(hs:St A w F L)(o:Obj)(m:Mob)(hm:m.holds (some w.heap.size) (Hv w o)):St A (Hv w o) F (m::L):=by
 have hk:=zG w o;have h1:=hs.keep hk;refine⟨h1.lt,h1.facts,some w.heap.size,hm,λb hb=>⟨λh=>?_,?_⟩,?_⟩
 ·cases hb;exact Nat.lt_irrefl _ (hs.lt _ h)
 ·cases hb;rw[dV];omega
 ·refine(hs.mobs.lt.step hk.le λb hb _=>hk.same b hb).Hk ?_;rintro b (h|h)
  ·exact .inl h
  ·cases h;exact .inr (E3 _)
theorem St.tW(hs:St A w F L)(cells:List Value)(T:TypeId):St A (Hv w (.cells cells.toArray T)) F (.box w.heap.size cells T::L):=
 hs.xM _ _ ⟨rfl,Rp _ _⟩
theorem X.Akj{t T:TypeId}{i b off:Nat}{cells:List Value}(hs:St A w F L)(hL:L[i]? =some (.box b cells T))(ht:Plain P t)
  (hx:ev σ x= .pointer (some ⟨b,off,none⟩)) (hv:cells[off]? =some v):XO P σ w (.load t x) v:=λ_ _ _ _ _=>by
 obtain⟨u,hu,hp⟩:=ht;have hc:w.cell? ⟨b,off,none⟩=some v:=by rw[cell_of (hs.box hL)];simpa using hv
 simp only[execOp,hx,Instr.loadAt,Instr.sureAddr,E5,E8,E4,loadVar,El hu hp,C9,H8,EE hc]
theorem X.Aij{t T:TypeId}{i b off s:Nat}{cells vs:List Value}(hs:St A w F L)(hL:L[i]? =some (.box b cells T))(ht:gM P t)(hsz:Ho P t s)
  (hx:ev σ x= .pointer (some ⟨b,off,none⟩)) (hv:(cells.drop off).take s=vs) (hl:vs.length=s):XO P σ w (.load t x) (.agg vs.toArray):=λ_ _ _ _ _=>by
 obtain⟨u,hu,hp⟩:=ht;have hc:=Kl (P:=P) (w:=w) (b:=b) (off:=off) vs (λj hj=>by
  rw[cell_of (hs.box hL)];subst hv;rw[C5]at hj;simp[H7,J6];omega)
 rw[hl]at hc;simp only[execOp,hx,Instr.loadAt,Instr.sureAddr,E5,E8,E4,loadVar,El hu hp,I7,Bo hsz,hc]
def Bd(cells:List Value)(off:Nat)(vs:List Value):List Value:=cells.take off++(vs++cells.drop (off+vs.length))
theorem Fa{cells:List Value}{off:Nat}{vs:List Value}(h:off+vs.length<=cells.length):(Bd cells off vs).length=cells.length:=by
 simp[Bd];omega
theorem zR{cells:List Value}{off:Nat}{vs:List Value}(h:off+(v::vs).length<=cells.length):
  Bd (cells.set off v) (off+1) vs=Bd cells off (v::vs):=by
 simp at h;have e1:(cells.set off v).take (off+1)=cells.take off++[v]:=by
  rw[xR F5];have e0:(cells.set off v).take off=cells.take off:=by
   apply QZ;intro i;rw[H7,H7];by_cases hi:i<off
   ·rw[BA hi,BA hi,H5 F3]
   ·rw[C1 hi,C1 hi]
  rw[e0];simp
 have e2:(cells.set off v).drop (off+1+vs.length)=cells.drop (off+(v::vs).length):=by
  rw[List.drop_set_of_lt F3];simp[Nat.add_comm,Nat.add_left_comm]
 simp only[Bd,e1,e2,H?,IP,J7]
theorem Gg(b:Nat)(T:TypeId)(fr:Nat×Nat):∀(vs:List Value) (off:Nat) (i:Nat) (cells:List Value) (w:World),w.heap[b]? =some (.cells cells.toArray T fr)->
  off+i+vs.length<=cells.length-> (fr.2<=off+i\/cells.length<=fr.1\/fr.2<=fr.1)-> (∀v∈vs,v.oneCell'=true)->
  (storeCells ⟨b,off,none⟩ vs i).run P w= .ok () (Dn w b (.cells (Bd cells (off+i) vs).toArray T fr))
 |[],off,i,cells,w,h,hl,hf,h1=>by
  have hb:=lt_of_heap h;have:Dn w b (.cells (Bd cells (off+i) []).toArray T fr)=w:=by
   have e:Bd cells (off+i) []=cells:=by simp[Bd]
   rw[e];cases w with
   |mk heap tape drawn os output=>
    simp only[Dn,World.mk.injEq,D2,D3];apply SB;intro j;by_cases hj:j=b
    ·subst hj;simp at hb h⊢;rw[S1 hb];exact h.symm
    ·simp[J1 (G? hj)]
  rw[this];rfl
 |v::vs,off,i,cells,w,h,hl,hf,h1=>by
  have hb:=lt_of_heap h;have hlt:off+i<cells.length:=by simp at hl;omega
  unfold storeCells;rw[E5,run_store P w _ v _ (h1 v (.head _)),Lg];have hc:w.cell? ⟨b,off+i,none⟩=some cells[off+i]:=by rw[cell_of h];simp[hlt]
  have hfz:w.frozen? ⟨b,off+i,none⟩=false:=by
   simp only[World.frozen?,h];simp;omega
  rw[hc];simp only[hfz,C9,H8,E4];have hw:w.setCell ⟨b,off+i,none⟩ v=Dn w b (.cells (cells.set (off+i) v).toArray T fr):=by
   simp only[World.setCell,Dn,World.mk.injEq,D2,D3];apply SB;intro j;rw[K7];by_cases hj:j=b
   ·subst hj;simp only[I7,h];rw[S1 hb];simp
   ·rw[C1 (G? hj),J1 (G? hj)]
  rw[hw];have hr:=Gg b T fr vs off (i+1) (cells.set (off+i) v) (Dn w b (.cells (cells.set (off+i) v).toArray T fr)) (by simp[Dn,hb])
   (by simp at hl⊢;omega) F5 (λu hu=>h1 u (.tail _ hu))
  rw[hr];have hsp:Bd (cells.set (off+i) v) (off+(i+1)) vs=Bd cells (off+i) (v::vs):=by
   rw[<-G8];exact zR (by simpa using hl)
  rw[hsp];congr 1;simp[Dn]
theorem WL.Ahm{a:Operand}{t T:TypeId}{i b off s:Nat}{cells cells' vs:List Value}{L':List Mob}(hs:St A w F L)(hL:L[i]? =some (.box b cells T))(hsz:Ho P t s)
  (ha:ev σ a= .pointer (some ⟨b,off,none⟩)) (hx:ev σ x=v) (hv:v.cells=vs.toArray) (hl:vs.length=s) (h1:vs.all (·.oneCell')=true) (hle:Nat.ble (off+s) cells.length=true)
  (hc:Bd cells off vs=cells') (hL':L.set i (.box b cells' T)=L') (h:∀w',St A w' F L'->WL P n ops rest K σ w'):
  WL P n ops (⟨none, .store t a x,ty,pos,after,none⟩::rest) K σ w:=by
 have hle':off+s<=cells.length:=by simpa using hle
 have hr:=Gg (P:=P) b T (0,0) vs off 0 cells w (hs.box hL) F3 (.inr (.inr (E3 _))) (λv hv=>by simpa using List.all_eq_true.1 h1 v hv);simp only[R!,hc]at hr;refine .unit rfl rfl (w':=Dn w b (.cells cells'.toArray T (0,0))) ?_ (h _ (hL'▸hs.XD hL));simp[execOp,ha,hx,Instr.storeAt,Instr.sureAddr,storeVar,Bo hsz,hv,hl,hr]
theorem N8(e:TypeId)(v:Value)(cells:List Value)(hv:v.cells=cells.toArray):(newVar e v).run P w= .ok ⟨w.heap.size,0,none⟩ (Hv w (.cells cells.toArray e)):=by
 unfold newVar;rw[hv];rfl
theorem WL.box{x:Operand}{e:TypeId}{v:Value}{cells:List Value}(hs:St A w F L)(hd:Nat.blt d n=true)(hx:ev σ x=v)(hv:v.cells=cells.toArray)
  (h:∀b w',St A w' F (.box b cells e::L)->WL P n ops rest K (Lq σ d (.pointer (some ⟨b,0,none⟩))) w'):
  WL P n ops (⟨some d, .box e x,ty,pos,after,none⟩::rest) K σ w:=by
 refine .val rfl rfl hd (w':=Hv w (.cells cells.toArray e)) (v:= .pointer (some ⟨w.heap.size,0,none⟩)) ?_ (h _ _ (hs.tW cells e));simp only[execOp,hx,Instr.box,E5,N8 e v cells hv,E4,E8]
theorem WL.alloc{e:TypeId}{z:Value}{cells:List Value}(hs:St A w F L)(hd:Nat.blt d n=true)(hz:∃i,P.info? e=some i/\i.zero=some z)(hv:z.cells=cells.toArray)
  (h:∀b w',St A w' F (.box b cells e::L)->WL P n ops rest K (Lq σ d (.pointer (some ⟨b,0,none⟩))) w'):
  WL P n ops (⟨some d, .alloc e,ty,pos,after,none⟩::rest) K σ w:=by
 obtain⟨i,hi,hz⟩:=hz;have hz':(zeroValue e).run P w= .ok z w:=by simp[zeroValue,typeInfo,hi,hz]
 refine .val rfl rfl hd (w':=Hv w (.cells cells.toArray e)) (v:= .pointer (some ⟨w.heap.size,0,none⟩)) ?_ (h _ _ (hs.tW cells e));simp only[execOp,Instr.alloc,E5,hz',N8 e z cells hv,E4,E8]
end Go.Lv
namespace Go.Lv
variable{p:Option Addr}{vlo:Option Value}{v:Value}
variable {P:Program} {n:Nat} {ops:Array Oper} {rest:List Oper} {K:Env->World->Prop} {σ:Env} {w:World}
variable {d:Nat} {ty:TypeId} {pos:String} {after:Array Edge} {A:Reg} {F:List Fact} {L:List Mob}
def jM(P:Program)(t:TypeId)(f k:Nat):Prop:=∃fs fd i,P.underlying t=some (.struct fs)/\fs[f]? =some fd/\fd.offset=k/\P.info? fd.type=some i/\i.size≠0
theorem yc{t:TypeId}{f k b off:Nat}(h:jM P t f k):(Instr.fieldAt t (.pointer (some ⟨b,off,none⟩)) f).run P w= .ok (.pointer (some ⟨b,off+k,none⟩)) w:=by
 obtain⟨fs,fd,i,h1,h2,h3,h4,h5⟩:=h;have h6:=Bo (P:=P) ⟨i,h4,rfl⟩ w;simp only[Instr.fieldAt,E5,C4 h1,E4,h2,Instr.sureAddr,E8,fieldPlace,h6,h5,H8,Lg,h3]
theorem X.fieldAddr{t:TypeId}{x:Operand}{f k b off off':Nat}(hf:jM P t f k)(hx:ev σ x= .pointer (some ⟨b,off,none⟩))(ho:off+k=off'):
  XO P σ w (.fieldAddr t x f) (.pointer (some ⟨b,off',none⟩)):=λ_ _ _ _ _=>by
 simp only[execOp,hx,E5,yc hf,E4,E8,ho]
theorem X.field{t u:TypeId}{x:Operand}{f k s:Nat}{cells:List Value}{v:Value}(hf:∃fs fd,P.underlying t=some (.struct fs)/\fs[f]? =some fd/\fd.offset=k/\fd.type=u)
  (hu:(Plain P u/\cells[k]? =some v)\/ (gM P u/\Ho P u s/\ .agg ((cells.drop k).take s).toArray=v)) (hx:ev σ x= .agg cells.toArray):XO P σ w (.field t x f) v:=λ_ _ _ _ _=>by
 obtain⟨fs,fd,h1,h2,rfl,rfl⟩:=hf;rcases hu with⟨⟨u,hu,hp⟩,hv⟩|⟨⟨u,hu,hp⟩,hsz,hv⟩
 ·simp only[execOp,hx,Instr.field,E5,C4 h1,E4,h2,asAgg,E8,part,El hu hp,C9,H8];simp[hv]
 ·simp only[execOp,hx,Instr.field,E5,C4 h1,E4,h2,asAgg,E8,part,El hu hp,I7,Bo hsz];rw[<-hv];simp[List.extract_eq_take_drop]
def Fact.ptr(R:Reg)(pv:Value)(cs:List Value):Fact where
 holds A w:=∃b off arr T fr,pv= .pointer (some ⟨b,off,none⟩)/\ (A b/\R b)/\w.heap[b]? =some (.cells arr T fr)/\∀i,i<cs.length->arr[off+i]? =cs[i]?
 step:=by
  rintro A A' w w' ⟨b,off,arr,T,fr,h1,⟨h2,h3⟩,h4,h5⟩ ha hs _;exact⟨b,off,arr,T,fr,h1,⟨ha _ h2,h3⟩,(hs _ h2).trans h4,h5⟩
theorem i_{t e:TypeId}{s len cap lo hi:Nat}{vhi:Option Value}(ht:P.underlying t=some (.slice e))(hsz:Ho P e s)(h1:lo<=hi)(h2:hi<=len)(h3:len<=cap)
  (hlo:(∃q,vlo=some (.int q lo))\/ (vlo=none/\lo=0)) (hhi:(∃q,vhi=some (.int q hi))\/ (vhi=none/\hi=len)):
  (Instr.slice t (.slice p len cap) vlo vhi none).run P w= .ok (.slice (if cap=lo then p else p.map (·.add (lo*s))) (hi-lo) (cap-lo)) w:=by
 have e4:hi<=cap:=F3
 rcases hlo with⟨q,rfl⟩|⟨rfl,rfl⟩<;>rcases hhi with⟨q',rfl⟩|⟨rfl,rfl⟩<;>
  simp[Instr.slice,C4 ht,Instr.sliceBounds,Instr.sliceBound,asIntOf,Bo hsz,h1,e4]
 all_goals (try (intro h;omega))
theorem X.pP{t e:TypeId}{R:Reg}{s j m l k:Nat}{cs:List Value}(ht:P.underlying t=some (.slice e))(hsz:Ho P e s)(hs:St A w F L)
  (hF:F[j]? =some (.rd R s v cs)) (hl:cs.length=m*s) (hp:0<s) (hlk:l<=k) (hkm:k<=m):
  ∃p' l' c',(∀(σ:Env) (w:World) (x:Operand) (lo hi:Option Operand),ev σ x=v-> ((∃q,lo.map (ev σ)=some (.int q (l:Int)))\/ (lo=none/\l=0))-> ((∃q,hi.map (ev σ)=some (.int q (k:Int)))\/ (hi=none/\k=m))->XO P σ w (.slice t x lo hi none) (.slice p' l' c'))/\St A w (.rd R s (.slice p' l' c') ((cs.take (k*s)).drop (l*s))::F) L:=by
 obtain⟨p,len,cap,rfl,h2,h3,h4,h5⟩:=hs.fact j hF;have hlen:len=m:=H4 hp (h2.symm.trans hl);subst hlen;have e1:l*s<=k*s:=E9 s hlk;have e2:k*s<=len*s:=E9 s hkm;have e3:(k-l)*s=k*s-l*s:=J? k l s;have e9:k-l<=cap-l:=F3
 have e10:l*s+(cap-l)*s=cap*s:=by
  rw[J?];have:=E9 s (show l<=cap by omega);omega
 refine⟨(if cap=l then p else p.map (·.add (l*s))),k-l,cap-l,λσ w x lo hi hx hlo hhi _ _ _ _ _=>?_,hs.sJ ⟨_,_,_,rfl,?_,e9,?_,λhc=>?_⟩⟩
 ·have hr:=i_ (P:=P) (w:=w) (p:=p) (vlo:=lo.map (ev σ)) (vhi:=hi.map (ev σ)) ht hsz hlk hkm h3 (by rcases hlo with h|⟨h,h'⟩;exact .inl h;exact .inr ⟨by rw[h];rfl,h'⟩)
   (by rcases hhi with h|⟨h,h'⟩;exact .inl h;exact .inr ⟨by rw[h];rfl,h'⟩)
  simp only[execOp,hx,Instr.sliceAt,E5,C4 ht,E4,N7,hr,E8]
 ·rw[D',C5,e3];omega
 ·intro hp;by_cases hcl:cap=l
  ·omega
  ·rw[C1 hcl]at hp;cases p with
   |none=>have:=h4 rfl;omega
   |some a=>simp at hp
 ·rw[C1 F3];obtain⟨b,off,arr,T,fr,rfl,hA,hb,hc',he⟩:=h5 F3;refine⟨b,off+l*s,arr,T,fr,by simp[Lg],hA,hb,?_,λi hi=>?_⟩
  ·rw[G8,e10];assumption
  ·rw[G8,he (l*s+i) F3,J6,H7];rw[BA F3]
theorem zx{t e:TypeId}{s len cap lo hi mx:Nat}{q q':IntKind}(ht:P.underlying t=some (.slice e))(hsz:Ho P e s)(h1:lo<=hi)(h2:hi<=mx)(h3:mx<=cap)
  (hlo:(∃q,vlo=some (.int q lo))\/ (vlo=none/\lo=0)):
  (Instr.slice t (.slice p len cap) vlo (some (.int q hi)) (some (.int q' mx))).run P w= .ok (.slice (if mx=lo then p else p.map (·.add (lo*s))) (hi-lo) (mx-lo)) w:=by
 rcases hlo with⟨q,rfl⟩|⟨rfl,rfl⟩<;>
  simp[Instr.slice,C4 ht,Instr.sliceBounds,Instr.sliceBound,asIntOf,Bo hsz,h1,h2,h3]
theorem X.Ahn{t e:TypeId}{R:Reg}{s j m l k c:Nat}{cs:List Value}(ht:P.underlying t=some (.slice e))(hsz:Ho P e s)(hs:St A w F L)
  (hF:F[j]? =some (.rd R s v cs)) (hl:cs.length=m*s) (hp:0<s) (hlk:l<=k) (hkc:k<=c) (hcm:c<=m):
  ∃p' l' c',(∀(σ:Env) (w:World) (x:Operand) (lo:Option Operand) (hi mx:Operand),ev σ x=v-> ((∃q,lo.map (ev σ)=some (.int q (l:Int)))\/ (lo=none/\l=0))-> (∃q,ev σ hi= .int q (k:Int))-> (∃q,ev σ mx= .int q (c:Int))->XO P σ w (.slice t x lo (some hi) (some mx)) (.slice p' l' c'))/\St A w (.rd R s (.slice p' l' c') ((cs.take (k*s)).drop (l*s))::F) L/\c'=c-l:=by
 obtain⟨p,len,cap,rfl,h2,h3,h4,h5⟩:=hs.fact j hF;have hlen:len=m:=H4 hp (h2.symm.trans hl);subst hlen;have e1:l*s<=k*s:=E9 s hlk;have e2:k*s<=len*s:=E9 s (SC hkc hcm);have e3:(k-l)*s=k*s-l*s:=J? k l s;have e9:k-l<=c-l:=F3
 have e10:l*s+(c-l)*s<=cap*s:=by
  rw[J?];have:=E9 s (show l<=c by omega);have:=E9 s (show c<=cap by omega);omega
 refine⟨(if c=l then p else p.map (·.add (l*s))),k-l,c-l,λσ w x lo hi mx hx hlo hhi hmx _ _ _ _ _=>?_,hs.sJ ⟨_,_,_,rfl,?_,e9,?_,λhc=>?_⟩,rfl⟩
 ·obtain⟨q,hq⟩:=hhi;obtain⟨q',hq'⟩:=hmx;have hr:=zx (P:=P) (w:=w) (p:=p) (len:=len) (vlo:=lo.map (ev σ)) (q:=q) (q':=q') ht hsz hlk hkc (show c<=cap by omega) (by rcases hlo with h|⟨h,h'⟩;exact .inl h;exact .inr ⟨by rw[h];rfl,h'⟩);simp only[execOp,hx,Instr.sliceAt,E5,C4 ht,E4,IZ,hq,hq',hr,E8]
 ·rw[D',C5,e3];omega
 ·intro hp;by_cases hcl:c=l
  ·omega
  ·rw[C1 hcl]at hp;cases p with
   |none=>have:=h4 rfl;omega
   |some a=>simp at hp
 ·rw[C1 F3];obtain⟨b,off,arr,T,fr,rfl,hA,hb,hc',he⟩:=h5 F3;refine⟨b,off+l*s,arr,T,fr,by simp[Lg],hA,hb,?_,λi hi=>?_⟩
  ·omega
  ·rw[G8,he (l*s+i) F3,J6,H7];rw[BA F3]
end Go.Lv
namespace Go.Lv
variable{o:Obj}{p:Option Addr}{v vy vx:Value}
variable {P:Program} {n:Nat} {ops:Array Oper} {rest:List Oper} {K:Env->World->Prop} {σ:Env} {w:World}
variable {d:Nat} {ty:TypeId} {pos:String} {after:Array Edge} {A:Reg} {F:List Fact} {L:List Mob}
structure ElemOk (P:Program) (e:TypeId) (s:Nat):Prop where
 ok:∃i z,P.info? e=some i/\i.size=s/\i.zero=some z/\z.cells.size=s/\i.bytes<=4096
 pos:0<s
theorem ElemOk.size{e:TypeId}{s:Nat}(h:ElemOk P e s):Ho P e s:=let⟨i,_,h1,h2,_⟩:=h.ok;⟨i,h1,h2⟩
theorem Rd.first{s len cap:Nat}{cs:List Value}(h:Rd A w s (.slice p len cap) cs){w2:World}(hw:w2.heap=w.heap):
  (Builtin.firstCells s len (.slice p len cap)).run P w2= .ok cs.toArray w2:=by
 obtain⟨p',len',cap',e,h2,h3,h4,h5⟩:=h;cases e;cases p with
 |none=>
  have:=h4 rfl;have:cs=[]:=I5 (by rw[h2,show len=0 by omega];simp);subst this;exact run_firstCells_none _ _ _ _ _
 |some a=>
  by_cases hc:0<cap
  ·obtain⟨b,off,arr,T,fr,e,hA,hb,hc',he⟩:=h5 hc;cases e;refine run_firstCells_some w2 s len _ len cap cs h2 (λj v hj=>?_);have hjl:j<len*s:=by rw[<-h2];exact(List.getElem?_eq_some_iff.1 hj).1
   rw[Lg,cell_of (by rw[hw];exact hb),he j hjl,hj]
  ·have hz:len=0:=F3
   have:cs=[]:=I5 (by rw[h2,hz];simp);subst this;exact run_firstCells_some w2 s len _ len cap [] (by simp[hz]) (λj v hj=>by simp at hj)
theorem Nj{o:Option Nat}{s:Nat}{E:TypeId}{cs:List Value}(h:(Mob.own s E v cs).holds o w):Rd (λb=>o=some b) w s v cs:=by
 obtain⟨p,len,cap,h1,h2,h3,h4,h5,h6⟩:=h;refine⟨p,len,cap,h1,h2,h3,h4,λhc=>?_⟩;cases o with
 |none=>have:=h4 (h5 rfl);omega
 |some b=>
  obtain⟨arr,fr,e1,e2,e3,e4,e5⟩:=h6 b rfl;exact⟨b,0,arr,E,fr,e1,rfl,e2,F3,λi hi=>by rw[H2];exact e5 i hi⟩
theorem St.Nj(hs:St A w F L){j s:Nat}{E:TypeId}{v:Value}{cs:List Value}(hL:L[j]? =some (.own s E v cs)):Rd (λ_=>True) w s v cs:=by
 obtain⟨o,h⟩:=Cc.mem (A:=A) hs.mobs hL;exact(Go.Lv.Nj h).step (λ_ _=>trivial) (λ_ _=>rfl)
theorem St.rd(hs:St A w F L){j s:Nat}{R:Reg}{cs:List Value}(hF:F[j]? =some (.rd R s v cs)):Rd (λ_=>True) w s v cs:=
 (show Rd _ w s v cs from hs.fact j hF).step (λ_ _=>trivial) (λ_ _=>rfl)
theorem St.eH{i b:Nat}{m m':Mob}(hs:St A w F L)(hL:L[i]? =some m)(hm:m.holds (some b) w)(hm':m'.holds (some b) (Dn w b o))
  (hq:Cc w A (m::L.eraseIdx i)->∃q,m.holds q w/\ (∀c,q=some c-> ¬A c/\c<w.heap.size)/\Cc w (λc=>A c\/q=some c) (L.eraseIdx i)/\q=some b):St A (Dn w b o) F (L.set i m'):=by
 have h1:=hs.front hL;refine St.back hL ?_;obtain⟨q,_,h3,h4,rfl⟩:=hq h1.mobs;have hsz:(Dn w b o).heap.size=w.heap.size:=by simp[Dn]
 have hne:∀c,c≠b-> (Dn w b o).heap[c]? =w.heap[c]? :=λc hc=>by
  simp[Dn,J1 (G? hc)]
 have hnA:=(h3 b rfl).1;refine⟨λc hc=>by rw[hsz];exact hs.lt c hc,λf hf=>f.step (hs.facts f hf) (λ_ h=>h) (λc hc=>hne c (λe=>hnA (e▸hc))) ⟨by rw[hsz];exact E3 _,rfl,rfl,rfl⟩,some b,hm',λc hc=>⟨(h3 c hc).1,by rw[hsz];exact(h3 c hc).2⟩,?_⟩;refine h4.step (by rw[hsz];exact E3 _) (λc _ hc=>hne c (λe=>hc (.inr (by rw[e]))))
theorem St.uM(hs:St A w F L){i:Nat}{m m':Mob}(hL:L[i]? =some m)(hm':m'.holds (some w.heap.size) (Hv w o)):St A (Hv w o) F (L.set i m'):=
 St.back hL ((hs.front hL).Ate.xM o m' hm')
theorem St.TK(hs:St A w F L):St A w.drew F L:=hs.keep ⟨λ_ _=>rfl,E3 _,rfl,rfl,rfl⟩
theorem St.d_(hs:St A w F L){i:Nat}{m m':Mob}(hL:L[i]? =some m)(hm:∀q,m.holds q w->∃q',m'.holds q' w/\ (q'=q\/q'=none)):St A w F (L.set i m'):=by
 have h1:=hs.front hL;refine St.back hL ⟨hs.lt,hs.facts,?_⟩;obtain⟨q,hq,h3,h4⟩:=h1.mobs;obtain⟨q',hq',h⟩:=hm q hq;refine⟨q',hq',λb hb=>?_,h4.Hk ?_⟩
 ·rcases h with rfl|rfl
  ·exact h3 b hb
  ·cases hb
 ·rcases h with rfl|rfl
  ·exact λ_ h=>h
  ·exact λb hb=>hb.elim .inl (λh=>by cases h)
structure Src (P:Program) (w:World) (t2:TypeId) (vy:Value) (s ly:Nat) (ys:List Value):Prop where
 u:∃u,P.underlying t2=some u/\ ((∃e2,u= .slice e2)\/u= .string)
 len:∀w2,(Builtin.lenOf vy).run P w2= .ok ly w2
 first:∀w2:World,w2.heap=w.heap-> (Builtin.firstCells s ly vy).run P w2= .ok ys.toArray w2
theorem Src.slice{t2:TypeId}{s ly:Nat}{ys:List Value}(ht2:∃e2,P.underlying t2=some (.slice e2))(hy:Rd (λ_=>True) w s vy ys)(F_:ys.length=ly*s)(hp:0<s):Src P w t2 vy s ly ys:=by
 obtain⟨py,xJ,Av2,rfl,g2,g3,g4,g5⟩:=hy;have e2':xJ=ly:=H4 hp (g2.symm.trans F_);subst e2';obtain⟨e2,ht2⟩:=ht2;exact⟨⟨_,ht2, .inl ⟨_,rfl⟩⟩,λ_=>by simp[Builtin.lenOf],λw2 hw=>Rd.first (A:=λ_=>True) ⟨py,xJ,Av2,rfl,g2,g3,g4,g5⟩ hw⟩
theorem oB{x y:Operand}{t t2 e:TypeId}{s i lx ly:Nat}{cs ys:List Value}(ht:P.underlying t=some (.slice e))(he:ElemOk P e s)
  (hs:St A w F L) (hL:L[i]? =some (.own s e vx cs)) (hsrc:Src P w t2 vy s ly ys) (h1:ys.all (·.oneCell')=true) (hlx:cs.length=lx*s) (F_:ys.length=ly*s) (hlim:lx+ly<=pN):
  ∃v' w',(Builtin.append_ #[t,t2] ty #[vx,vy]).run P w= .ok v' w'/\St A w' F (L.set i (.own s e v' (cs++ys))):=by
 have hfr:=hs.front hL;obtain⟨o,hown,_,_⟩:=hfr.mobs;have hxr:=Go.Lv.Nj hown;obtain⟨p,len,cap,rfl,h2,h3,h4,h5,h6⟩:=hown;obtain⟨ti,z,hi,hsz,hz,hzs,hby⟩:=he.ok;obtain⟨u,ht2,hu⟩:=hsrc.u;have hlen:=hsrc.len;have e1:len=lx:=H4 he.pos (h2.symm.trans hlx);subst e1;subst hsz;have MM:pN=17179869184:=rfl;rw[MM]at hlim;by_cases hroom:len+ly<=cap
 ·by_cases hn:ly=0
  ·
   subst hn;have hys:ys=[]:=I5 (by simpa using F_);subst hys;have hf:=hsrc.first w rfl
   refine⟨.slice p len cap,w,?_,?_⟩
   ·rcases hu with⟨e2,rfl⟩|rfl<;>cases p<;>simp[Builtin.append_,C4 ht,C4 ht2,sizeOf,typeInfo,hi,hlen,hf,h3,storeCells]
   ·rw[G5];have:L.set i (.own ti.size e (.slice p len cap) cs)=L:=by
     apply QZ;intro j;by_cases hj:i=j
     ·subst hj;rw[xY];simp[hL]
     ·rw[H5 hj]
    rw[this];exact hs
  ·
   cases o with
   |none=>have:=h4 (h5 rfl);omega
   |some b=>
    obtain⟨arr,fr,rfl,hb,hsz',hfz,hcells⟩:=h6 b rfl;have hf:=hsrc.first w rfl
    have hst:=Gg (P:=P) b e fr ys (len*ti.size) 0 arr.toList w (by simpa using hb)
     (by have:=E9 ti.size hroom;rw[FE]at this;simp;omega) (by simp;rcases hfz with h|h;exact .inr (.inr (SK h.symm));exact .inr (.inl h)) (λv hv=>List.all_eq_true.1 h1 v hv)
    refine⟨.slice (some ⟨b,0,none⟩) (len+ly) cap,Dn w b (.cells (Bd arr.toList (len*ti.size) ys).toArray e fr),?_,?_⟩
    ·rcases hu with⟨e2,rfl⟩|rfl<;>(simp[Builtin.append_,C4 ht,C4 ht2,sizeOf,typeInfo,hi,hlen,hf,hroom,Lg]at hst⊢;simp[hst])
    ·have hbl:=lt_of_heap hb;have hal:arr.toList.length=arr.size:=by simp
     have Av3:len*ti.size+ly*ti.size<=arr.toList.length:=by
      have:=E9 ti.size hroom;rw[FE]at this;simp;omega
     refine hs.eH hL (b:=b) ⟨_,len,cap,rfl,h2,h3,h4,h5,h6⟩ ?_ ?_
     ·refine⟨_,len+ly,cap,rfl,by rw[C!,FE];omega,hroom,F7,F7,λb' hb'=>?_⟩;cases hb';refine⟨(Bd arr.toList (len*ti.size) ys).toArray,fr,rfl,by simp[Dn,hbl],?_,?_,λj hj=>?_⟩
      ·simp only[HT];rw[Fa F3];simpa using hsz'
      ·simp only[HT];rw[Fa F3];simpa using hfz
      ·rw[FE]at hj;simp only[J4,Bd,S5,C5];by_cases hj1:j<len*ti.size
       ·rw[BA F3,BA F3,H7,BA hj1];have:=hcells j hj1;simpa using this
       ·have hmin:min (len*ti.size) arr.toList.length=len*ti.size:=F3
        rw[hmin,C1 hj1,C1 (show ¬j<cs.length by omega),BA (show j-len*ti.size<ys.length by omega),h2]
     ·rintro⟨q,hq,q1,q2⟩;refine⟨q,hq,q1,q2,?_⟩;obtain⟨_,_,_,eq,_,_,_,k5,k6⟩:=hq;cases q with
      |none=>cases eq;exact nomatch k5 rfl
      |some c=>obtain⟨_,_,k7,_⟩:=k6 c rfl;cases eq;cases k7;rfl
 ·
  have hf:=hsrc.first w.drew rfl
  have hfo:=hxr.first (P:=P) (w2:=w.drew) rfl
  have h63':¬(9223372036854775807<((len:Int)+(ly:Int))):=F3
  have hbb:(len+ly)*ti.bytes<=140737488355328:=by
   have:=So hlim hby;omega
  have h48':¬(281474976710656<Builtin.nextslicecap (len+ly) cap*ti.bytes):=by
   have:=m? (by omega:cap<len+ly) hbb;omega
  have hge:len+ly<=grownCap w (len+ly) cap e:=by simp[grownCap,Question.cut]
  refine⟨.slice (some ⟨w.heap.size,0,none⟩) (len+ly) (grownCap w (len+ly) cap e),
   Hv w.drew (.cells (cs++ys++(Builtin.zeroCells z.cells (grownCap w (len+ly) cap e-(len+ly))).toList).toArray e),?_,?_⟩
  ·have harr:∀(a b:List Value) (zz:Array Value),(a++b++zz.toList).toArray=a.toArray++(b.toArray++zz):=λa b zz=>by
    apply R';simp
   rw[harr];rcases hu with⟨e2,rfl⟩|rfl<;>(simp[Builtin.append_,C4 ht,C4 ht2,sizeOf,typeInfo,zeroValue,hi,hz,hlen,hroom,h63',h48',Question.forced,hf,hfo,newRow,newObj,grownCap];simp only[Sem.run,E4];simp[Hv])
  ·refine hs.TK.uM hL ⟨_,len+ly,_,rfl,by rw[C!,FE];omega,hge,F7,F7,λb hb=>?_⟩;cases hb;refine⟨_,(0,0),rfl,Rp _ _,?_, .inl rfl,λj hj=>?_⟩
   ·have:(Builtin.zeroCells z.cells (grownCap w (len+ly) cap e-(len+ly))).size=(grownCap w (len+ly) cap e-(len+ly))*ti.size:=by simp[Builtin.zeroCells,hzs]
    simp only[HT,C!,QW,this,h2,F_,J?];have:=E9 ti.size hge;rw[FE]at this⊢;omega
   ·rw[FE]at hj;simp only[J4];rw[F? F5]
theorem yM{t t2 e:TypeId}{s lx ly len cap:Nat}{cs ys:List Value}(ht:P.underlying t=some (.slice e))(he:ElemOk P e s)
  (hs:St A w F L) (hx:Rd (λ_=>True) w s vx cs) (hv:vx= .slice p len cap) (hcap:cap<lx+ly) (hsrc:Src P w t2 vy s ly ys) (hlx:cs.length=lx*s) (F_:ys.length=ly*s) (hlim:lx+ly<=pN):
  ∃v' w',(Builtin.append_ #[t,t2] ty #[vx,vy]).run P w= .ok v' w'/\St A w' F (.own s e v' (cs++ys)::L):=by
 subst hv;have hxr:=hx;obtain⟨_,_,_,heq,h2,h3,h4,h5⟩:=hx;cases heq;obtain⟨ti,z,hi,hsz,hz,hzs,hby⟩:=he.ok;obtain⟨u,ht2,hu⟩:=hsrc.u;have hlen:=hsrc.len;have e1:len=lx:=H4 he.pos (h2.symm.trans hlx);subst e1;subst hsz;have MM:pN=17179869184:=rfl;rw[MM]at hlim;have hroom:¬len+ly<=cap:=F3
 have hf:=hsrc.first w.drew rfl
 have hfo:=hxr.first (P:=P) (w2:=w.drew) rfl
 have h63':¬(9223372036854775807<((len:Int)+(ly:Int))):=F3
 have hbb:(len+ly)*ti.bytes<=140737488355328:=by
  have:=So hlim hby;omega
 have h48':¬(281474976710656<Builtin.nextslicecap (len+ly) cap*ti.bytes):=by
  have:=m? (by omega:cap<len+ly) hbb;omega
 have hge:len+ly<=grownCap w (len+ly) cap e:=by simp[grownCap,Question.cut]
 refine⟨.slice (some ⟨w.heap.size,0,none⟩) (len+ly) (grownCap w (len+ly) cap e),
  Hv w.drew (.cells (cs++ys++(Builtin.zeroCells z.cells (grownCap w (len+ly) cap e-(len+ly))).toList).toArray e),?_,?_⟩
 ·have harr:∀(a b:List Value) (zz:Array Value),(a++b++zz.toList).toArray=a.toArray++(b.toArray++zz):=λa b zz=>by
   apply R';simp
  rw[harr];rcases hu with⟨e2,rfl⟩|rfl<;>(simp[Builtin.append_,C4 ht,C4 ht2,sizeOf,typeInfo,zeroValue,hi,hz,hlen,hroom,h63',h48',Question.forced,hf,hfo,newRow,newObj,grownCap];simp only[Sem.run,E4];simp[Hv])
 ·refine hs.TK.xM _ _ ⟨_,len+ly,_,rfl,by rw[C!,FE];omega,hge,F7,F7,λb hb=>?_⟩;cases hb;refine⟨_,(0,0),rfl,Rp _ _,?_, .inl rfl,λj hj=>?_⟩
  ·have:(Builtin.zeroCells z.cells (grownCap w (len+ly) cap e-(len+ly))).size=(grownCap w (len+ly) cap e-(len+ly))*ti.size:=by simp[Builtin.zeroCells,hzs]
   simp only[HT,C!,QW,this,h2,F_,J?];have:=E9 ti.size hge;rw[FE]at this⊢;omega
  ·rw[FE]at hj;simp only[J4];rw[F? F5]
end Go.Lv
namespace Go.Lv
variable {P:Program} {n:Nat} {ops:Array Oper} {rest:List Oper} {K:Env->World->Prop} {σ:Env} {w:World}
variable {d:Nat} {ty:TypeId} {pos:String} {after:Array Edge} {A:Reg} {F:List Fact} {L:List Mob}
theorem Av7 {x y:Operand}{t t2 e:TypeId}{s i lx ly:Nat}{vx:Value}{cs ys:List Value}(ht:P.underlying t=some (.slice e))(he:ElemOk P e s)
  (hs:St A w F L) (hL:L[i]? =some (.own s e vx cs)) (hk:∃k,P.underlying t2=some (.int k)) (hyz:∀i z,P.info? e=some i->i.zero=some z->ys.toArray=Builtin.zeroCells z.cells ly) (h1:ys.all (·.oneCell')=true) (hlx:cs.length=lx*s) (F_:ys.length=ly*s) (hlim:lx+ly<=pN):
  ∃v' w',(Builtin.append_ #[t,t2] ty #[vx, .int .i64 (ly:Int)]).run P w= .ok v' w'/\St A w' F (L.set i (.own s e v' (cs++ys))):=by
 have hfr:=hs.front hL;obtain⟨o,hown,_,_⟩:=hfr.mobs;have hxr:=Go.Lv.Nj hown;obtain⟨p,len,cap,rfl,h2,h3,h4,h5,h6⟩:=hown;obtain⟨ti,z,hi,hsz,hz,hzs,hby⟩:=he.ok;obtain⟨k,ht2⟩:=hk;have hyz:=hyz _ _ hi hz;have hLIM':pN=17179869184:=rfl;have hw64:IntKind.i64.wrap (ly:Int)=(ly:Int):=Db F3 (by rw[hLIM']at hlim;omega);have hneg:¬((ly:Int)<0):=F3
 have hb48:¬(281474976710656<(ly:Int)*(ti.bytes:Int)):=by
  have h1:ly*ti.bytes<=17179869184*4096:=So (by rw[hLIM']at hlim;omega) hby;have h2:(ly:Int)*(ti.bytes:Int)=((ly*ti.bytes:Nat):Int):=by simp
  rw[h2];omega
 have e1:len=lx:=H4 he.pos (h2.symm.trans hlx);subst e1;subst hsz;have MM:pN=17179869184:=rfl;rw[MM]at hlim;by_cases hroom:len+ly<=cap
 ·by_cases hn:ly=0
  ·
   subst hn;have hys:ys=[]:=I5 (by simpa using F_);subst hys;refine⟨.slice p len cap,w,?_,?_⟩
   ·cases p<;>simp[Builtin.append_,C4 ht,C4 ht2,sizeOf,typeInfo,hi,asInt,asIntOf,(by decide:IntKind.i64.wrap 0=0),hw64,hneg,hb48,h3,storeCells]
   ·rw[G5];have:L.set i (.own ti.size e (.slice p len cap) cs)=L:=by
     apply QZ;intro j;by_cases hj:i=j
     ·subst hj;rw[xY];simp[hL]
     ·rw[H5 hj]
    rw[this];exact hs
  ·
   cases o with
   |none=>have:=h4 (h5 rfl);omega
   |some b=>
    obtain⟨arr,fr,rfl,hb,hsz',hfz,hcells⟩:=h6 b rfl;have hst:=Gg (P:=P) b e fr ys (len*ti.size) 0 arr.toList w (by simpa using hb)
     (by have:=E9 ti.size hroom;rw[FE]at this;simp;omega) (by simp;rcases hfz with h|h;exact .inr (.inr (SK h.symm));exact .inr (.inl h)) (λv hv=>List.all_eq_true.1 h1 v hv)
    refine⟨.slice (some ⟨b,0,none⟩) (len+ly) cap,Dn w b (.cells (Bd arr.toList (len*ti.size) ys).toArray e fr),?_,?_⟩
    ·have h00:¬(ly*ti.size=0):=λh=>by have hpp:=he.pos;rcases Nat.mul_eq_zero.1 h with h|h<;>omega
     simp[Builtin.append_,C4 ht,C4 ht2,sizeOf,typeInfo,zeroValue,hi,hz,asInt,asIntOf,(by decide:IntKind.i64.wrap 0=0),hw64,hneg,hb48,hroom,Lg,h00,<-hyz]at hst⊢;simp[hst]
    ·have hbl:=lt_of_heap hb;have hal:arr.toList.length=arr.size:=by simp
     have Av3:len*ti.size+ly*ti.size<=arr.toList.length:=by
      have:=E9 ti.size hroom;rw[FE]at this;simp;omega
     refine hs.eH hL (b:=b) ⟨_,len,cap,rfl,h2,h3,h4,h5,h6⟩ ?_ ?_
     ·refine⟨_,len+ly,cap,rfl,by rw[C!,FE];omega,hroom,F7,F7,λb' hb'=>?_⟩;cases hb';refine⟨(Bd arr.toList (len*ti.size) ys).toArray,fr,rfl,by simp[Dn,hbl],?_,?_,λj hj=>?_⟩
      ·simp only[HT];rw[Fa F3];simpa using hsz'
      ·simp only[HT];rw[Fa F3];simpa using hfz
      ·rw[FE]at hj;simp only[J4,Bd,S5,C5];by_cases hj1:j<len*ti.size
       ·rw[BA F3,BA F3,H7,BA hj1];have:=hcells j hj1;simpa using this
       ·have hmin:min (len*ti.size) arr.toList.length=len*ti.size:=F3
        rw[hmin,C1 hj1,C1 (show ¬j<cs.length by omega),BA (show j-len*ti.size<ys.length by omega),h2]
     ·rintro⟨q,hq,q1,q2⟩;refine⟨q,hq,q1,q2,?_⟩;obtain⟨_,_,_,eq,_,_,_,k5,k6⟩:=hq;cases q with
      |none=>cases eq;exact nomatch k5 rfl
      |some c=>obtain⟨_,_,k7,_⟩:=k6 c rfl;cases eq;cases k7;rfl
 ·
  have hfo:=hxr.first (P:=P) (w2:=w.drew) rfl
  have h63':¬(9223372036854775807<((len:Int)+(ly:Int))):=F3
  have hbb:(len+ly)*ti.bytes<=140737488355328:=by
   have:=So hlim hby;omega
  have h48':¬(281474976710656<Builtin.nextslicecap (len+ly) cap*ti.bytes):=by
   have:=m? (by omega:cap<len+ly) hbb;omega
  have hge:len+ly<=grownCap w (len+ly) cap e:=by simp[grownCap,Question.cut]
  refine⟨.slice (some ⟨w.heap.size,0,none⟩) (len+ly) (grownCap w (len+ly) cap e),
   Hv w.drew (.cells (cs++ys++(Builtin.zeroCells z.cells (grownCap w (len+ly) cap e-(len+ly))).toList).toArray e),?_,?_⟩
  ·have harr:∀(a b:List Value) (zz:Array Value),(a++b++zz.toList).toArray=a.toArray++(b.toArray++zz):=λa b zz=>by
    apply R';simp
   rw[harr];have h00:¬(ly*ti.size=0):=λh=>by have hpp:=he.pos;rcases Nat.mul_eq_zero.1 h with h|h<;>omega
   simp[Builtin.append_,C4 ht,C4 ht2,sizeOf,typeInfo,zeroValue,hi,hz,asInt,asIntOf,(by decide:IntKind.i64.wrap 0=0),hw64,hneg,hb48,hroom,h63',h48',Question.forced,hfo,newRow,newObj,grownCap,h00,<-hyz];simp only[Sem.run,E4];simp[Hv]
  ·refine hs.TK.uM hL ⟨_,len+ly,_,rfl,by rw[C!,FE];omega,hge,F7,F7,λb hb=>?_⟩;cases hb;refine⟨_,(0,0),rfl,Rp _ _,?_, .inl rfl,λj hj=>?_⟩
   ·have:(Builtin.zeroCells z.cells (grownCap w (len+ly) cap e-(len+ly))).size=(grownCap w (len+ly) cap e-(len+ly))*ti.size:=by simp[Builtin.zeroCells,hzs]
    simp only[HT,C!,QW,this,h2,F_,J?];have:=E9 ti.size hge;rw[FE]at this⊢;omega
   ·rw[FE]at hj;simp only[J4];rw[F? F5]
end Go.Lv
namespace Go.Lv
variable{x y:Operand}{vx vy v:Value}
variable {P:Program} {n:Nat} {ops:Array Oper} {rest:List Oper} {K:Env->World->Prop} {σ:Env} {w:World}
variable {d:Nat} {ty:TypeId} {pos:String} {after:Array Edge} {A:Reg} {F:List Fact} {L:List Mob}
theorem WL.Ahf{t t2 e:TypeId}{s i lx ly:Nat}{cs ys:List Value}{L':Option Addr->Nat->Nat->List Mob}(ht:P.underlying t=some (.slice e))(he:ElemOk P e s)
  (hs:St A w F L) (hL:L[i]? =some (.own s e vx cs)) (hd:Nat.blt d n=true) (hx:ev σ x=vx) (hy:ev σ y=vy) (hsrc:Src P w t2 vy s ly ys) (h1:ys.all (·.oneCell')=true)
  (hlx:cs.length=lx*s) (F_:ys.length=ly*s) (hlim:lx+ly<=pN) (hL':∀p l c,L.set i (.own s e (.slice p l c) (cs++ys))=L' p l c) (h:∀p l c w',St A w' F (L' p l c)->WL P n ops rest K (Lq σ d (.slice p l c)) w'):
  WL P n ops (⟨some d, .call ⟨.builtin .append, #[x,y], #[t,t2]⟩,ty,pos,after,none⟩::rest) K σ w:=by
 obtain⟨v',w',hr,hs'⟩:=oB (P:=P) (ty:=ty) (x:=x) (y:=y) ht he hs hL hsrc h1 hlx F_ hlim;obtain⟨p,l,c,rfl⟩:∃p l c,v'= .slice p l c:=by
  have hlt:i<L.length:=(List.getElem?_eq_some_iff.1 hL).1;obtain⟨o,ho⟩:=Cc.mem (A:=A) hs'.mobs (show(L.set i (.own s e v' (cs++ys)))[i]? =some (.own s e v' (cs++ys)) by simp[hlt]);obtain⟨p,l,c,h,_⟩:=ho;exact⟨p,l,c,h⟩
 refine .val rfl rfl hd (v:= .slice p l c) (w':=w') ?_ (h p l c w' (hL' p l c▸hs'));simp[execOp,resolve,invoke,builtin,hx,hy,hr]
theorem WL.append{t t2 e:TypeId}{s i lx ly:Nat}{cs ys:List Value}{L':Option Addr->Nat->Nat->List Mob}(ht:P.underlying t=some (.slice e))(ht2:∃e2,P.underlying t2=some (.slice e2))(he:ElemOk P e s)
  (hs:St A w F L) (hL:L[i]? =some (.own s e vx cs)) (hd:Nat.blt d n=true) (hx:ev σ x=vx) (hy:ev σ y=vy) (hyr:Rd (λ_=>True) w s vy ys) (h1:ys.all (·.oneCell')=true)
  (hlx:cs.length=lx*s) (F_:ys.length=ly*s) (hlim:lx+ly<=pN) (hL':∀p l c,L.set i (.own s e (.slice p l c) (cs++ys))=L' p l c) (h:∀p l c w',St A w' F (L' p l c)->WL P n ops rest K (Lq σ d (.slice p l c)) w'):
  WL P n ops (⟨some d, .call ⟨.builtin .append, #[x,y], #[t,t2]⟩,ty,pos,after,none⟩::rest) K σ w:=
 WL.Ahf ht he hs hL hd hx hy (Src.slice ht2 hyr F_ he.pos) h1 hlx F_ hlim hL' h
theorem St.freeze(hs:St A w F L){i s:Nat}{E:TypeId}{cs:List Value}{L':List Mob}(hL:L[i]? =some (.own s E v cs))(hL':L.eraseIdx i=L')(R:Reg)(hR:∀b,¬A b->R b):
  ∃A',(∀b,A b->A' b)/\St A' w (.rd R s v cs::F) L':=by
 subst hL';obtain⟨o,ho,h3,h4⟩:=(hs.front hL).mobs;have hrd:=Go.Lv.Nj ho;refine⟨λb=>A b\/o=some b,λ_ h=> .inl h,λb hb=>hb.elim (hs.lt b) (λh=>(h3 b h).2),λf hf=>?_,h4⟩;cases hf with
 |head=>exact hrd.step (λb hb=>⟨.inr hb,hR b (h3 b hb).1⟩) (λ_ _=>rfl)
 |tail _ hf=>exact f.step (hs.facts f hf) (λ_ h=> .inl h) (λ_ _=>rfl) (.refl _)
theorem St.D? (hs:St A w F L)(s:Nat)(E:TypeId):St A w F (.own s E (.slice none 0 0) []::L):=
 ⟨hs.lt,hs.facts,none,⟨none,0,0,rfl,F7,E3 _,λ_=>rfl,λ_=>rfl,λb hb=>by cases hb⟩,(λb hb=>by cases hb),hs.mobs.Hk (λb hb=>hb.elim id (λh=>by cases h))⟩
theorem St.cG(hs:St A w F L){R:Reg}{s:Nat}{cs:List Value}(h:Rd (λb=>A b/\R b) w s v cs):St A w (.rd R s v cs::F) L:=hs.sJ h
theorem Aeu(acc:List Value)(off:Nat):Bd acc off []=acc:=by simp[Bd]
theorem eV(off:Nat):∀(cs:List Value) (j:Nat) (acc:List Value),off+j+cs.length<=acc.length->
  (cs.zipIdx j).foldl (λ(a:Array Value) (p:Value×Nat)=>a.setIfInBounds (off+p.2) p.1) acc.toArray=(Bd acc (off+j) cs).toArray
 |[],j,acc,_=>by simp[Aeu]
 |c::cs,j,acc,h=>by
  simp only[C3]at h;simp only[kV,List.foldl_cons];rw[List.setIfInBounds_toArray];have:=eV off cs (j+1) (acc.set (off+j) c) F5;rw[this,<-G8,zR F5]
theorem nV(s:Nat):∀(vs:List Value) (k:Nat) (acc:List Value),(∀v∈vs,v.cells.size=s)->acc.length=(k+vs.length)*s->
  Instr.fill (λi=>some (i*s,s)) acc.toArray ((vs.zipIdx k).map λp=>(p.2,p.1))=some (acc.take (k*s)++(vs.map (·.cells.toList)).flatten).toArray
 |[],k,acc,_,hl=>by
  have:acc.take (k*s)=acc:=K6 (by simp at hl;omega);simp[Instr.fill,this]
 |v::vs,k,acc,hv,hl=>by
  have h1:=hv v (.head _);have hl':acc.length=k*s+s+vs.length*s:=by rw[hl,C3,FE,FE];omega
  have hf:=eV (k*s) v.cells.toList 0 acc F5;have dW:v.cells.zipIdx.foldl (λcs (x:Value×Nat)=>cs.setIfInBounds (k*s+x.2) x.1) acc.toArray=(Bd acc (k*s) v.cells.toList).toArray:=by
   rw[<-Array.foldl_toList,Array.toList_zipIdx];simpa using hf
  have hrec:=nV s vs (k+1) (Bd acc (k*s) v.cells.toList) (λu hu=>hv u (.tail _ hu)) (by rw[Fa F5,hl,C3];congr 1;omega);simp only[kV,G9,Instr.fill];have hc:(decide (v.cells.size≠s)||decide (k*s+v.cells.size>acc.toArray.size))=false:=by simp;omega
  rw[C1 (by rw[hc];simp)]
  show Instr.fill _ (v.cells.zipIdx.foldl (λcs (x:Value×Nat)=>cs.setIfInBounds (k*s+x.2) x.1) acc.toArray) _=_;rw[dW,hrec];congr 2;have e1:(k+1)*s=k*s+v.cells.toList.length:=by rw[J9];simp[h1]
  rw[e1,VB,<-H?];congr 1;simp only[Bd];rw[<-H?,kH F5,K6 F5]
theorem Ahl(z:Array Value)(m:Nat):∃zs:List Value,((Array.range m).map λx=>z[x %z.size]!)=zs.toArray/\zs.length=m:=
 ⟨((Array.range m).map λx=>z[x %z.size]!).toList,by rw[Array.toArray_toList],F7⟩
theorem WL.buildSlice{t e:TypeId}{len s:Nat}{parts:List (Nat×Operand)}{vs cells:List Value}(ht:P.underlying t=some (.slice e))(he:ElemOk P e s)(hs:St A w F L)(hd:Nat.blt d n=true)
  (hp:(parts.map λp=>(p.1,ev σ p.2))=(vs.zipIdx 0).map λp=>(p.2,p.1)) (hl:vs.length=len) (hlen:Nat.ble (len*s) 4096=true) (h1:∀v∈vs,v.cells.size=s)
  (hcells:(vs.map (·.cells.toList)).flatten=cells)
  (h:∀p l c w',St A w' F (.own s e (.slice p l c) cells::L)->WL P n ops rest K (Lq σ d (.slice p l c)) w'):
  WL P n ops (⟨some d, .buildSlice t len parts.toArray,ty,pos,after,none⟩::rest) K σ w:=by
 subst hl;have hlen':vs.length*s<=4096:=by simpa using hlen
 obtain⟨ti,z,hi,hsz,hz,hzs,hby⟩:=he.ok;have hcl:cells.length=vs.length*s:=by
  rw[<-hcells];clear hp h hcells hlen hlen'
  induction vs with
  |nil=>simp
  |cons v vs ih=>
   simp only[G9,VB,C!,C3,QW];rw[ih (λu hu=>h1 u (.tail _ hu)),h1 v (.head _),J9];omega
 have hrun:(newRow e cells.toArray).run P w= .ok ⟨w.heap.size,0,none⟩ (Hv w (.cells cells.toArray e)):=rfl;have hfz:∀z0:Array Value,Instr.fill (λi=>some (i*s,s)) (Array.map (λx=>z0[x %z0.size]!) (Array.range (vs.length*s))) ((vs.zipIdx 0).map λp=>(p.2,p.1))=some cells.toArray:=λz0=>by
  obtain⟨zs,Av4,Av5⟩:=Ahl z0 (vs.length*s);have hf:=nV s vs 0 zs h1 (by rw[Av5];simp);simp only[Nat.zero_mul,O',J7,hcells]at hf;rw[Av4,hf]
 have hzv:(zeroValue e).run P w= .ok z w:=by simp[zeroValue,typeInfo,hi,hz]
 refine .val rfl rfl hd (v:= .slice (some ⟨w.heap.size,0,none⟩) vs.length vs.length) (w':=Hv w (.cells cells.toArray e)) ?_ (h _ _ _ _ (hs.xM _ _ ⟨_,vs.length,vs.length,rfl,hcl,E3 _,F7,F7,λb hb=>?_⟩))
 ·simp only[execOp,Instr.buildSlice,E5,C4 ht,E4,Bo he.size];rw[C1 F3];have hp2:(Array.map (λ(x:Nat×Operand)=>(x.1,ev σ x.2)) parts.toArray).toList=(vs.zipIdx 0).map λp=>(p.2,p.1):=by rw[List.map_toArray,hp]
  rw[hp2];split<;>simp only[E5,E8,hzv,E4,hfz,hrun]
 ·cases hb;exact⟨cells.toArray,(0,0),rfl,Rp _ _,by simpa using hcl, .inl rfl,λi hi=>by simp⟩
end Go.Lv
namespace Go.Lv
variable{a:Act}{fn:Func}{v:Value}
variable {P:Program} {n:Nat} {ops:Array Oper} {rest:List Oper} {K:Env->World->Prop} {σ:Env} {w:World}
variable {d:Nat} {ty:TypeId} {pos:String} {after:Array Edge} {A:Reg} {F:List Fact} {L:List Mob}
def II(l:List Value):Env:=λt=>l.getD t undef
def PC(P:Program)(σ:Env)(w:World):ResultVar->Value->Prop
 | .tmp t,v=>σ t=v
 | .cell a t,v=>∃ad,σ a= .pointer (some ad)/\ (loadVar t ad).run P w= .ok v w
def YR(P:Program)(σ:Env)(w:World):List ResultVar->List Value->Prop
 |[],[]=>True
 |r::rs,v::vs=>PC P σ w r v/\YR P σ w rs vs
 |_,_=>False
def DV(vs:List Value):Value:=match vs with|[v]=>v|_=> .tuple vs.toArray
def je(tmps:Array Value):ResultVar->Sem Value
 | .tmp t=>pure (tmps.getD t undef)
 | .cell a t=>do loadVar t (<-asAddr (tmps.getD a undef))
theorem Aev{ds:List Deferred}{r:ResultVar}(ha:Fits ds n a σ)(h:PC P σ w r v):(je a.tmps r).run P w= .ok v w:=by
 cases r with
 |tmp t=>
  simp only[PC]at h;simp only[je,ha.get,h,E8]
 |cell ad t=>
  obtain⟨x,h4,h5⟩:=h;simp only[je,ha.get,h4,asAddr,E5,E8,E4,h5]
theorem Q8{ds:List Deferred}{a:Act}(ha:Fits ds n a σ):∀(rs:List ResultVar) (vs:List Value),YR P σ w rs vs-> (rs.mapM (je a.tmps)).run P w= .ok vs w
 |[],[],_=>rfl
 |[],_::_,h=>h.elim
 |_::_,[],h=>h.elim
 |r::rs,v::vs,⟨h1,h2⟩=>by
  have h3:=Q8 ha rs vs h2;simp only[List.mapM_cons,E5,Aev ha h1,E4,h3,E8]
theorem Xe{rs:List ResultVar}{ds:List Deferred}{vs:List Value}(hr:fn.results=rs.toArray)(ha:Fits ds n a σ)(h:YR P σ w rs vs):
  (results fn a.tmps).run P w= .ok (DV vs) w:=by
 have hk:=Q8 ha rs vs h;have e:results fn a.tmps=(do let vs<-fn.results.mapM (je a.tmps);pure (if h:vs.size=1 then vs[0]else .tuple vs)):=rfl;rw[e,hr,List.mapM_toArray];simp only[E5,map_eq_pure_bind,E8,E4,hk];congr 1
 match vs with
 |[]=>rfl
 |[v]=>rfl
 |a::b::r=>simp[DV]
theorem sw{f:FuncId}{c:Code}{rs:List ResultVar}{vs:List Value}{R:Ending->World->Prop}(hf:P.funcs[f]? =some fn)(hb:fn.body=some c)(hn:fn.ntmps=n)(hr:fn.results=rs.toArray)
  (hle:Nat.ble vs.length n=true)
  (h:W P n c (λe σ' w'=>(e= .ret\/e= .normal)/\∃us,YR P σ' w' rs us/\R (.returned (DV us)) w') (II vs) w):Calls P f vs.toArray w R:=by
 subst hn;have hle':vs.length<=fn.ntmps:=by simpa using hle
 refine calls_of_wp hf hb (wp_mono (h.wp ⟨by simp;omega,rfl,λt=>?_⟩) ?_)
 ·simp only[II,H9,G3,Array.getElem?_append,HT,J4];by_cases ht:t<vs.length
  ·simp[ht]
  ·rw[C1 ht,J5 F3];by_cases h2:t-vs.length<fn.ntmps-vs.length
   ·simp[UR,h2]
   ·simp[UR,h2]
 ·rintro e a' w' ⟨σ',hf',hh,us,h1,h2⟩;have hres:=Xe (P:=P) (w:=w') hr hf' h1;rcases hh with rfl|rfl<;>exact⟨hf'.defers,_,hres,h2⟩
theorem St.start(w:World):St (λb=>b<w.heap.size) w [.old (λ_=>False) w] []:=by
 refine⟨λ_ h=>h,λf hf=>?_,trivial⟩;cases hf with
 |head=>exact⟨.refl _,λb hb _=>⟨hb,rfl⟩⟩
 |tail _ h=>cases h
theorem Rd.start{R:Reg}{s:Nat}{cs:List Value}(h:Rd R w s v cs):Rd (λb=>b<w.heap.size/\R b) w s v cs:=by
 obtain⟨p,len,cap,h1,h2,h3,h4,h5⟩:=h;refine⟨p,len,cap,h1,h2,h3,h4,λhc=>?_⟩;obtain⟨b,off,arr,T,fr,e1,e2,e3,e4⟩:=h5 hc;exact⟨b,off,arr,T,fr,e1,⟨lt_of_heap e3,e2⟩,e3,e4⟩
end Go.Lv
namespace Go.Lv
variable{x:Operand}{v:Value}
variable {P:Program} {n:Nat} {ops:Array Oper} {rest:List Oper} {K:Env->World->Prop} {σ:Env} {w:World}
variable {d:Nat} {ty:TypeId} {pos:String} {after:Array Edge} {A:Reg} {F:List Fact} {L:List Mob}
@[reducible] def BH {T:Type} {k:IntKind} [GI T k] (l:List T):List Value:=l.map iv
theorem TJ(b:UInt8):iv b= .int .u8 (b.toNat:Int):=rfl
theorem X.b2s{s t e:TypeId}{R:Reg}{l:List UInt8}(hs':P.underlying s=some (.slice e))(he:P.underlying e=some (.int .u8))(ht:P.underlying t=some .string)
  (hr:Rd R w 1 v (BH l)) (hx:ev σ x=v):XO P σ w (.convert s t x) (sv l):=λ_ _ _ _ _=>by
 obtain⟨p,len,cap,rfl,h2,h3,h4,h5⟩:=hr;have hlen:l.length=len:=by simpa [BH]using h2
 subst hlen;have hrun:(convert s t (.slice p l.length cap)).run P w= .ok (sv l) w:=by
  cases p with
  |none=>
   have:=h4 rfl;have:l=[]:=I5 F3;subst this;rw[run_convert_bytes_string w s t e none _ _ hs' he ht];rfl
  |some a=>
   refine run_convert_bytes_back w s t e a cap l hs' he ht (λj hj=>?_);obtain⟨b,off,arr,T,fr,e1,_,e2,_,e3⟩:=h5 F3;cases e1;rw[Lg,cell_of e2,e3 j F3];simp[BH,hj,TJ]
 simp only[execOp,hx,E5,hrun,E4,E8]
theorem WL.s2b{s t e:TypeId}{l:List UInt8}(hs':P.underlying s=some .string)(ht:P.underlying t=some (.slice e))(he:P.underlying e=some (.int .u8))(hs:St A w F L)
  (hd:Nat.blt d n=true) (hx:ev σ x=sv l) (h:∀p m c w',St A w' F (.own 1 e (.slice p m c) (BH l)::L)->WL P n ops rest K (Lq σ d (.slice p m c)) w'):
  WL P n ops (⟨some d, .convert s t x,ty,pos,after,none⟩::rest) K σ w:=by
 have hr:=run_bytes_of_string (P:=P) w s t e ⟨l.toArray⟩ hs' ht he;have hsz:(⟨l.toArray⟩:ByteArray).size=l.length:=by simp[ByteArray.size]
 have hge:l.length<=grownCap w (⟨l.toArray⟩:ByteArray).size 0 e:=by rw[hsz];simp[grownCap,Question.cut]
 generalize hcap:grownCap w (⟨l.toArray⟩:ByteArray).size 0 e=cap at hr hge;have hw:(w.drew.alloc (.cells (bytesRow ⟨l.toArray⟩ cap) e ((bytesRow ⟨l.toArray⟩ cap).size,(bytesRow ⟨l.toArray⟩ cap).size+1)))=Hv w.drew (.cells (bytesRow ⟨l.toArray⟩ cap) e ((bytesRow ⟨l.toArray⟩ cap).size,(bytesRow ⟨l.toArray⟩ cap).size+1)):=rfl;rw[hw]at hr;refine .val rfl rfl hd (v:= .slice (some ⟨w.heap.size,0,none⟩) l.length cap) (w':=Hv w.drew (.cells (bytesRow ⟨l.toArray⟩ cap) e ((bytesRow ⟨l.toArray⟩ cap).size,(bytesRow ⟨l.toArray⟩ cap).size+1))) ?_ (h _ _ _ _ (hs.TK.xM _ _ ⟨_,l.length,cap,rfl,by simp[BH],hge,F7,F7,λb hb=>?_⟩))
 ·rw[hsz]at hr;simp only[execOp,hx,E5,hr,E4,E8]
 ·cases hb;refine⟨_,_,rfl,Rp _ _,?_, .inr (E3 _),λi hi=>?_⟩
  ·simp[bytesRow];omega
  ·have hi':i<l.length:=F3
   simp only[bytesRow];rw[Array.getElem?_append_left F5];simp[BH,hi',TJ]
def Mob.at_(b s:Nat)(E:TypeId)(m c:Nat)(cs:List Value):Mob where
 holds o w:=o=some b/\ (Mob.own s E (.slice (some ⟨b,0,none⟩) m c) cs).holds o w
 step h hs:=⟨h.1,(Mob.own s E _ cs).step h.2 hs⟩
theorem St.d? (hs:St A w F L){i s:Nat}{E:TypeId}{cs:List Value}(hL:L[i]? =some (.own s E v cs))(hne:0<cs.length):
  ∃b m c,v= .slice (some ⟨b,0,none⟩) m c/\St A w F (L.set i (.at_ b s E m c cs)):=by
 obtain⟨o,⟨p,len,cap,rfl,h2,h3,h4,h5,h6⟩,_,_⟩:=(hs.front hL).mobs;have hlen:0<len:=by
  rcases V8 len with h|h
  ·rw[h,Nat.zero_mul]at h2;omega
  ·exact h
 cases o with
 |none=>have:=h4 (h5 rfl);omega
 |some b=>
  obtain⟨arr,fr,rfl,_⟩:=h6 b rfl;refine⟨b,len,cap,rfl,hs.d_ hL (λq hq=>⟨q,?_, .inl rfl⟩)⟩;refine⟨?_,hq⟩;obtain⟨_,_,_,e,_,_,k4,k5,k6⟩:=hq;cases e;cases q with
  |none=>exact absurd (k5 rfl) F7
  |some b'=>obtain⟨_,_,e,_⟩:=k6 b' rfl;cases e;rfl
theorem St.wz(hs:St A w F L){i b s m c:Nat}{E:TypeId}{cs:List Value}(hL:L[i]? =some (.at_ b s E m c cs)):St A w F (L.set i (.own s E (.slice (some ⟨b,0,none⟩) m c) cs)):=
 hs.d_ hL (λq hq=>⟨q,hq.2, .inl rfl⟩)
theorem WL.Ajh{a:Operand}{t E:TypeId}{s j b m c k q:Nat}{cs cs' vs:List Value}{L':List Mob}(hs:St A w F L)(hL:L[j]? =some (.at_ b s E m c cs))(hsz:Ho P t q)
  (ha:ev σ a= .pointer (some ⟨b,k,none⟩)) (hx:ev σ x=v) (hv:v.cells=vs.toArray) (hl:vs.length=q) (h1:vs.all (·.oneCell')=true) (hle:k+q<=cs.length)
  (hc:Bd cs k vs=cs') (hL':L.set j (.at_ b s E m c cs')=L') (h:∀w',St A w' F L'->WL P n ops rest K σ w'):
  WL P n ops (⟨none, .store t a x,ty,pos,after,none⟩::rest) K σ w:=by
 obtain⟨o,ho,_,_⟩:=(hs.front hL).mobs;obtain⟨rfl,ho⟩:=ho;have ho':=ho;obtain⟨_,len,cap,e,h3,h4,h5,h5',h6⟩:=ho;cases e;obtain⟨arr,fr,e,hb,hsz',hfz,hcells⟩:=h6 b rfl;have hcl:cs.length<=arr.size:=by rw[h3,hsz'];exact E9 _ h4
 have hr:=Gg (P:=P) b E fr vs k 0 arr.toList w (by simpa using hb) F5 (by simp;rcases hfz with h|h;exact .inr (.inr (SK h.symm));exact .inr (.inl h)) (λv hv=>by simpa using List.all_eq_true.1 h1 v hv);simp only[R!]at hr;have hbl:=lt_of_heap hb;have hcs':cs'.length=cs.length:=by rw[<-hc];exact Fa F3
 have hget:∀i,i<m*s-> (Bd arr.toList k vs)[i]? =cs'[i]? :=λi hi=>by
  rw[<-hc];have e!:min k arr.toList.length=k:=by simp;omega
  have eB:min k cs.length=k:=F3
  simp only[Bd,S5,C5,e!,eB,H7,J6];by_cases h1:i<k
  ·rw[BA h1,BA h1,BA h1,BA h1];simpa using hcells i hi
  ·rw[C1 h1,C1 h1];by_cases h2:i-k<vs.length
   ·rw[BA h2,BA h2]
   ·rw[C1 h2,C1 h2];have e1:k+vs.length+(i-k-vs.length)=i:=F3
    rw[e1];simpa using hcells i hi
 refine .unit rfl rfl (w':=Dn w b (.cells (Bd arr.toList k vs).toArray E fr)) ?_ (h _ (hL'▸hs.eH hL (b:=b) ⟨rfl,ho'⟩ ⟨rfl,_,m,c,rfl,by rw[hcs',h3],h4,h5,h5',λb' hb'=>?_⟩ ?_))
 ·simp[execOp,ha,hx,Instr.storeAt,Instr.sureAddr,storeVar,Bo hsz,hv,hl,hr]
 ·cases hb';refine⟨(Bd arr.toList k vs).toArray,fr,rfl,by simp[Dn,hbl],?_,?_,λi hi=>?_⟩
  ·simp only[HT];rw[Fa F5];simpa using hsz'
  ·simp only[HT];rw[Fa F5];simpa using hfz
  ·simpa using hget i hi
 ·rintro⟨q,hq,q1,q2⟩;exact⟨q,hq,q1,q2,hq.1⟩
theorem Y1(zs:List Value)(s:Nat)(hz:zs.length=s)(hp:0<s):∀(m i:Nat),i<m*s-> ((List.replicate m zs).flatten)[i]? =zs[i %s]?
 |0,i,h=>by simp at h
 |m+1,i,h=>by
  rw[List.replicate_succ,VB,S5];by_cases hi:i<zs.length
  ·rw[BA hi,N3 F3]
  ·rw[C1 hi,hz,Y1 zs s hz hp m (i-s) (by rw[J9]at h;omega)];congr 1
   conv=>rhs;rw[show i=(i-s)+s by omega,Nat.add_mod_right]
theorem WL.makeSlice{t e:TypeId}{lo co:Operand}{s m:Nat}{z:Value}{zs:List Value}(ht:P.underlying t=some (.slice e))(he:ElemOk P e s)(hz:∃i,P.info? e=some i/\i.zero=some z)(hzs:z.cells=zs.toArray)(hs:St A w F L)
  (hd:Nat.blt d n=true) (hl:ev σ lo=iv (m:Int)) (hc:ev σ co=iv (m:Int)) (hlim:m<=pN) (h:∀p l c w',St A w' F (.own s e (.slice p l c) ((List.replicate m zs).flatten)::L)->WL P n ops rest K (Lq σ d (.slice p l c)) w'):
  WL P n ops (⟨some d, .makeSlice t lo co,ty,pos,after,none⟩::rest) K σ w:=by
 obtain⟨ti,hi,hz⟩:=hz;obtain⟨ti',z',hi',hsz,hz',hzz,hby⟩:=he.ok;rw[hi]at hi';cases hi';rw[hz]at hz';cases hz';have hzl:zs.length=s:=by have:=congrArg Array.size hzs;simp at this;omega
 have MM:pN=17179869184:=rfl;rw[MM]at hlim;have hmb:m*ti.bytes<=70368744177664:=by have:=So hlim hby;omega
 have hw:IntKind.i64.wrap (m:Int)=m:=by
  have:=Db (n:=(m:Int)) F3 F3;exact this
 have hcells:∀z0:Array Value,(z0=zs.toArray\/m*s=0)-> ((Array.range (m*s)).map λx=>z0[x %z0.size]!)=((List.replicate m zs).flatten).toArray:=by
  intro z0 h0;apply R';apply QZ;intro i;simp only[Array.toList_map,Array.toList_range,I9];by_cases hi:i<m*s
  ·rcases h0 with rfl|h0
   ·rw[Y1 zs s hzl he.pos m i hi,List.getElem?_range hi];have:i %s<zs.length:=by rw[hzl];exact Nat.mod_lt _ he.pos
    rw[E7 this];simp[hzl,E7 this]
   ·omega
  ·have e1:((List.replicate m zs).flatten).length=m*s:=by simp[hzl]
   rw[J5 (by simpa using hi),J5 (by rw[e1];omega)];rfl
 have e1:((List.replicate m zs).flatten).length=m*s:=by simp[hzl]
 have hzv:(zeroValue e).run P w= .ok z w:=by simp[zeroValue,typeInfo,hi,hz]
 have hsz':=Bo (P:=P) he.size w;have hti:(typeInfo e).run P w= .ok ti w:=by simp[typeInfo,hi]
 have Av6:∀b:Nat,(askRoom b).run P w= .ok () w:=λb=>by unfold askRoom;split<;>rfl
 have hrun:(newRow e ((List.replicate m zs).flatten).toArray).run P w= .ok ⟨w.heap.size,0,none⟩ (Hv w (.cells ((List.replicate m zs).flatten).toArray e)):=rfl;refine .val rfl rfl hd (v:= .slice (some ⟨w.heap.size,0,none⟩) m m) (w':=Hv w (.cells ((List.replicate m zs).flatten).toArray e)) ?_ (h _ _ _ _ (hs.xM _ _ ⟨_,m,m,rfl,e1,E3 _,F7,F7,λb hb=>?_⟩))
 ·have c1:(decide ((m:Int)<0)||decide ((ti.bytes:Int)*m>2^48))=false:=by
   have h3:(ti.bytes:Int)*m<=70368744177664:=by
    have h:=Int.ofNat_le.2 hmb;rw[Int.natCast_mul,SL]at h;exact h
   have h4:¬((m:Int)<0):=F3
   have h5:¬((ti.bytes:Int)*m>2^48):=by
    have:(2:Int)^48=281474976710656:=rfl;rw[this];omega
   rw[l! h4,l! h5];rfl
  simp only[execOp,Instr.makeSlice,hl,hc,iv,GI.toZ,E5,C4 ht,E4,asInt,asIntOf,E8,hti,hw,c1];simp only[Bool.false_or,mR,N0,C9,H8];rw[C1 F7];simp only[E5,Av6,E4,hsz',H'];split
  ·rename_i h0;simp only[E5,E8,E4,hcells #[] (.inr h0),hrun]
  ·simp only[E5,E8,hzv,E4,hzs,hcells zs.toArray (.inl rfl),hrun]
 ·cases hb;exact⟨_,(0,0),rfl,Rp _ _,by simpa using e1, .inl rfl,λi hi=>by simp⟩
end Go.Lv
namespace Go.Lv
variable{op:Op}{pos:String}{ty:TypeId}{v:Value}
variable {P:Program} {n:Nat} {ops:Array Oper} {σ:Env} {w:World}
section
variable {Q:Exit->Act->World->Prop} {md:Region.Mode} {S:World->Prop} {T:Nat->Bool}
def XL(P:Program)(md:Region.Mode)(ops:Array Oper)(Q:Exit->Act->World->Prop)(S:World->Prop)(T:Nat->Bool):Nat->Array Bool->Act->World->Prop
 |0,listed,a,w=>Region.ready md ops listed=[]/\Q .normal a w
 |fuel+1,listed,a,w=>
  (Region.ready md ops listed=[]->Q .normal a w)/\
  ∀i∈Region.ready md ops listed,wpOp P ops Q i (λa' w'=>(T i=true->S w')/\XL P md ops Q S T fuel (listed.setIfInBounds i true) a' w') a w
theorem P2:∀(fuel:Nat) (listed:Array Bool) (a:Act) (w:World),XL P md ops Q S T fuel listed a w->wpAny P md ops Q fuel listed a w
 |0,_,_,_,h=>h
 |fuel+1,_,_,_,h=>⟨h.1,λi hi=>wpOp_mono (λa' w' h'=>P2 fuel _ a' w' h'.2) (h.2 i hi)⟩
def oo(md:Region.Mode)(ops:Array Oper)(listed:Array Bool)(i j:Nat)(acc:List Nat):Bool:=
 !(listed.getD j true)&&(!(Nat.beq j i)&&(match ops[j]? with
  |some oj=>oj.after.any λe=>Region.binds md e&&(Nat.beq e.on i||acc.any (Nat.beq e.on))
  |none=>false))
def E? (md:Region.Mode)(ops:Array Oper)(listed:Array Bool)(i:Nat)(k:List Nat->Bool):List Nat->List Nat->Bool
 |[],acc=>k acc
 |j::js,acc=>bif oo md ops listed i j acc then E? md ops listed i k js (j::acc)else E? md ops listed i k js acc
def Blk(md:Region.Mode)(ops:Array Oper)(listed:Array Bool)(i:Nat)(B:List Nat):Prop:=
 ∀j∈B,listed.getD j true=false/\∃oj,ops[j]? =some oj/\∃e∈oj.after,Region.binds md e=true/\ (e.on=i\/e.on∈B)
theorem k? {listed:Array Bool}{i:Nat}{k:List Nat->Bool}:∀(js acc:List Nat),Blk md ops listed i acc->E? md ops listed i k js acc=true->∃B,Blk md ops listed i B/\k B=true
 |[],acc,h,hk=>⟨acc,h,hk⟩
 |j::js,acc,h,hk=>by
  unfold E? at hk;cases hc:oo md ops listed i j acc with
  |false=>rw[hc]at hk;exact k? js acc h hk
  |true=>
   rw[hc]at hk;refine k? js _ ?_ hk;unfold oo at hc;simp only[B_,C6]at hc;obtain⟨h1,h2,h3⟩:=hc;intro m hm;have hmon:∀{e:Edge},(e.on=i\/e.on∈acc)-> (e.on=i\/e.on∈j::acc):=λh=>h.imp id (λh=>H! _ h);rcases List.mem_cons.1 hm with rfl|hm
   ·refine⟨h1,?_⟩;cases ho:ops[m]? with
    |none=>rw[ho]at h3;cases h3
    |some oj=>
     rw[ho]at h3;obtain⟨e,he,hb⟩:=Array.any_eq_true'.1 h3;simp only[B_,C7,List.any_eq_true]at hb;refine⟨oj,rfl,e,he,hb.1,hmon (hb.2.imp G6 ?_)⟩;rintro⟨y,hy,he⟩;rw[G6 he];exact hy
   ·obtain⟨h4,oj,h5,e,he,hb,hx⟩:=h m hm;exact⟨h4,oj,h5,e,he,hb,hmon hx⟩
theorem Blk.Ai8{listed:Array Bool}{i j:Nat}{B:List Nat}(h:Blk md ops listed i B)(hi:listed.getD i true=false)(hj:j∈Region.ready md ops listed):j∉B:=λhm=>by
 obtain⟨hjun,oj,hoj,hall⟩:=mem_ready.1 hj;obtain⟨_,oj',hoj',e,he,hb,hx⟩:=h j hm;rw[hoj]at hoj';cases hoj';have h0:listed.getD e.on true=false:=by
  rcases hx with hx|hx
  ·rw[hx];exact hi
  ·exact(h _ hx).1
 have h1:=hall e he hb;rcases I4 e.on listed.size with h'|h'
 ·simp[h']at h0 h1;rw[h0]at h1;cases h1
 ·simp[US h']at h1
theorem YO{i:Nat}{oi:Oper}{B:List Nat}(hi:ops[i]? =some oi)(hsel:∀(j:Nat) (o:Oper) cs b,ops[j]? =some o->o.op≠ .select cs b)
  (hQ:∀c a w,Q (.panic c) (a.put oi.dst v) w->Q (.panic c) a w):
  ∀(fuel:Nat) (listed:Array Bool) (a:Act) (w:World),Blk md ops listed i B->
   (∀j,j<ops.size->T j=false->j≠i->listed.getD j true=false->j∈B)->
   (∀j oj,ops[j]? =some oj->j≠i->listed.getD j true=false->j∉B->oi.apart ops oj=true)->
   i∈Region.ready md ops listed->YieldsIf P ops S oi v a->S w->
   XL P md ops Q S T fuel (listed.setIfInBounds i true) (a.put oi.dst v) w->XL P md ops Q S T (fuel+1) listed a w:=by
 intro fuel
 induction fuel with
 |zero=>
  intro listed a w _ _ _ hr hy hS H;refine⟨λh=>(by rw[h]at hr;cases hr),λj hj=>?_⟩;by_cases hji:j=i
  ·subst hji;exact hy.wpOp hi hS ⟨λ_=>hS,H⟩
  ·have:=ready_mono hj hji;rw[H.1]at this;cases this
 |succ fuel ih=>
  intro listed a w hblk hT hfree hr hy hS H;refine⟨λh=>(by rw[h]at hr;cases hr),λj hj=>?_⟩;by_cases hji:j=i
  ·subst hji;exact hy.wpOp hi hS ⟨λ_=>hS,H⟩
  ·have h1:=H.2 j (ready_mono hj hji);obtain⟨hjun,oj,hoj,hall⟩:=mem_ready.1 hj;have hjB:=hblk.Ai8 (mem_ready.1 hr).1 hj;have hjT:T j=true:=by
    cases h:T j with
    |true=>rfl
    |false=>exact absurd (hT j (Array.getElem?_eq_some_iff.1 hoj).1 h hji hjun) hjB
   have h2:=wpOp_putIf hoj (hfree j oj hoj hji hjun hjB) (λcs b=>hsel i oi cs b hi) (λcs b=>hsel j oj cs b hoj) hQ hy h1;have hmono:∀k,(listed.setIfInBounds j true).getD k true=false->listed.getD k true=false:=λk hun=>by
    by_cases hjk:j=k
    ·subst hjk;exact hjun
    ·rw[getD_set_ne true hjk]at hun;exact hun
   have hblk':Blk md ops (listed.setIfInBounds j true) i B:=λk hk=>by
    refine⟨?_,(hblk k hk).2⟩;have hjk:j≠k:=λh=>hjB (by rw[h];exact hk);rw[getD_set_ne true hjk];exact(hblk k hk).1
   refine wpOp_mono (λa' w' h3=>⟨h3.2.1,ih (listed.setIfInBounds j true) a' w' hblk' (λk hk h hki hun=>hT k hk h hki (hmono k hun)) (λk ok hk hki hun hno=>hfree k ok hk hki (hmono k hun) hno) (ready_mono hr (G? hji)) h3.1 (h3.2.1 hjT) ?_⟩) h2;rw[Array.setIfInBounds_comm _ _ hji];exact h3.2.2
def pD(ops:Array Oper)(T:Nat->Bool)(listed:Array Bool)(i:Nat)(oi:Oper)(B:List Nat):Bool:=
 (List.range ops.size).all λj=>listed.getD j true||(Nat.beq j i||(B.any (Nat.beq j)||(T j&&match ops[j]? with
  |some oj=>oi.apart ops oj
  |none=>true)))
theorem Yg{listed:Array Bool}{i:Nat}{oi:Oper}{B:List Nat}(h:pD ops T listed i oi B=true):
  (∀j,j<ops.size->T j=false->j≠i->listed.getD j true=false->j∈B)/\
  (∀j oj,ops[j]? =some oj->j≠i->listed.getD j true=false->j∉B->oi.apart ops oj=true):=by
 unfold pD at h;simp only[N4,T!,C7,B_,List.any_eq_true]at h;refine⟨λj hj hT hji hun=>?_,λj oj hoj hji hun hno=>?_⟩
 ·rcases h j hj with h1|h1|⟨y,hy,h1⟩|h1
  ·rw[hun]at h1;cases h1
  ·exact absurd (G6 h1) hji
  ·rw[G6 h1];exact hy
  ·have h2:=h1.1;rw[hT]at h2;cases h2
 ·rcases h j (Array.getElem?_eq_some_iff.1 hoj).1 with h1|h1|⟨y,hy,h1⟩|h1
  ·rw[hun]at h1;cases h1
  ·exact absurd (G6 h1) hji
  ·exact absurd (by rw[G6 h1];exact hy) hno
  ·have h2:=h1.2;rw[hoj]at h2;exact h2
end
def WD(P:Program)(n:Nat)(ops:Array Oper)(S:World->Prop)(T:Nat->Bool)(fuel:Nat)(listed:Array Bool)(K:Env->World->Prop)(σ:Env)(w:World):Prop:=
 ∀(ds:List Deferred) (a:Act),Fits ds n a σ->XL P .any ops (λe a' w'=>e=Exit.normal/\∃σ',Fits ds n a' σ'/\K σ' w') S T fuel listed a w
variable {Q:Exit->Env->World->Prop} {K:Env->World->Prop} {S:World->Prop} {T:Nat->Bool} {fuel:Nat} {listed:Array Bool}
theorem W.Ao7{id:Nat}(hd:gO ops.toList=true)(hm:P.follows .mixedOrders=true)(S:World->Prop)(T:Nat->Bool)
  (h:∀w',w'.heap=w.heap->Gr w w'->WD P n ops S T ops.size (Array.replicate ops.size false) (λσ' w'=>Q .normal σ' w') σ w'):W P n (.region id ops true) Q σ w:=by
 intro ro m ds a ha;refine G2 (wpIn_region_any hm (nW (Z:=λa' w'=>∃σ',Fits ds n a' σ'/\Q .normal σ' w') (qE hd) (P2 (S:=S) (T:=T) _ _ _ _ (h {w with drawn:=w.drawn+1} rfl ⟨E3 _,rfl,rfl,rfl⟩ ds a ha)))) ?_;rintro e a' w' ⟨rfl,h⟩;exact h
def Fg(ops:Array Oper)(T:Nat->Bool)(listed:Array Bool)(i:Nat):Bool:=
 Region.noSelect ops&&((Region.ready .any ops listed).contains i&&match ops[i]? with
  |some oi=>E? .any ops listed i (pD ops T listed i oi) (List.range ops.size) []
  |none=>false)
theorem oH{i:Nat}{oi:Oper}(hi:ops[i]? =some oi)(hB:Fg ops T listed i=true):∃B,Blk .any ops listed i B/\pD ops T listed i oi B=true:=by
 simp only[Fg,B_,hi]at hB;exact k? _ _ (λj hj=>by cases hj) hB.2.2
theorem WD.take{o:Oper}{d:Nat}(i:Nat)(hi:ops[i]? =some o)(hB:Fg ops T listed i=true)(hd:o.dst=some d)(hdn:Nat.blt d n=true)(hg:o.guard=none)
  (hS:S w) (hx:∀w',S w'-> (execOp (ev σ) o).run P w'= .ok (.value v) w') (h:WD P n ops S T fuel (listed.setIfInBounds i true) K (Lq σ d v) w):WD P n ops S T (fuel+1) listed K σ w:=by
 intro ds a ha;obtain⟨B,hblk,hcl⟩:=oH hi hB;simp only[Fg,B_]at hB;refine YO (v:=v) hi (kN hB.1) (λc a w h=>absurd h.1 F7) fuel listed a w hblk (Yg hcl).1 (Yg hcl).2 (by simpa using hB.2.1) (.inl ⟨by simp[Region.wanted,hg],λw' hw'=>by rw[ha.eval];exact hx w' hw'⟩) hS ?_;rw[hd];exact h _ _ (ha.put hdn v)
theorem WD.x{d:Nat}{after:Array Edge}(i:Nat)(hi:ops[i]? =some ⟨some d,op,ty,pos,after,none⟩)(hB:Fg ops T listed i=true)(hdn:Nat.blt d n=true)
  (hS:S w) (hx:∀w',S w'->XO P σ w' op v) (h:WD P n ops S T fuel (listed.setIfInBounds i true) K (Lq σ d v) w):WD P n ops S T (fuel+1) listed K σ w:=
 WD.take i hi hB rfl hdn rfl hS (λw' hw'=>hx w' hw' _ _ _ _ _) h
theorem WD.gx{d j t:Nat}{after:Array Edge}{want b:Bool}(i:Nat)(hi:ops[i]? =some ⟨some d,op,ty,pos,after,some (j,want)⟩)(hB:Fg ops T listed i=true)(hdn:Nat.blt d n=true)
  (hj:(ops[j]?).bind (·.dst)=some t) (hb:σ t= .bool b) (hS:S w) (hx:(b==want)=true->∀w',S w'->XO P σ w' op v)
  (h:WD P n ops S T fuel (listed.setIfInBounds i true) K (Lq σ d (gv b want v)) w):WD P n ops S T (fuel+1) listed K σ w:=by
 intro ds a ha;obtain⟨B,hblk,hcl⟩:=oH hi hB;simp only[Fg,B_]at hB;refine YO (v:=gv b want v) hi (kN hB.1) (λc a w h=>absurd h.1 F7) fuel listed a w hblk (Yg hcl).1 (Yg hcl).2 (by simpa using hB.2.1) ?_ hS (h _ _ (ha.put hdn _));by_cases hbw:(b==want)=true
 ·refine .inl ⟨?_,λw' hw'=>?_⟩
  ·simp only[Region.wanted,MB ha hj hb];cases b<;>cases want<;>simp_all
  ·rw[Q5 hbw,ha.eval];exact hx hbw w' hw' _ _ _ _ _
 ·refine .inr ⟨?_,?_⟩
  ·simp only[Region.wanted,MB ha hj hb];cases b<;>cases want<;>simp_all
  ·unfold gv;rw[C1 hbw]
theorem WD.step(i:Nat){o:Oper}(hi:ops[i]? =some o)(hr:Region.ready .any ops listed=[i])
  (h:WL P n ops [o] (λσ' w'=>(T i=true->S w')/\WD P n ops S T fuel (listed.setIfInBounds i true) K σ' w') σ w):WD P n ops S T (fuel+1) listed K σ w:=by
 intro ds a ha;refine⟨λh0=>absurd (hr▸h0) F7,λj hj=>?_⟩;rw[hr]at hj;have hji:j=i:=by simpa using hj
 subst hji;have h1:=h ds a ha;simp only[wpList]at h1;unfold wpOp;simp only[hi];split
 ·rename_i hw;rw[BA hw]at h1;rcases h1 with h1|⟨_,_,_,hh,_⟩
  ·exact .inl (Oper.YW h1 (λa' w' h=>by obtain⟨_,σ',hf,h2,h3⟩:=h;exact⟨h2,h3 ds a' hf⟩))
  ·exact absurd hh F7
 ·rename_i hw;rw[C1 hw]at h1;obtain⟨_,σ',hf,h2,h3⟩:=h1;exact⟨h2,h3 _ _ hf⟩
theorem WD.done(hr:Region.ready .any ops listed=[])(h:K σ w):WD P n ops S T fuel listed K σ w:=by
 intro ds a ha;cases fuel with
 |zero=>exact⟨hr,rfl,σ,ha,h⟩
 |succ f=>exact⟨λ_=>⟨rfl,σ,ha,h⟩,by rw[hr];intro i hi;cases hi⟩
theorem lM{md:Region.Mode}{Q:Exit->Act->World->Prop}{S S':World->Prop}{T:Nat->Bool}(h:∀w,S' w->S w):∀(fuel:Nat) (listed:Array Bool) (a:Act) (w:World),XL P md ops Q S' T fuel listed a w->XL P md ops Q S T fuel listed a w
 |0,_,_,_,h1=>h1
 |fuel+1,_,_,_,h1=>⟨h1.1,λi hi=>wpOp_mono (λa' w' h'=>⟨λht=>h _ (h'.1 ht),lM h fuel _ a' w' h'.2⟩) (h1.2 i hi)⟩
theorem WD.steps{is:List Nat}(hr:Region.ready .any ops listed=is)(hne:is.isEmpty=false)
  (h:∀i∈is,∃o,ops[i]? =some o/\WL P n ops [o] (λσ' w'=>(T i=true->S w')/\WD P n ops S T fuel (listed.setIfInBounds i true) K σ' w') σ w):WD P n ops S T (fuel+1) listed K σ w:=by
 intro ds a ha;refine⟨λh0=>absurd (hr▸h0) (by intro h;rw[h]at hne;cases hne),λj hj=>?_⟩;rw[hr]at hj;obtain⟨o,hi,h⟩:=h j hj;have h1:=h ds a ha;simp only[wpList]at h1;unfold wpOp;simp only[hi];split
 ·rename_i hw;rw[BA hw]at h1;rcases h1 with h1|⟨_,_,_,hh,_⟩
  ·exact .inl (Oper.YW h1 (λa' w' h=>by obtain⟨_,σ',hf,h2,h3⟩:=h;exact⟨h2,h3 ds a' hf⟩))
  ·exact absurd hh F7
 ·rename_i hw;rw[C1 hw]at h1;obtain⟨_,σ',hf,h2,h3⟩:=h1;exact⟨h2,h3 _ _ hf⟩
theorem A8{md:Region.Mode}{Q:Exit->Act->World->Prop}{S S':World->Prop}{T T':Nat->Bool}:∀(fuel:Nat) (listed:Array Bool) (a:Act) (w:World),(∀i,listed.getD i true=false->T i=false)->XL P md ops Q S' T' fuel listed a w->XL P md ops Q S T fuel listed a w
 |0,_,_,_,_,h=>h
 |fuel+1,listed,a,w,h1,h=>⟨h.1,λi hi=>wpOp_mono (λa' w' h'=>⟨λhlt=>absurd (h1 i (mem_ready.1 hi).1) (by rw[hlt];decide),A8 fuel _ a' w' (λj hj=>h1 j (by
   by_cases hji:j=i
   ·subst hji;exact(mem_ready.1 hi).1
   ·rw[getD_set_ne true (G? hji)]at hj;exact hj)) h'.2⟩) (h.2 i hi)⟩
def KI(T:Nat->Bool)(listed:Array Bool):Bool:=(List.range listed.size).all λi=>!T i||listed.getD i false
theorem WD.next{S':World->Prop}(T':Nat->Bool)(hB:KI T listed=true)(h:WD P n ops S' T' fuel listed K σ w):WD P n ops S T fuel listed K σ w:=by
 intro ds a ha;refine A8 (S':=S') (T':=T') fuel listed a w (λi hi=>?_) (h ds a ha);simp only[KI,N4,T!,C7]at hB;rcases I4 i listed.size with h'|h'
 ·rcases hB i h' with h2|h2
  ·simpa using h2
  ·rw[H9]at hi h2;simp[h']at hi h2;rw[h2]at hi;cases hi
 ·rw[H9,US h']at hi;simp at hi
theorem WD.Z3{S':World->Prop}(h:∀w,S' w->S w)(h1:WD P n ops S' T fuel listed K σ w):WD P n ops S T fuel listed K σ w:=
 λds a ha=>lM h fuel listed a w (h1 ds a ha)
end Go.Lv
namespace Go.Lv
variable{i:Int}
variable {P:Program} {n:Nat} {ops:Array Oper} {rest:List Oper} {K:Env->World->Prop} {Q:Exit->Env->World->Prop} {σ:Env} {w:World}
variable {d:Nat} {ty:TypeId} {pos:String} {after:Array Edge} {A:Reg} {F:List Fact} {L:List Mob}
theorem bind_some{α β:Type}{o:Option α}{f:α->Option β}{y:β}(h:Option.bind o f=some y):∃x,o=some x/\f x=some y:=by
 cases o with
 |none=>cases h
 |some x=>exact⟨x,rfl,h⟩
theorem Hw{α:Type}{l:List α}{x:α}(h:Ae l i=some x):i=(i.toNat:Int)/\i.toNat<l.length/\l[i.toNat]? =some x:=by
 unfold Ae at h;split at h
 ·exact⟨F3,(List.getElem?_eq_some_iff.1 h).1,h⟩
 ·cases h
theorem TY{α:Type}{l l':List α}{x:α}(h:Mh l i x=some l'):i=(i.toNat:Int)/\i.toNat<l.length/\l'=l.set i.toNat x:=by
 unfold Mh at h;split at h
 ·cases h;exact⟨F3,F3,rfl⟩
 ·cases h
theorem IE{α:Type}{l x:List α}{lo hi:Int}(h:Bi l lo hi=some x):lo=(lo.toNat:Int)/\hi=(hi.toNat:Int)/\lo.toNat<=hi.toNat/\hi.toNat<=l.length/\x=(l.take hi.toNat).drop lo.toNat:=by
 unfold Bi at h;split at h
 ·cases h;exact⟨F3,F3,F3,F3,rfl⟩
 ·cases h
theorem wC{α:Type}{l m x:List α}(h:Ay l m=some x):l.length+m.length<=pN/\x=l++m:=by
 unfold Ay at h;split at h
 ·cases h;exact⟨by assumption,rfl⟩
 ·cases h
theorem oU{α:Type}{z:α}{x:List α}(h:mkI i z=some x):i=(i.toNat:Int)/\i.toNat<=pN/\x=List.replicate i.toNat z:=by
 unfold mkI at h;split at h
 ·rename_i hi;cases h;exact⟨F3,F3,rfl⟩
 ·cases h
theorem Sj{b:Bool}{u:Unit}(h:Es b=some u):b=true:=by
 unfold Es at h;split at h
 ·assumption
 ·cases h
theorem St.noF(hs:St A w F L):St A w [] L:=⟨hs.lt,(λ_ h=>by cases h),hs.mobs⟩
theorem St.as(hs:St A w F L){F':List Fact}{L':List Mob}(hF:F=F')(hL:L=L'):St A w F' L':=hF▸hL▸hs
section
variable {T:Type} {k:IntKind} [GI T k]
theorem Aoa(l:List T):(BH l).all (·.oneCell')=true:=by simp[BH,Value.oneCell']
end
theorem Rd.any{R:Reg}{s:Nat}{v:Value}{cs:List Value}(h:Rd R w s v cs):Rd (λ_=>True) w s v cs:=h.step (λ_ _=>trivial) (λ_ _=>rfl)
end Go.Lv
namespace Go
theorem F4{p:Prop}(h:p:=by decide):p:=h
end Go
namespace Go.Lv
variable{a m:Int}
variable {P:Program} {n:Nat} {ops:Array Oper} {rest:List Oper} {K:Env->World->Prop} {Q:Exit->Env->World->Prop} {σ:Env} {w:World}
variable {d:Nat} {ty:TypeId} {pos:String} {after:Array Edge} {A:Reg} {F:List Fact} {L:List Mob}
theorem Ho.mk{t:TypeId}{s:Nat}(h:(P.info? t).map (·.size)=some s):Ho P t s:=by
 cases hu:P.info? t with
 |none=>rw[hu]at h;cases h
 |some u=>rw[hu]at h;exact⟨u,hu,by simpa using h⟩
theorem Av8.mk{t:TypeId}{z:Value}(h:(P.info? t).bind (·.zero)=some z):∃i,P.info? t=some i/\i.zero=some z:=by
 cases hu:P.info? t with
 |none=>rw[hu]at h;cases h
 |some u=>rw[hu]at h;exact⟨u,rfl,h⟩
def fieldInfo(P:Program)(t:TypeId)(f:Nat):Option (Nat×Nat):=
 match P.underlying t with
 |some (.struct fs)=>(fs[f]?).bind λfd=>(P.info? fd.type).map λi=>(fd.offset,i.size)
 |_=>none
theorem jM.mk{t:TypeId}{f k s:Nat}(h:fieldInfo P t f=some (k,s))(hs:s≠0):jM P t f k:=by
 unfold fieldInfo at h;split at h
 ·rename_i fs hu;cases hf:fs[f]? with
  |none=>rw[hf]at h;cases h
  |some fd=>
   rw[hf]at h;simp at h;obtain⟨i,hi,h1,h2⟩:=h;exact⟨fs,fd,i,hu,hf,h1,hi,F3⟩
 ·cases h
theorem PC.cell{a:Tmp}{t T:TypeId}{i b off:Nat}{cells:List Value}{v:Value}(hs:St A w F L)(hL:L[i]? =some (.box b cells T))(ht:Plain P t)
  (hx:σ a= .pointer (some ⟨b,off,none⟩)) (hv:cells[off]? =some v):PC P σ w (.cell a t) v:=by
 obtain⟨u,hu,hp⟩:=ht;have hc:w.cell? ⟨b,off,none⟩=some v:=by rw[cell_of (hs.box hL)];simpa using hv
 exact⟨_,hx,by simp only[loadVar,E5,El hu hp,E4,C9,H8,EE hc]⟩
theorem PC.cells{a:Tmp}{t T:TypeId}{i b off s:Nat}{cells vs:List Value}(hs:St A w F L)(hL:L[i]? =some (.box b cells T))(ht:gM P t)(hsz:Ho P t s)
  (hx:σ a= .pointer (some ⟨b,off,none⟩)) (hv:(cells.drop off).take s=vs) (hl:vs.length=s):PC P σ w (.cell a t) (.agg vs.toArray):=by
 obtain⟨u,hu,hp⟩:=ht;have hc:=Kl (P:=P) (w:=w) (b:=b) (off:=off) vs (λj hj=>by
  rw[cell_of (hs.box hL)];subst hv;rw[C5]at hj;simp[H7,J6];omega)
 rw[hl]at hc;exact⟨_,hx,by simp only[loadVar,E5,El hu hp,E4,I7,Bo hsz,hc,E8]⟩
theorem St.Ak7(hs:St A w F L){w':World}(h:w'.heap=w.heap)(hg:Gr w w'):St A w' F L:=
 hs.keep ⟨λb _=>by rw[h],hg⟩
theorem YS{b want:Bool}{v:Value}(h:(b==want)=false):gv b want v=undef:=by unfold gv;rw[C1 (by rw[h];decide)]
theorem wrap_u8{n:Int}(h:0<=n)(h':n<256):IntKind.u8.wrap n=n:=by
 simp only[IntKind.wrap,IntKind.bits,IntKind.signed,QT,C9,H8];exact kU h h'
theorem wrap_u32{n:Int}(h:0<=n)(h':n<4294967296):IntKind.u32.wrap n=n:=by
 simp only[IntKind.wrap,IntKind.bits,IntKind.signed,QT,C9,H8];exact kU h h'
theorem wrap_u64{n:Int}(h:0<=n)(h':n<18446744073709551616):IntKind.u64.wrap n=n:=by
 simp only[IntKind.wrap,IntKind.bits,IntKind.signed,QT,C9,H8];exact kU h h'
theorem Bin.Aqg{t:TypeId}(a b:Int)(h:GI.toZ b≠0):Iz P .rem t (iv a) (iv b) (iv (Jb a b)):=λ_ _ w=>by
 have h':b≠0:=h;simp[eqGuard,binOp,Op.intDiv,Jb,iv,GI.toZ,h']
theorem o? {b:Int}(ha:0<=a)(h:a<m):0<=a.tmod b/\a.tmod b<m:=by
 have h1:=Int.tmod_nonneg b ha;have h2:=Int.natAbs_tmod a b;have h3:=Nat.mod_le a.natAbs b.natAbs;omega
theorem Bin.Ar8{t:TypeId}(a b:UInt8)(h:GI.toZ b≠0):Iz P .rem t (iv a) (iv b) (iv (V? a b)):=λ_ _ w=>by
 have h1:(0:Int)<=GI.toZ a:=N' _;have h2:(GI.toZ a:Int)<256:=by have:=a.toNat_lt;show((a.toNat:Nat):Int)<256;omega
 obtain⟨h3,h4⟩:=o? (b:=GI.toZ b) h1 h2;simp[eqGuard,binOp,Op.intDiv,V?,<-Pp,h,wrap_u8 h3 h4]
theorem Bin.Api{t:TypeId}(a b:UInt32)(h:GI.toZ b≠0):Iz P .rem t (iv a) (iv b) (iv (V? a b)):=λ_ _ w=>by
 have h1:(0:Int)<=GI.toZ a:=N' _;have h2:(GI.toZ a:Int)<4294967296:=by have:=a.toNat_lt;show((a.toNat:Nat):Int)<4294967296;omega
 obtain⟨h3,h4⟩:=o? (b:=GI.toZ b) h1 h2;simp[eqGuard,binOp,Op.intDiv,V?,<-Pp,h,wrap_u32 h3 h4]
theorem Bin.Am2{t:TypeId}(a b:UInt64)(h:GI.toZ b≠0):Iz P .rem t (iv a) (iv b) (iv (V? a b)):=λ_ _ w=>by
 have h1:(0:Int)<=GI.toZ a:=N' _;have h2:(GI.toZ a:Int)<18446744073709551616:=by have:=a.toNat_lt;show((a.toNat:Nat):Int)<18446744073709551616;omega
 obtain⟨h3,h4⟩:=o? (b:=GI.toZ b) h1 h2;simp[eqGuard,binOp,Op.intDiv,V?,<-Pp,h,wrap_u64 h3 h4]
section
variable {T':Type} {k':IntKind} [GI T' k']
theorem Bin.An4{t:TypeId}(a:Int)(b:T')(h:0<=GI.toZ b):Iz P .shr t (iv a) (iv b) (iv (I' a (GI.toZ b).toNat)):=λ_ _ w=>by
 have:¬GI.toZ b<0:=F3
 simp[eqGuard,binOp,Op.shift,I',iv,GI.toZ,this,IntKind.bits]
theorem t!{q:Nat}(ha:0<=a)(h:a<m):0<=a.fdiv (2^q)/\a.fdiv (2^q)<m:=by
 have hp:(0:Int)<2^q:=WN F4;rw[S2 _ F3];have h1:=QJ ha (Int.le_of_lt hp);have h2:=SO (2^q) ha;omega
theorem Bin.Asv{t:TypeId}(a:UInt8)(b:T')(h:0<=GI.toZ b):Iz P .shr t (iv a) (iv b) (iv (Da a (GI.toZ b).toNat)):=by
 have h1:(0:Int)<=GI.toZ a:=N' _;have h2:(GI.toZ a:Int)<256:=by have:=a.toNat_lt;show((a.toNat:Nat):Int)<256;omega
 obtain⟨h3,h4⟩:=t! (q:=min (GI.toZ b).toNat IntKind.u8.bits) h1 h2;exact Bin.shr a b h (wrap_u8 h3 h4)
theorem Bin.Anl{t:TypeId}(a:UInt32)(b:T')(h:0<=GI.toZ b):Iz P .shr t (iv a) (iv b) (iv (Da a (GI.toZ b).toNat)):=by
 have h1:(0:Int)<=GI.toZ a:=N' _;have h2:(GI.toZ a:Int)<4294967296:=by have:=a.toNat_lt;show((a.toNat:Nat):Int)<4294967296;omega
 obtain⟨h3,h4⟩:=t! (q:=min (GI.toZ b).toNat IntKind.u32.bits) h1 h2;exact Bin.shr a b h (wrap_u32 h3 h4)
theorem Bin.An7{t:TypeId}(a:UInt64)(b:T')(h:0<=GI.toZ b):Iz P .shr t (iv a) (iv b) (iv (Da a (GI.toZ b).toNat)):=by
 have h1:(0:Int)<=GI.toZ a:=N' _;have h2:(GI.toZ a:Int)<18446744073709551616:=by have:=a.toNat_lt;show((a.toNat:Nat):Int)<18446744073709551616;omega
 obtain⟨h3,h4⟩:=t! (q:=min (GI.toZ b).toNat IntKind.u64.bits) h1 h2;exact Bin.shr a b h (wrap_u64 h3 h4)
theorem wrap_i32{n:Int}(h: -2147483648<=n)(h':n<2147483648):IntKind.i32.wrap n=n:=by
 simp only[IntKind.wrap,IntKind.bits,IntKind.signed,I6];change (if decide (n %4294967296>=2147483648)=true then n %4294967296-4294967296 else n %4294967296)=n;by_cases hn:n %4294967296>=2147483648
 ·rw[BA (by simpa using hn)];omega
 ·rw[C1 (by simpa using hn)];omega
theorem Anc{q:Nat}(h0: -m<=a)(h:a<m)(hm:0<m): -m<=a.fdiv (2^q)/\a.fdiv (2^q)<m:=by
 have hp:(0:Int)<2^q:=WN F4;rw[S2 _ F3];generalize(2:Int)^q=p at hp;refine⟨?_,?_⟩
 ·rw[Int.le_ediv_iff_mul_le hp];have:m*1<=m*p:=xU F3 F3;rw[Int.neg_mul];omega
 ·rw[Int.ediv_lt_iff_lt_mul hp];have:m*1<=m*p:=xU F3 F3;omega
theorem Ah0(a:Int32): -2147483648<=GI.toZ a/\GI.toZ a<2147483648:=by
 have h1:=a.le_toInt;have h2:=a.toInt_lt;exact⟨h1,h2⟩
theorem Bin.Aph{t:TypeId}(a:Int32)(b:T')(h:0<=GI.toZ b):Iz P .shr t (iv a) (iv b) (iv (Da a (GI.toZ b).toNat)):=by
 obtain⟨h1,h2⟩:=Ah0 a;obtain⟨h3,h4⟩:=Anc (q:=min (GI.toZ b).toNat IntKind.i32.bits) h1 h2 F4;exact Bin.shr a b h (wrap_i32 h3 h4)
end
end Go.Lv
namespace Go.Lv
variable {P:Program} {n:Nat} {ops:Array Oper} {rest:List Oper} {K:Env->World->Prop} {Q:Exit->Env->World->Prop} {σ:Env} {w:World}
variable {d:Nat} {ty:TypeId} {pos:String} {after:Array Edge} {A:Reg} {F:List Fact} {L:List Mob}
theorem aB{t e:TypeId}(hu:P.underlying t=some (.slice e))(q:Nat)(p:Option Addr)(l c:Nat)(w:World):(Op.equalIn (q+1) t (.slice p l c) (.slice none 0 0)).run P w= .ok p.isNone w:=by
 cases p<;>simp[Op.equalIn,C4 hu]
theorem Bin.Ape{t e:TypeId}(hu:P.underlying t=some (.slice e))(p:Option Addr)(l c:Nat):Iz P .eql t (.slice p l c) (.slice none 0 0) (.bool p.isNone):=λ_ _ w=>by
 have h:=aB hu 9999 p l c w;simp only[eqGuard,binOp,Op.equal,Op.maxDepth];simp[h]
theorem Bin.Am6{t e:TypeId}(hu:P.underlying t=some (.slice e))(p:Option Addr)(l c:Nat):Iz P .neq t (.slice p l c) (.slice none 0 0) (.bool p.isSome):=λ_ _ w=>by
 have h:=aB hu 9999 p l c w;simp only[eqGuard,binOp,Op.equal,Op.maxDepth];cases p<;>simp[h]
theorem Rd.pW{R:Reg}{s l c:Nat}{cs:List Value}(h:Rd R w s (.slice none l c) cs):cs=[]:=by
 obtain⟨p,len,cap,e,h2,h3,h4,_⟩:=h;cases e;have:=h4 rfl;have h5:cs.length=0:=by rw[h2,show l=0 by omega,Nat.zero_mul]
 exact List.length_eq_zero_iff.1 h5
theorem WL.Aug{x:Operand}{t e E:TypeId}{i:Nat}{v:Value}{cs:List Value}(ht:P.underlying t=some (.slice e))(he:P.underlying e=some (.int .u8))(hs:St A w F L)
  (hL:L[i]? =some (.own 1 E v cs)) (hne:0<cs.length) (hd:Nat.blt d n=true) (hx:ev σ x=v) (h:∀w',St A w' F L->WL P n ops rest K (Lq σ d v) w'):
  WL P n ops (⟨some d, .convert t t x,ty,pos,after,none⟩::rest) K σ w:=by
 have hm:=(hs.front hL).mobs;obtain⟨q,hq,h3,h4⟩:=hm;obtain⟨p,len,cap,rfl,h5,h6,h7,h8,h9⟩:=hq;have hcap:0<cap:=F3
 obtain⟨b,rfl⟩:∃b,q=some b:=by
  cases q with
  |none=>exact absurd (h7 (h8 rfl)) F3
  |some b=>exact⟨b,rfl⟩
 obtain⟨arr,fr,rfl,hb,hsz,hfz,hc⟩:=h9 b rfl;obtain⟨lo,hi⟩:=fr;have hlt:=lt_of_heap hb;have hfr:∃fr',w.freeze ⟨b,arr.size,none⟩ 1=Dn w b (.cells arr E fr')/\ (fr'.1=fr'.2\/arr.size<=fr'.1):=by
  refine⟨(if lo==hi then(arr.size,arr.size+1)else(min lo arr.size,max hi (arr.size+1))),?_,?_⟩
  ·unfold World.freeze Dn;rw[C1 F4];congr 1;apply Array.ext
   ·simp
   ·intro k h1 h2;simp only[Array.getElem_modify,Array.getElem_setIfInBounds];by_cases hk:b=k
    ·subst hk;have:w.heap[b]= .cells arr E (lo,hi):=by
      have:=xQ (xs:=w.heap) hlt;rw[hb]at this;exact(G1 this).symm
     simp[this]
    ·rw[C1 hk,Array.getElem_setIfInBounds_ne _ hk]
  ·by_cases hlh:lo=hi
   ·simp[hlh]
   ·rw[C1 (by simpa using hlh)];rcases hfz with h|h
    ·exact absurd h hlh
    ·right;simp at h⊢;omega
 obtain⟨fr',hfr,hfz'⟩:=hfr;have hsh:w.shape? b=some (E,arr.size):=by simp[World.shape?,hb]
 have hs':St A (Dn w b (.cells arr E fr')) F L:=by
  have h10:St A (Dn w b (.cells arr E fr')) F (L.set i (.own 1 E (.slice (some ⟨b,0,none⟩) len cap) cs)):=
   hs.eH hL ⟨some ⟨b,0,none⟩,len,cap,rfl,h5,h6,h7,h8,λc hc'=>by cases hc';exact⟨arr,(lo,hi),rfl,hb,hsz,hfz,hc⟩⟩
    ⟨some ⟨b,0,none⟩,len,cap,rfl,h5,h6,h7,(λh=>by cases h),λc hc'=>by cases hc';exact⟨arr,fr',rfl,by simp[Dn,hlt],hsz,hfz',hc⟩⟩
    (λ_=>⟨some b,⟨some ⟨b,0,none⟩,len,cap,rfl,h5,h6,h7,h8,λc hc'=>by cases hc';exact⟨arr,(lo,hi),rfl,hb,hsz,hfz,hc⟩⟩,h3,h4,rfl⟩)
  have h11:L.set i (.own 1 E (.slice (some ⟨b,0,none⟩) len cap) cs)=L:=by
   apply QZ;intro k;rw[List.getElem?_set];by_cases hik:i=k
   ·subst hik;rw[BA rfl];have hlt:=(List.getElem?_eq_some_iff.1 hL).1;rw[BA hlt,hL]
   ·rw[C1 hik]
  rw[h11]at h10;exact h10
 refine .val rfl rfl hd (v:= .slice (some ⟨b,0,none⟩) len cap) (w':=Dn w b (.cells arr E fr')) ?_ (h _ hs');simp[execOp,hx,convert,C4 ht,C4 he,markStringish,hsh,hfr]
end Go.Lv
namespace Go.Lv
variable {P:Program} {n:Nat} {ops:Array Oper} {rest:List Oper} {K:Env->World->Prop} {Q:Exit->Env->World->Prop} {σ:Env} {w:World}
variable {d:Nat} {ty:TypeId} {pos:String} {after:Array Edge} {A:Reg} {F:List Fact} {L:List Mob}
def LA(P:Program)(t:TypeId):Option (List (Nat×Option Nat)×Option (Option (Array Value))):=
 match P.underlying t with
 |some (.struct fs)=>some (fs.toList.map λf=>(f.offset,(P.info? f.type).map (·.size)),(P.info? t).map λi=>i.zero.map (·.cells))
 |_=>none
def FC(P:Program)(t:TypeId)(pl:List (Nat×Nat))(z:List Value):Prop:=
 LA P t=some (pl.map λp=>(p.1,some p.2),some (some z.toArray))
theorem FC.mk{t:TypeId}{pl:List (Nat×Nat)}{z:List Value}(h:LA P t=some (pl.map λp=>(p.1,some p.2),some (some z.toArray))):FC P t pl z:=h
theorem run_places{fs:List Field}:∀{pl:List (Nat×Nat)},(fs.map λf=>(f.offset,(P.info? f.type).map (·.size)))=(pl.map λp=>(p.1,some p.2))->
  (fs.mapM λf=>do pure (f.offset,<-sizeOf f.type):Sem (List (Nat×Nat))).run P w= .ok pl w:=by
 induction fs with
 |nil=>intro pl h;cases pl with|nil=>rfl|cons _ _=>simp at h
 |cons f fs ih=>
  intro pl h;cases pl with
  |nil=>simp at h
  |cons p pl=>
   simp only[G9,L6,I1]at h;obtain⟨⟨h1,h2⟩,h3⟩:=h;have hs:Ho P f.type p.2:=Ho.mk h2;simp only[List.mapM_cons,E5,Bo hs,E4,E8,ih h3,h1]
theorem X.build{t:TypeId}{pl:List (Nat×Nat)}{z:List Value}{parts:List (Nat×Operand)}{vs:List (Nat×Value)}{cells:List Value}(ht:FC P t pl z)
  (hp:(parts.map λp=>(p.1,ev σ p.2))=vs) (hf:Instr.fill (pl[·]?) z.toArray vs=some cells.toArray):XO P σ w (.build t parts.toArray) (.agg cells.toArray):=λ_ _ _ _ _=>by
 unfold FC LA at ht;split at ht
 ·rename_i fs hu;simp only[E6,I1]at ht;obtain⟨h1,h2⟩:=ht;have hz:∃i zv,P.info? t=some i/\i.zero=some zv/\zv.cells=z.toArray:=by
   cases hi:P.info? t with
   |none=>rw[hi]at h2;simp at h2
   |some i=>
    rw[hi]at h2;simp only[IZ,E6]at h2;cases hz:i.zero with
    |none=>rw[hz]at h2;simp at h2
    |some zv=>rw[hz]at h2;exact⟨i,zv,rfl,hz,by simpa using h2⟩
  obtain⟨i,zv,hi,hz,hzc⟩:=hz;have hr:=run_places (w:=w) h1;have hm:(fs.mapM λf=>do pure (f.offset,<-sizeOf f.type):Sem (Array (Nat×Nat))).run P w= .ok pl.toArray w:=by
   obtain⟨l⟩:=fs;rw[List.mapM_toArray];simp only[map_eq_pure_bind,E5,hr,E4,E8]
  have hf':Instr.fill (λx=>pl.toArray[x]?) z.toArray vs=some cells.toArray:=by rw[<-hf];congr 1;funext x;simp
  simp only[execOp,Instr.build,E5,zeroValue,typeInfo];have hm2:=hm;simp only[bind_pure_comp]at hm2;simp[hi,hz,hzc,C4 hu,hm2,hp,hf,hf']
 ·cases ht
theorem X.uW{t t':TypeId}{x y:Operand}{a b r:List UInt8}(hx:ev σ x=sv a)(hy:ev σ y=sv b)(h:Ay a b=some r):XO P σ w (.binOp .add t x y t') (sv r):=by
 obtain⟨h1,rfl⟩:=wC h;have hl:pN=17179869184:=F4
 exact X.bin hx hy (Bin.Aom a b F3)
theorem mY(l:List UInt8)(a b:Nat):(⟨l.toArray⟩:ByteArray).extract a b=⟨((l.take b).drop a).toArray⟩:=by
 apply ByteArray.ext;rw[ByteArray.data_extract];simp[List.drop_take]
theorem X.x!{t:TypeId}{x:Operand}{lo hi:Option Operand}{l y:List UInt8}{a b:Int}(ht:P.underlying t=some .string)(hx:ev σ x=sv l)(hc:Bi l a b=some y)
  (hlo:(∃q,lo.map (ev σ)=some (.int q a))\/ (lo=none/\a=0)) (hhi:(∃q,hi.map (ev σ)=some (.int q b))\/ (hi=none/\b=Aa l)):XO P σ w (.slice t x lo hi none) (sv y):=λ_ _ _ _ _=>by
 obtain⟨h1,h2,h3,h4,rfl⟩:=IE hc;have hsz:(⟨l.toArray⟩:ByteArray).size=l.length:=by simp[ByteArray.size]
 have hlo':(∃q,lo.map (ev σ)=some (.int q (a.toNat:Int)))\/ (lo.map (ev σ)=none/\a.toNat=0):=by
  rcases hlo with⟨q,h⟩|⟨h,h'⟩
  ·left;exact⟨q,by rw[h,<-h1]⟩
  ·right;exact⟨by rw[h];rfl,F3⟩
 have hhi':(∃q,hi.map (ev σ)=some (.int q (b.toNat:Int)))\/ (hi.map (ev σ)=none/\b.toNat=l.length):=by
  rcases hhi with⟨q,h⟩|⟨h,h'⟩
  ·left;exact⟨q,by rw[h,<-h2]⟩
  ·right;refine⟨by rw[h];rfl,?_⟩;rw[h'];simp[Aa]
 simp only[execOp,hx,Instr.sliceAt,E5,C4 ht,E4,N7];generalize lo.map (ev σ)=vlo at hlo'⊢;generalize hi.map (ev σ)=vhi at hhi'⊢;clear hlo hhi h1 h2 hc;generalize a.toNat=A at*
 generalize b.toNat=B at*
 clear a b;rcases hlo' with⟨q,rfl⟩|⟨rfl,rfl⟩<;>rcases hhi' with⟨q',rfl⟩|⟨rfl,rfl⟩<;>
  simp[Instr.slice,C4 ht,Instr.sliceBounds,Instr.sliceBound,asIntOf,hsz,mY,h3,h4]
theorem Src.string{t2:TypeId}{l:List UInt8}(ht2:P.underlying t2=some .string):Src P w t2 (sv l) 1 l.length (BH l):=by
 refine⟨⟨_,ht2, .inr rfl⟩,λ_=>by simp[Builtin.lenOf,ByteArray.size],λw2 _=>?_⟩;simp only[Builtin.firstCells,E8,mY];simp[BH,TJ]
end Go.Lv
namespace Go.Lv
section
variable (a b:UInt8)
theorem vA:GI.toZ a=(a.toNat:Int):=rfl
theorem Ar5(n:Int):(GI.ofZ n:UInt8)=UInt8.ofNat (n %256).toNat:=rfl
theorem O8(n:Nat):(GI.ofZ (n:Int):UInt8)=UInt8.ofNat n:=by
 rw[Ar5];apply UInt8.toNat_inj.1;simp only[SA];omega
theorem Aup:BitVec.ofInt (IntKind.bits .u8) (GI.toZ a)=a.toBitVec:=by
 rw[vA];apply BitVec.eq_of_toNat_eq;have:=a.toNat_lt;simp only[IntKind.bits,K8,UInt8.toNat_toBitVec];omega
theorem Ank:Dq a b=a&&&b:=by
 simp only[Dq,Aup,O8];apply UInt8.toNat_inj.1;rw[SA,UInt8.toNat_and];exact(N3 (a.toBitVec&&&b.toBitVec).isLt).trans (SQ _ _)
theorem Ap1(n:Nat):(Da a n).toNat=a.toNat/2^n:=by
 have h:(a.toNat:Int).fdiv (2^min n (IntKind.bits .u8))=((a.toNat/2^min n 8:Nat):Int):=by
  rw[S2 _ (Int.le_of_lt (WN F4))];simp[IntKind.bits]
 have hlt:=a.toNat_lt;have hle:=Nat.div_le_self a.toNat (2^min n 8);simp only[Da,vA,h,O8,SA]
 show a.toNat/2^min n 8 %256=_;rw[N3 F3];rcases WB n 8 with h|h
 ·rw[QN h]
 ·rw[SS h];rw[SZ F3,SZ];exact FH hlt (kP F4 h)
theorem Akw:(Am a:Int)=wrap64 (a.toNat:Int):=rfl
end
section
variable (a b:UInt32)
theorem Ah3:(Am a:Int)=wrap64 (a.toNat:Int):=rfl
end
section
variable (a b:UInt64)
theorem tH:GI.toZ a=(a.toNat:Int):=rfl
theorem Aoi(n:Int):(GI.ofZ n:UInt64)=UInt64.ofNat (n %18446744073709551616).toNat:=rfl
theorem EX(n:Nat):(GI.ofZ (n:Int):UInt64)=UInt64.ofNat n:=by
 rw[Aoi];apply UInt64.toNat_inj.1;simp only[S6];omega
theorem pC:Af a b=a+b:=by
 simp only[Af,tH,<-Int.natCast_add,EX];apply UInt64.toNat_inj.1;simp
theorem oq:Ch a b=a*b:=by
 simp only[Ch,tH,<-Int.natCast_mul,EX];apply UInt64.toNat_inj.1;simp
theorem Asn:BitVec.ofInt (IntKind.bits .u64) (GI.toZ a)=a.toBitVec:=by
 rw[tH];apply BitVec.eq_of_toNat_eq;have:=a.toNat_lt;simp only[IntKind.bits,K8,UInt64.toNat_toBitVec];omega
theorem Ale:Dq a b=a&&&b:=by
 simp only[Dq,Asn,EX];apply UInt64.toNat_inj.1;rw[S6,UInt64.toNat_and];exact(N3 (a.toBitVec&&&b.toBitVec).isLt).trans (SQ _ _)
theorem pZ(n:Nat):(Da a n).toNat=a.toNat/2^n:=by
 have h:(a.toNat:Int).fdiv (2^min n (IntKind.bits .u64))=((a.toNat/2^min n 64:Nat):Int):=by
  rw[S2 _ (Int.le_of_lt (WN F4))];simp[IntKind.bits]
 have hlt:=a.toNat_lt;have hle:=Nat.div_le_self a.toNat (2^min n 64);simp only[Da,tH,h,EX,S6]
 show a.toNat/2^min n 64 %18446744073709551616=_;rw[N3 F3];rcases WB n 64 with h|h
 ·rw[QN h]
 ·rw[SS h];rw[SZ F3,SZ];exact FH hlt (kP F4 h)
theorem rG:Dr a b=decide (b.toNat<a.toNat):=by simp[Dr,tH]
theorem Ahx:(Am a:Int)=wrap64 (a.toNat:Int):=rfl
end
section
variable (a b:Int)
theorem Arw:Af a b=wrap64 (a+b):=rfl
theorem Ar7:Ag a b=wrap64 (a-b):=rfl
theorem Are:Ch a b=wrap64 (a*b):=rfl
theorem Atx:geq a b=(a==b):=rfl
theorem RV:Bw a b=decide (a<b):=rfl
theorem T?:Dr a b=decide (a>b):=rfl
end
end Go.Lv
namespace Go.Lv
open Go.RowKit
theorem Fr.below{w w':World}{F:List Fact}{L:List Mob}(h:Fr w w' F L):Below w.heap.size w w':=
 ⟨h.keep.gr.os,h.keep.gr.tape,h.keep.gr.output,h.keep.gr.le,λb hb=>h.keep.same b hb⟩
end Go.Lv
namespace Go.Rx
open Go Go.Lv
variable{listed:Array Bool}{a m j x:Nat}{R:Type}
abbrev Bz.{u} {α:Sort u} (c:Bool) (a b:α):α:=match c with|true=>a|false=>b
theorem Rs.{u} {α:Sort u} (a b:α):Bz true a b=a:=rfl
theorem Qg.{u} {α:Sort u} (a b:α):Bz false a b=b:=rfl
inductive Kd|i64|u8|u32|u64|i32|i8 deriving DecidableEq
@[reducible] def Kd.T:Kd->Type| .i64=>Int| .u8=>UInt8| .u32=>UInt32| .u64=>UInt64| .i32=>Int32| .i8=>Int8
@[reducible] def Kd.k:Kd->IntKind| .i64=> .i64| .u8=> .u8| .u32=> .u32| .u64=> .u64| .i32=> .i32| .i8=> .i8
@[reducible] instance Kd.gi:(k:Kd)->GI k.T k.k
 | .i64=>inferInstanceAs (GI Int .i64)| .u8=>inferInstanceAs (GI UInt8 .u8)| .u32=>inferInstanceAs (GI UInt32 .u32)
 | .u64=>inferInstanceAs (GI UInt64 .u64)| .i32=>inferInstanceAs (GI Int32 .i32)| .i8=>inferInstanceAs (GI Int8 .i8)
def Kd.of:IntKind->Option Kd| .i64=>some .i64| .u8=>some .u8| .u32=>some .u32| .u64=>some .u64| .i32=>some .i32| .i8=>some .i8|_=>none
inductive ET|int (k:Kd)|bool|str|list (e:ET)|vec (n:Nat) (e:ET)|cons (a r:ET)|nil deriving DecidableEq
@[reducible] def ET.T:ET->Type
 | .int k=>k.T| .bool=>Bool| .str=>List UInt8| .list e=>List e.T| .vec _ e=>List e.T| .cons a r=>a.T×r.T| .nil=>Unit
def ET.size:ET->Nat
 | .int _=>1| .bool=>1| .str=>1| .list _=>1| .vec n e=>n*e.size| .cons a r=>a.size+r.size| .nil=>0
def ET.zero:(e:ET)->e.T
 | .int k=>k.gi.ofZ 0| .bool=>false| .str=>[]| .list _=>[]| .vec n e=>List.replicate n e.zero| .cons a r=>(a.zero,r.zero)| .nil=>()
def jR:Bool->Bool->Bool|true,b=>b|false,b=>!b
def Kd.isU:Kd->Bool| .u8=>true| .u32=>true| .u64=>true|_=>false
def f?:BinOp->Bool| .shl=>true| .shr=>true|_=>false
def ET.isS:ET->Bool| .cons _ _=>true| .nil=>true|_=>false
inductive Step|fld (n off:Nat)|idx (j:Int) (s:Nat)
inductive PV
 |val (e:ET) (x:e.T)
 |agg (l:List PV)
 |tup (l:List PV)
 |nils
 |own (i:Nat)
 |ptr (i:Nat) (p:List Step)
 |rptr (v:PV)
 |view (o:Bool) (i:Nat) (p:List Step) (e:ET) (lo n:Int)
 |fn (f:Nat) (caps:List PV)
 |cap (e:ET) (x:List e.T) (c:Int)
 |mp (st:Bool) (ks:List (List UInt8)) (vs:List PV)
 |bfn (f:Nat) (fs:List PV)
 |wp (i:Nat)
 |cst (v:Value)
 |gd (t:Nat) (want:Bool) (v:PV)
 |any
 |off
 |undef
abbrev PV.i(k:Kd)(x:k.T):PV:= .val (.int k) x
abbrev PV.b(b:Bool):PV:= .val .bool b
def PV.size:PV->Nat
 | .val e _=>e.size
 | .agg l=>go l
 |_=>1
where go:List PV->Nat
 |[]=>0
 |a::r=>a.size+go r
def ET.pvl:(e:ET)->e.T->List PV
 | .cons a r,(x,y)=>(Bz (a.isS) (.agg (a.pvl x))<| .val a x)::r.pvl y
 | .nil,_=>[]
 |e,x=>[.val e x]
def ET.pv(e:ET)(x:e.T):PV:=Bz (e.isS) (.agg (e.pvl x))<| .val e x
def VS(e e':ET)(x:e.T):Option e'.T:=if h:e=e' then some (h▸x)else none
def ET.wQ:(e:ET)->Option e.T| .list _=>some []|_=>none
def R9(e:ET)(rec:List PV->Option e.T):PV->Option e.T
 | .val e' x=>VS e' e x
 | .agg l=>rec l
 | .nils=>e.wQ
 |_=>none
def ET.ofl:(e:ET)->List PV->Option e.T
 | .cons a r,p::ps=>Option.bind (R9 a a.ofl p) λx=>Option.bind (r.ofl ps) λy=>some (x,y)
 | .nil,[]=>some ()
 |_,_=>none
def ET.of(e:ET)(p:PV):Option e.T:=R9 e e.ofl p
inductive Item
 |dead
 |box (T:TypeId) (v:PV)
 |arr (E:TypeId) (e:ET) (l:List e.T)
abbrev Slots:=List (Nat×PV)
structure S where
 sl:Slots
 it:List Item
 st:List Slots:=[]
def Wm:Slots->Nat->PV
 |[],_=> .undef
 |(t,v)::r,d=>Bz (Nat.beq t d) (v)<|Wm r d
def zD(d:Nat):Slots->Slots
 |[]=>[]
 |(t,v)::r=>Bz (Nat.beq t d) (zD d r)<|match v with
  | .gd j _ _=>Bz (Nat.beq j d) (zD d r)<|(t,v)::zD d r
  |_=>(t,v)::zD d r
def i!(s:Slots)(d:Nat)(v:PV):Slots:=(d,v)::zD d s
def S.set(s:S)(d:Nat)(v:PV):S:=⟨i! s.sl d v,s.it,s.st⟩
def S.Fh(s:S)(d:Option Nat)(v:PV):S:=match d with|some d=>s.set d v|none=>s
def P6(t:Nat)(b:Bool):Slots->Slots
 |[]=>[]
 |(q,v)::r=>(Bz (Nat.beq q t) ((q, .cst (.bool b)))<|match v with
  | .gd j want u=>Bz (Nat.beq j t) ((q,Bz (jR want b) (u)<| .off))<|(q,v)
  |_=>(q,v))::P6 t b r
def S.res(s:S)(t:Nat)(b:Bool):S:=⟨P6 t b s.sl,s.it,s.st⟩
def Ca(l:List Item)(i:Nat):Item:=match l with|[]=> .dead|a::r=>match i with|0=>a|i+1=>Ca r i
def AP(l:List Item)(i:Nat)(a:Item):List Item:=match l with|[]=>[]|b::r=>match i with|0=>a::r|i+1=>b::AP r i a
def S.add(s:S)(a:Item):S:=⟨s.sl,s.it++[a],s.st⟩
def S.Lq(s:S)(i:Nat)(a:Item):S:=⟨s.sl,AP s.it i a,s.st⟩
def S.new(s:S):Nat:=s.it.length
def bytesOf(b:ByteArray):List UInt8:=b.data.toList
def ofConst:Value->PV
 | .int k n=>match Kd.of k with
  |some kd=>Bz (decide (kd.gi.toZ (kd.gi.ofZ n)=n)) (.i kd (kd.gi.ofZ n))<| .cst (.int k n)
  |none=> .cst (.int k n)
 | .bool b=> .b b
 | .string s=> .val .str (bytesOf s)
 | .slice none 0 0=> .nils
 | .agg _=> .undef
 | .tuple _=> .undef
 |v=> .cst v
def Ds(s:Slots):Operand->PV
 | .tmp t=>match Wm s t with| .cst (.bool b)=> .b b|v=>v
 | .const v=>ofConst v
 | .func f=> .fn f []
 | .global g=> .undef
def M7(P:Program):Nat->TypeId->Option ET
 |0,_=>none
 |q+1,t=>match P.underlying t with
  |some (.int k)=>(Kd.of k).map .int
  |some .bool=>some .bool
  |some .string=>some .str
  |some (.slice e)=>(M7 P q e).map .list
  |some (.array n e)=>(M7 P q e).map (.vec n)
  |some (.struct fs)=>vQ fs.toList (M7 P q)
  |_=>none
where vQ (fs:List Field) (rec:TypeId->Option ET):Option ET:=match fs with
  |[]=>some .nil
  |f::r=>match rec f.type,vQ r rec with
   |some a,some b=>some (.cons a b)
   |_,_=>none
abbrev Q:Nat:=20
def P9:List PV->Nat->Nat
 |a::r,n+1=>a.size+P9 r n
 |_,_=>0
def J3:PV->List Step->Option PV
 |v,[]=>some v
 | .agg l, .fld n off::r=>match l[n]? with
  |some f=>Bz (Nat.beq (P9 l n) off) (J3 f r)<|none
  |none=>none
 |_,_=>none
def elems(s:S)(e:ET):PV->Option (List e.T)
 | .val e' x=>match e',x with
  | .list a,l=>if h:a=e then some (h▸l)else none
  |_,_=>none
 | .nils=>some []
 | .cap a l _=>if h:a=e then some (h▸l)else none
 | .own i=>match Ca s.it i with
  | .arr _ a l=>if h:a=e then some (h▸l)else none
  |_=>none
 | .view true i _ e1 lo n=>match Ca s.it i with
  | .arr _ a l=>if h:a=e then(Bz (decide (e1=e)) (some (h▸Ej l lo n))<|none)else none
  |_=>none
 |_=>none
def tT(s:S)(e:ET):PV->Option (List e.T)
 | .view false i p e1 lo n=>match Ca s.it i with
  | .box _ v=>match J3 v p with
   |some (.val a x)=>match a,x with
    | .vec m a,l=>Bz (decide (0<=lo/\0<=n/\lo+n<=m)&&decide (e1=e)) ((if h:a=e then some (h▸Ej l lo n)else none))<|none
    |_,_=>none
   |_=>none
  |_=>none
 |v=>elems s e v
def dG(k:Kd)(o:BinOp)(x y:k.T):Option PV:=
 match o with
 | .add=>some (.i k (Af x y))| .sub=>some (.i k (Ag x y))| .mul=>some (.i k (Ch x y))
 | .and=>some (.i k (Dq x y))| .or=>some (.i k (B? x y))| .xor=>some (.i k (oO x y))
 | .eql=>some (.b (geq x y))| .neq=>some (.b (Bb x y))| .lss=>some (.b (Bw x y))| .leq=>some (.b (TH x y))| .gtr=>some (.b (Dr x y))| .geq=>some (.b (Fu x y))
 |_=>none
def wT:(k:Kd)->k.T->k.T->Option k.T
 | .i64,x,y=>some (Jb x y)| .u8,x,y=>some (V? x y)| .u32,x,y=>some (V? x y)| .u64,x,y=>some (V? x y)|_,_,_=>none
def wY:(k:Kd)->k.T->Nat->Option k.T
 | .i64,x,n=>some (I' x n)| .u8,x,n=>some (Da x n)| .u32,x,n=>some (Da x n)| .u64,x,n=>some (Da x n)| .i32,x,n=>some (Da x n)|_,_,_=>none
def P8(o:BinOp)(k:Kd)(x:k.T)(k':Kd)(y:k'.T):Option PV:=
 match o with
 | .quo=>if h:k'=k then some (.i k (Ep x (h▸y)))else none
 | .rem=>if h:k'=k then(wT k x (h▸y)).map (.i k)else none
 | .shl=>some (.i k (Fc x (k'.gi.toZ y).toNat))
 | .shr=>(wY k x (k'.gi.toZ y).toNat).map (.i k)
 |_=>none
def O5(o:BinOp)(k':Kd)(y:k'.T):Option Bool:=
 match o with
 | .quo| .rem=>some (Bb y (k'.gi.ofZ 0))
 | .shl| .shr=>some (Bz (k'.isU) (true)<|Fu y (k'.gi.ofZ 0))
 |_=>none
def isK:Operand->Bool| .const _=>true|_=>false
def xH:BinOp->Bool| .quo=>true| .rem=>true| .shl=>true| .shr=>true|_=>false
def jZ(o:BinOp)(y:Bool)(k:Kd)(a:k.T)(k':Kd)(c:k'.T):Option PV:=
 Bz (xH o) ((Bz (y) ((match O5 o k' c with|some true=>P8 o k a k' c|_=>none))<|Bz (k'.isU&&f? o) (P8 o k a k' c)<|none)
 )<|if h:k'=k then dG k o a (h▸c)else none
def X5(c:Bool)(lit:Option Bool)(a b:PV):Option PV:=
 match a,b with
 | .val .bool x, .val .bool y=>match lit with
  |some true=>some (.b (c||y))
  |some false=>some (.b (c&&x))
  |none=>some (.b (Bz (c) (x)<|y))
 | .val e x, .val e' y=>if h:e'=e then some (.val e (if c=true then x else h▸y))else none
 |_,_=>none
def PZ(t:Nat)(b:Bool):PV->PV
 | .gd j want v=>Bz (Nat.beq j t&&jR want b) (v)<| .undef
 |v=>v
def P':Operand->Option Bool| .const (.bool b)=>some b|_=>none
def wA(b:Bool)(x y:PV):Option PV:=match Bz (b) (x)<|y with| .undef=>none| .off=>none| .gd _ _ _=>none|v=>some v
def PV.r? :PV->Bool| .undef=>false| .off=>false| .gd _ _ _=>false| .tup _=>false|_=>true
def jy:List PV->Bool|[]=>true|a::r=>a.r? &&jy r
def u_(n:Nat)(e:ET)(l:List PV):Option PV:=
 match go l with
 |some x=>Bz (Nat.beq x.length n) (some (.val (.vec n e) x))<|none
 |none=>none
where go:List PV->Option (List e.T)
 |[]=>some []
 |a::r=>match e.of a,go r with|some x,some y=>some (x::y)|_,_=>none
def wR(f:TypeId->List Value->Option (PV×List Value)):List TypeId->List Value->Option (List PV×List Value)
 |[],cs=>some ([],cs)
 |t::ts,cs=>match f t cs with
  |some (v,cs')=>match wR f ts cs' with
   |some (vs,r)=>some (v::vs,r)
   |none=>none
  |none=>none
def parse(P:Program):Nat->TypeId->List Value->Option (PV×List Value)
 |0,_,_=>none
 |q+1,t,cs=>match P.underlying t with
  |some (.struct fs)=>match wR (parse P q) (fs.toList.map (·.type)) cs with
   |some (vs,r)=>some (.agg vs,r)
   |none=>none
  |some (.array n e)=>match M7 P q e,wR (parse P q) (List.replicate n e) cs with
   |some a,some (vs,r)=>match u_ n a vs with
    |some v=>some (v,r)
    |none=>none
   |_,_=>none
  |some _=>match cs with
   |c::r=>Bz ((ofConst c).r? ) (some (ofConst c,r))<|none
   |[]=>none
  |none=>none
def dY(P:Program)(t:TypeId)(v:Value):Option PV:=
 match parse P Q t v.cells.toList with|some (p,[])=>some p|_=>none
def wu(P:Program)(t:TypeId):Option Bool:=(P.underlying t).map PT
def PV.isA:PV->Bool| .agg _=>true| .val (.vec _ _) _=>true|_=>false
def Ll(P:Program)(t:TypeId)(v:PV):Bool:=
 match wu P t with
 |some b=>jR b v.isA&&(match P.info? t with|some i=>Nat.beq i.size v.size|none=>false)&&(b||Nat.beq v.size 1)
 |none=>false
def U1(o:BinOp):Option Bool:=match o with| .eql=>some true| .neq=>some false|_=>none
def Q!(P:Program)(rec:TypeId->PV->PV->Option Bool):List Field->List PV->List PV->Nat->Option Bool
 |[],[],[],_=>some true
 |f::fs,a::l,b::m,off=>Bz ((f.name== "_")|| !Nat.beq f.offset off|| !Ll P f.type a|| !Ll P f.type b|| !Nat.beq a.size b.size) (none)<|match rec f.type a b,Q! P rec fs l m (off+a.size)with
  |some x,some y=>some (x&&y)
  |_,_=>none
 |_,_,_,_=>none
def XR(P:Program)(t:TypeId):Bool:=match P.underlying t with|some (.int _)=>true|_=>false
def eqV(P:Program):Nat->TypeId->PV->PV->Option Bool
 |0,_,_,_=>none
 |q+1,t,x,y=>match P.underlying t,x,y with
  |some (.int _), .val (.int k) a, .val (.int k') b=>if h:k'=k then some (geq a (h▸b))else none
  |some .bool, .val .bool a, .val .bool b=>some (a==b)
  |some .string, .val .str a, .val .str b=>some (a==b)
  |some (.struct fs), .agg l, .agg m=>Bz (P.stoodInHeld t) (none)<|Q! P (eqV P q) fs.toList l m 0
  |some (.array n te), .val (.vec m (.int k)) a, .val (.vec m' (.int k')) b=>Bz (Nat.beq m n&&Nat.beq m' n&&Nat.blt 0 q&&Ll P te (.val (.int k) (GI.ofZ (T:=k.T) 0))&&XR P te) (if h:k'=k then some (RB (T:=k.T) a (h▸b))else none)<|none
  |_,_,_=>none
def U6(P:Program)(s:S)(t:TypeId)(x:Operand):Option PV:=match x with
 | .const (.agg cs)=>dY P t (.agg cs)
 |x=>some (Ds s.sl x)
def kB(P:Program)(s:S)(o:BinOp)(t:TypeId)(x y:Operand):Option PV:=match U1 o,U6 P s t x,U6 P s t y with
 |some q,some (.agg l),some (.agg m)=>Bz (P.eqGuardType P.depth t) (none)<|(eqV P Q t (.agg l) (.agg m)).map λb=> .b (Bz (q) (b)<| !b)
 |_,_,_=>none
def op0(P:Program)(s:S):Op->Option PV
 | .move x=>match Ds s.sl x with| .undef=>none| .off=>none| .gd _ _ _=>none|v=>some v
 | .assign x=>match Ds s.sl x with| .undef=>none| .off=>none| .gd _ _ _=>none|v=>some v
 | .binOp o t x y _=>match Ds s.sl x,Ds s.sl y with
  | .val (.int k) a, .val (.int k') c=>jZ o (isK y) k a k' c
  | .val .bool a, .val .bool c=>match P.underlying t with
   |some .bool=>match o with| .eql=>some (.b (a==c))| .neq=>some (.b (a !=c))|_=>none
   |_=>none
  | .val .str a, .val .str c=>match o with| .eql=>some (.b (a==c))| .neq=>some (.b (a !=c))|_=>none
  |_,_=>kB P s o t x y
 | .unOp o _ x=>match Ds s.sl x with
  | .val (.int k) a=>match o with| .neg=>some (.i k (LW a))| .xor=>some (.i k (RJ a))|_=>none
  | .val .bool a=>match o with| .not=>some (.b (!a))|_=>none
  |_=>none
 | .pick c a b=>match c,Wm s.sl (match c with| .tmp t=>t|_=>0)with
  | .tmp t, .cst (.bool x)=>wA x (PZ t true (Ds s.sl a)) (PZ t false (Ds s.sl b))
  | .tmp t, .val .bool x=>X5 x (match P' a with|some true=>some true|_=>match P' b with|some false=>some false|_=>none) (PZ t true (Ds s.sl a)) (PZ t false (Ds s.sl b))
  |_,_=>none
 | .extract x i=>match Ds s.sl x with| .tup l=>l[i]? |_=>none
 | .convert a t x=>match Ds s.sl x,P.underlying t,P.underlying a with
  | .val (.int k) v,some (.int k'),some _=>match Kd.of k' with|some kd=>some (.i kd (Am v))|none=>none
  |_,_,_=>none
 | .makeFunc (.func f) fs cs=>match fs.toList with
  |[]=>Bz (jy (cs.toList.map (Ds s.sl))) (some (.fn f (cs.toList.map (Ds s.sl))))<|none
  |f1::fr=>match cs.toList with
   |[]=>Bz (jy ((f1::fr).map (Ds s.sl))) (some (.bfn f ((f1::fr).map (Ds s.sl))))<|none
   |_=>none
 | .nilCheck x=>match Ds s.sl x with| .ptr i p=>some (.ptr i p)| .rptr v=>some (.rptr v)|_=>none
 | .fieldAddr t x f=>match Ds s.sl x,fieldInfo P t f with
  | .ptr i p,some (off,z)=>Bz (Nat.beq z 0) (none)<|some (.ptr i (p++[.fld f off]))
  | .rptr (.agg l),some (off,z)=>match l[f]? with
   |some u=>Bz (!Nat.beq z 0&&Nat.beq (P9 l f) off) (some (.rptr u))<|none
   |none=>none
  |_,_=>none
 | .call ⟨.builtin .min,as,_⟩=>match as.toList with
  |[x,y]=>match Ds s.sl x,Ds s.sl y with
   | .val (.int k) a, .val (.int k') c=>if h:k'=k then some (.i k (Gk a (h▸c)))else none
   |_,_=>none
  |_=>none
 | .call ⟨.builtin .max,as,_⟩=>match as.toList with
  |[x,y]=>match Ds s.sl x,Ds s.sl y with
   | .val (.int k) a, .val (.int k') c=>if h:k'=k then some (.i k (G4 a (h▸c)))else none
   |_,_=>none
  |_=>none
 |_=>none
def op1(P:Program)(s:S):Op->Option PV
 | .load t x=>match Ds s.sl x with
  | .ptr i p=>match Ca s.it i with
   | .box _ v=>match J3 v p with
    |some u=>Bz (Ll P t u) (some u)<|none
    |none=>none
   |_=>none
  | .rptr u=>Bz (Ll P t u) (some u)<|none
  |_=>none
 | .convert a t x=>match P.underlying t with
  |some .string=>match P.underlying a with
   |some (.slice e)=>match P.underlying e with
    |some (.int .u8)=>(elems s (.int .u8) (Ds s.sl x)).map λl=> .val .str l
    |_=>none
   |_=>none
  |_=>none
 | .call ⟨.builtin .len,as,ts⟩=>match as.toList,ts.toList with
  |[x],[t]=>match P.underlying t with
   |some .string=>match Ds s.sl x with| .val .str l=>some (.i .i64 (Aa l))|_=>none
   |some (.slice _)=>match Ds s.sl x with
    | .val (.list e) l=>Bz (Nat.beq e.size 0) (none)<|some (.i .i64 (Aa l))
    | .nils=>some (.i .i64 (0:Int))
    | .view _ _ _ _ _ n=>some (.i .i64 n)
    | .own i=>match Ca s.it i with
     | .arr _ e l=>Bz (Nat.beq e.size 0) (none)<|some (.i .i64 (Aa l))
     |_=>none
    |_=>none
   |some (.array n _)=>some (.i .i64 (n:Int))
   |_=>none
  |_,_=>none
 |_=>none
inductive Sh|lf (e:ET) (own:Option TypeId)|agg (l:List Sh)
def Uw:List (ET×Option TypeId)->Type
 |[]=>Unit
 |[p]=>p.1.T
 |p::q::r=>p.1.T×Uw (q::r)
def Sh.leaves:Sh->List (ET×Option TypeId)
 | .lf e o=>[(e,o)]
 | .agg l=>go l
where go:List Sh->List (ET×Option TypeId)
 |[]=>[]
 |a::r=>a.leaves++go r
def Oe(l:List Sh):List (ET×Option TypeId):=Sh.leaves.go l
structure Con where
 ps:List Sh
 rs:List Sh
 fn:Uw (Oe ps)->Option (Uw (Oe rs))
def Ru:Sh->PV->Option (List PV)
 | .lf _ _,v=>some [v]
 | .agg l, .agg vs=>go l vs
 |_,_=>none
where go:List Sh->List PV->Option (List PV)
 |[],[]=>some []
 |a::r,v::vs=>match Ru a v,go r vs with
  |some x,some y=>some (x++y)
  |_,_=>none
 |_,_=>none
def ng(s:S)(e:ET)(v:PV):Option (List e.T):=elems s e v
def iU(s:S):(e:ET)->PV->Option e.T
 | .list e,v=>ng s e v
 |e, .val e' x=>VS e' e x
 |_,_=>none
def JO(s:S):(es:List (ET×Option TypeId))->List PV->Option (Uw es)
 |[],vs=>match vs with|[]=>some ()|_=>none
 |[p],vs=>match vs with
  |[v]=>iU s p.1 v
  |_=>none
 |p::q::r,vs=>match vs with
  |[]=>none
  |v::vs=>match iU s p.1 v,JO s (q::r) vs with
   |some x,some y=>some (x,y)
   |_,_=>none
def En:(e:ET)->Option TypeId->e.T->S->PV×S
 | .list e,some E,l,s=>(.own s.new,s.add (.arr E e l))
 |e,_,x,s=>(.val e x,s)
def Ec:(ls:List (ET×Option TypeId))->Uw ls->S->List PV×S
 |[],_,s=>([],s)
 |[p],x,s=>([(En p.1 p.2 x s).1],(En p.1 p.2 x s).2)
 |p::q::r,(x,y),s=>((En p.1 p.2 x s).1::(Ec (q::r) y (En p.1 p.2 x s).2).1,(Ec (q::r) y (En p.1 p.2 x s).2).2)
def Ps:Sh->List PV->Option (PV×List PV)
 | .lf _ _,v::vs=>some (v,vs)
 | .lf _ _,[]=>none
 | .agg l,vs=>match go l vs with
  |some (us,r)=>some (.agg us,r)
  |none=>none
where go:List Sh->List PV->Option (List PV×List PV)
 |[],vs=>some ([],vs)
 |a::r,vs=>match Ps a vs with
  |some (u,vs')=>match go r vs' with
   |some (us,vs'')=>some (u::us,vs'')
   |none=>none
  |none=>none
def dU(l:List Sh)(vs:List PV):Option (List PV):=match Ps.go l vs with|some (us,[])=>some us|_=>none
def TR(l:List Sh)(vs:List PV):Option (List PV):=Ru.go l vs
def R3:List PV->PV|[v]=>v|l=> .tup l
def subst(i:Nat)(n:PV):PV->PV
 | .agg l=> .agg (go i n l)
 | .tup l=> .tup (go i n l)
 | .own j=>Bz (Nat.beq i j) (n)<| .own j
 | .ptr j p=>Bz (Nat.beq i j) (.any)<| .ptr j p
 | .wp j=>Bz (Nat.beq i j) (.any)<| .wp j
 | .view o j p e lo n=>Bz (Nat.beq i j) (.any)<| .view o j p e lo n
 | .rptr v=> .rptr (subst i n v)
 | .fn f l=> .fn f (go i n l)
 | .mp st ks l=> .mp st ks (go i n l)
 | .bfn f l=> .bfn f (go i n l)
 | .gd t want v=> .gd t want (subst i n v)
 |v=>v
where go (i:Nat) (n:PV):List PV->List PV
 |[]=>[]
 |a::r=>subst i n a::go i n r
def qg(i:Nat)(n:PV):Item->Item
 | .box T v=> .box T (subst i n v)
 |a=>a
def TZ(i:Nat)(n:PV)(l:Slots):Slots:=l.map λp=>(p.1,subst i n p.2)
def S.sub(s:S)(i:Nat)(n:PV):S:=⟨TZ i n s.sl,s.it.map (qg i n),s.st.map (TZ i n)⟩
def S.freeze(s:S)(i:Nat):Option S:=match Ca s.it i with
 | .arr _ e l=>some ((s.Lq i .dead).sub i (.val (.list e) l))
 |_=>none
def Va(i:Nat):List Nat->Bool|[]=>false|j::r=>Nat.beq i j||Va i r
def consume(s:S):List (ET×Option TypeId)->List PV->Option (List Nat)
 |[],[]=>some []
 |(e,o)::r,v::vs=>match o with
  |none=>consume s r vs
  |some E=>match e,v with
   | .list _, .nils=>consume s r vs
   | .list a, .own i=>match Ca s.it i with
    | .arr E' a' _=>Bz (Nat.beq E' E&&decide (a'=a)) ((consume s r vs).map (i:: ·))<|none
    |_=>none
   |_,_=>none
 |_,_=>none
def S.kill(s:S)(i:Nat):Option S:=match Ca s.it i with| .arr _ _ _=>some ((s.Lq i .dead).sub i .any)|_=>none
def S.B4(s:S):List Nat->Option S
 |[]=>some s
 |i::r=>match s.kill i with|some s'=>s'.B4 r|none=>none
def NM:List Bool->Nat
 |[]=>0
 |b::l=>Nat.add (Bz b 1 0) (Nat.mul 2 (NM l))
theorem k_:∀(l:List Bool) (j:Nat),(NM l).testBit j=l.getD j false
 |[],j=>by simp[NM]
 |b::l,0=>by
  have:NM (b::l)=(Bz b 1 0)+2*NM l:=rfl;rw[this];cases b<;>simp[Nat.testBit_zero,Bz]<;>omega
 |b::l,j+1=>by
  have:NM (b::l)=(Bz b 1 0)+2*NM l:=rfl;rw[this,Nat.testBit_succ,show((Bz b 1 0)+2*NM l)/2=NM l by cases b<;>simp[Bz]<;>omega,k_ l j];simp
def O9:List Edge->Nat
 |[]=>0
 |e::l=>Nat.lor (Bz (Region.binds .any e) (Nat.shiftLeft 1 e.on) 0) (O9 l)
def N6(o:Oper):Nat:=O9 o.after.toList
theorem fW:∀(l:List Edge) (j:Nat),(O9 l).testBit j=true↔∃e∈l,Region.binds .any e=true/\e.on=j
 |[],j=>by simp[O9]
 |e::l,j=>by
  have h:O9 (e::l)=(Bz (Region.binds .any e) (1<<<e.on) 0)|||O9 l:=rfl;rw[h,VX,C7,fW l j];cases hb:Region.binds .any e with
  |true=>
   rw[Rs,VC,UX];simp[hb]
  |false=>
   rw[Qg];simp[hb]
theorem Ark(h:Nat.beq (Nat.land a m) a=true)(hj:a.testBit j=true):m.testBit j=true:=by
 have h1:(a&&&m)=a:=G6 h;have h2:(a&&&m).testBit j=true:=by rw[h1];exact hj
 rw[UU,B_]at h2;exact h2.2
theorem Arn(h:∀j,a.testBit j=true->m.testBit j=true):Nat.beq (Nat.land a m) a=true:=by
 have h1:(a&&&m)=a:=Nat.eq_of_testBit_eq λj=>by
  rw[UU];cases ha:a.testBit j with
  |false=>rfl
  |true=>rw[h j ha];rfl
 show Nat.beq (a&&&m) a=true;rw[h1];simp
theorem Apd(h:Nat.beq (Nat.land a x) 0=true)(hj:a.testBit j=true):x.testBit j=false:=by
 have h1:(a&&&x)=0:=G6 h;have h2:(a&&&x).testBit j=false:=by rw[h1];simp
 rw[UU,hj,I6]at h2;exact h2
theorem Aka(h:Nat.beq (Nat.land a x) 0=false):∃j,a.testBit j=true/\x.testBit j=true:=by
 have h1:(a&&&x)≠0:=λe=>by
  have:Nat.beq (a&&&x) 0=false:=h;rw[e]at this;cases this
 obtain⟨j,hj⟩:=Nat.exists_testBit_of_ne_zero h1;rw[UU,B_]at hj;exact⟨j,hj⟩
def Y6(m:Nat):Nat->List Oper->List Bool->List Nat
 |i,o::os,b::bs=>match b with
  |true=>Y6 m (Nat.add i 1) os bs
  |false=>Bz (Nat.beq (Nat.land (N6 o) m) (N6 o)) (i::Y6 m (Nat.add i 1) os bs)<|Y6 m (Nat.add i 1) os bs
 |_,_,_=>[]
def Z!(ops:Array Oper)(listed:Array Bool):List Nat:=Y6 (NM listed.toList) 0 ops.toList listed.toList
theorem pO(listed:Array Bool)(j:Nat):(NM listed.toList).testBit j=listed.getD j false:=by
 rw[k_];simp[H9,G3]
theorem z_{o:Oper}:Nat.beq (Nat.land (N6 o) (NM listed.toList)) (N6 o)=(o.after.all λe=>!Region.binds .any e||listed.getD e.on false):=by
 rw[l?,Array.all_eq_true_iff_forall_mem];constructor
 ·intro h e he;cases hb:Region.binds .any e with
  |false=>rfl
  |true=>
   have:=Ark h ((fW _ _).2 ⟨e,by simpa using he,hb,rfl⟩);rw[pO]at this;simpa using this
 ·intro h;refine Arn λj hj=>?_;obtain⟨e,he,hb,rfl⟩:=(fW _ _).1 hj;have:=h e (by simpa using he);rw[hb]at this;rw[pO];simpa using this
theorem Aih(m p:Nat)(o:Oper)(os:List Oper)(b:Bool)(bs:List Bool):Y6 m p (o::os) (b::bs)=match b with
   |true=>Y6 m (Nat.add p 1) os bs
   |false=>Bz (Nat.beq (Nat.land (N6 o) m) (N6 o)) (p::Y6 m (Nat.add p 1) os bs)<|Y6 m (Nat.add p 1) os bs:=rfl
theorem sX(ops:Array Oper)(listed:Array Bool):∀(os:List Oper) (bs:List Bool) (p:Nat),os=ops.toList.drop p->bs=listed.toList.drop p->
  Y6 (NM listed.toList) p os bs=(List.range' p os.length).filter λi=>!listed.getD i true&&((ops[i]?).map (·.after.all λe=>!Region.binds .any e||listed.getD e.on false)).getD false
 |[],bs,p,ho,hb=>by simp[Y6]
 |o::os,[],p,ho,hb=>by
  have hsz:listed.size<=p:=by
   have:=congrArg List.length hb;simp at this;omega
  rw[Y6]
  ·symm;rw[List.filter_eq_nil_iff];intro i hi;rw[List.mem_range']at hi;obtain⟨k,_,rfl⟩:=hi;rw[H9,US F3];simp
  ·simp
 |o::os,b::bs,p,ho,hb=>by
  have ho1:ops[p]? =some o:=by
   have:=congrArg (·[0]?) ho;simpa using this.symm
  have hb1:listed[p]? =some b:=by
   have:=congrArg (·[0]?) hb;simpa using this.symm
  have ho2:os=ops.toList.drop (p+1):=by
   have:=congrArg List.tail ho;simpa using this
  have hb2:bs=listed.toList.drop (p+1):=by
   have:=congrArg List.tail hb;simpa using this
  have ih:=sX ops listed os bs (p+1) ho2 hb2;have hg:listed.getD p true=b:=by rw[H9,hb1];rfl
  rw[Aih,C3,kW,List.filter_cons,hg,ho1];cases b with
  |true=>
   rw[C1 F7];exact ih
  |false=>
   simp only[IZ,Option.getD_some,mR,I6];rw[z_];cases(o.after.all λe=>!Region.binds .any e||listed.getD e.on false)with
   |true=>rw[Rs,BA rfl];exact congrArg (p:: ·) ih
   |false=>rw[Qg,C1 F7];exact ih
theorem c_(ops:Array Oper)(listed:Array Bool):Z! ops listed=Region.ready .any ops listed:=by
 rw[Z!,sX ops listed _ _ 0 F7 F7,Region.ready,kQ];simp
def wG(ops:Array Oper)(T:Nat->Bool)(i bi:Nat)(oi:Oper):Nat->List Oper->List Bool->Nat->Bool
 |_,[],_,_=>true
 |_,_::_,[],_=>false
 |j,o::os,b::bs,acc=>match b with
  |true=>wG ops T i bi oi (Nat.add j 1) os bs acc
  |false=>Bz (Nat.beq j i) (wG ops T i bi oi (Nat.add j 1) os bs acc)<|
   Bz (Nat.beq (Nat.land (N6 o) (Nat.lor acc bi)) 0)
    (Bz (T j&&oi.apart ops o) (wG ops T i bi oi (Nat.add j 1) os bs acc) false)
    (wG ops T i bi oi (Nat.add j 1) os bs (Nat.lor acc (Nat.shiftLeft 1 j)))
def K1(ops:Array Oper)(T:Nat->Bool)(listed:Array Bool)(i:Nat):Bool:=
 Region.noSelect ops&&(match ops[i]? with
  |some oi=>!listed.getD i true&&(Nat.beq (Nat.land (N6 oi) (NM listed.toList)) (N6 oi)&&wG ops T i (Nat.shiftLeft 1 i) oi 0 ops.toList listed.toList 0)
  |none=>false)
theorem Ahz(ops:Array Oper)(T:Nat->Bool)(i bi:Nat)(oi:Oper)(p:Nat)(o:Oper)(os:List Oper)(b:Bool)(bs:List Bool)(am:Nat):wG ops T i bi oi p (o::os) (b::bs) am=match b with
   |true=>wG ops T i bi oi (Nat.add p 1) os bs am
   |false=>Bz (Nat.beq p i) (wG ops T i bi oi (Nat.add p 1) os bs am)<|
    Bz (Nat.beq (Nat.land (N6 o) (Nat.lor am bi)) 0)
     (Bz (T p&&oi.apart ops o) (wG ops T i bi oi (Nat.add p 1) os bs am) false)
     (wG ops T i bi oi (Nat.add p 1) os bs (Nat.lor am (Nat.shiftLeft 1 p))):=rfl
theorem ru{ops:Array Oper}{T:Nat->Bool}{listed:Array Bool}{i:Nat}{oi:Oper}:∀(os:List Oper) (bs:List Bool) (p:Nat) (acc:List Nat) (am:Nat),os=ops.toList.drop p->bs=listed.toList.drop p->
  (∀q,am.testBit q=true↔q∈acc)-> (∀j,j<p->j<ops.size-> (listed.getD j true||(Nat.beq j i||(acc.any (Nat.beq j)||(T j&&match ops[j]? with
  |some oj=>oi.apart ops oj
  |none=>true))))=true)->wG ops T i (Nat.shiftLeft 1 i) oi p os bs am=true->E? .any ops listed i (pD ops T listed i oi) (List.range' p os.length) acc=true
 |[],bs,p,acc,am,ho,hb,ha,hp,h=>by
  have hsz:ops.size<=p:=by
   have:=congrArg List.length ho;simp at this;omega
  rw[C2,List.range'_zero,E?,pD,N4];intro j hj;rw[T!]at hj;exact hp j F3 hj
 |o::os,[],p,acc,am,ho,hb,ha,hp,h=>by simp[wG]at h
 |o::os,b::bs,p,acc,am,ho,hb,ha,hp,h=>by
  have ho1:ops[p]? =some o:=by
   have:=congrArg (·[0]?) ho;simpa using this.symm
  have hb1:listed[p]? =some b:=by
   have:=congrArg (·[0]?) hb;simpa using this.symm
  have ho2:os=ops.toList.drop (p+1):=by
   have:=congrArg List.tail ho;simpa using this
  have hb2:bs=listed.toList.drop (p+1):=by
   have:=congrArg List.tail hb;simpa using this
  have hg:listed.getD p true=b:=by rw[H9,hb1];rfl
  have next:∀(acc':List Nat) (am':Nat),(∀q,am'.testBit q=true↔q∈acc')-> (∀q,q∈acc->q∈acc')-> ((listed.getD p true||(Nat.beq p i||(acc'.any (Nat.beq p)||(T p&&match ops[p]? with
   |some oj=>oi.apart ops oj
   |none=>true))))=true)->wG ops T i (Nat.shiftLeft 1 i) oi (p+1) os bs am'=true->E? .any ops listed i (pD ops T listed i oi) (List.range' (p+1) os.length) acc'=true:=by
   intro acc' am' h1 h2 h3 h4;refine ru os bs (p+1) acc' am' ho2 hb2 h1 (λj hj hjs=>?_) h4;by_cases hjp:j=p
   ·rw[hjp];exact h3
   ·have:=hp j F3 hjs;simp only[C7]at this⊢;rcases this with h|h|h|h
    ·exact .inl h
    ·exact .inr (.inl h)
    ·obtain⟨y,hy,hh⟩:=List.any_eq_true.1 h;exact .inr (.inr (.inl (List.any_eq_true.2 ⟨y,h2 y hy,hh⟩)))
    ·exact .inr (.inr (.inr h))
  rw[C3,kW,E?];rw[Ahz]at h;cases b with
  |true=>
   have hk:oo .any ops listed i p acc=false:=by rw[oo,hg];rfl
   rw[hk];exact next acc am ha (λ_ h=>h) (by rw[hg];rfl) h
  |false=>
   simp only at h;cases hpi:Nat.beq p i with
   |true=>
    rw[hpi,Rs]at h;have hk:oo .any ops listed i p acc=false:=by rw[oo,hpi];simp
    rw[hk];exact next acc am ha (λ_ h=>h) (by rw[hpi];simp) h
   |false=>
    rw[hpi,Qg]at h;cases hm:Nat.beq (Nat.land (N6 o) (Nat.lor am (Nat.shiftLeft 1 i))) 0 with
    |true=>
     rw[hm,Rs]at h;have hk:oo .any ops listed i p acc=false:=by
      rw[oo,ho1];simp only;cases hany:(o.after.any λe=>Region.binds .any e&&(Nat.beq e.on i||acc.any (Nat.beq e.on)))with
      |false=>simp
      |true=>
       exfalso;rw[<-Array.any_toList]at hany;obtain⟨e,he,hh⟩:=List.any_eq_true.1 hany;rw[B_,C7]at hh;have hbit:=Apd hm ((fW _ _).2 ⟨e,by simpa using he,hh.1,rfl⟩);have hbit:(am||| (1<<<i)).testBit e.on=false:=hbit;rw[VX,C8,VC,UX]at hbit;rcases hh.2 with h1|h1
       ·have:=G6 h1;simp[this]at hbit
       ·obtain⟨y,hy,h2⟩:=List.any_eq_true.1 h1;have:=G6 h2;have:=(ha e.on).2 (by rw[this];exact hy);rw[hbit.1]at this;cases this
     rw[hk];cases hT:(T p&&oi.apart ops o)with
     |false=>rw[hT,Qg]at h;cases h
     |true=>
      rw[hT,Rs]at h;exact next acc am ha (λ_ h=>h) (by rw[ho1];simp only;rw[hT];simp) h
    |false=>
     rw[hm,Qg]at h;have hk:oo .any ops listed i p acc=true:=by
      rw[oo,ho1,hg,hpi];simp only[mR,I6];obtain⟨j,h1,h2⟩:=Aka hm;obtain⟨e,he,hb,rfl⟩:=(fW _ _).1 h1;rw[<-Array.any_toList];refine List.any_eq_true.2 ⟨e,by simpa using he,?_⟩;rw[hb,I6,C7];have h2:(am||| (1<<<i)).testBit e.on=true:=h2;rw[VX,C7,VC,UX]at h2;rcases h2 with h2|h2
      ·exact .inr (List.any_eq_true.2 ⟨e.on,(ha _).1 h2,F7⟩)
      ·left;have h2:i=e.on:=by simpa using h2
       rw[h2];simp
     rw[hk];refine next (p::acc) (Nat.lor am (Nat.shiftLeft 1 p)) (λq=>?_) (λ_ h=>H! _ h) F7 h
     show(am||| (1<<<p)).testBit q=true↔_;rw[VX,C7,VC,UX,C?,ha q];simp only[E_];constructor
     ·rintro(h|h)
      ·exact .inr h
      ·exact .inl h.symm
     ·rintro(h|h)
      ·exact .inr h.symm
      ·exact .inl h
theorem o!{ops:Array Oper}{T:Nat->Bool}{i:Nat}(h:K1 ops T listed i=true):Fg ops T listed i=true:=by
 unfold K1 at h;rw[B_]at h;obtain⟨h1,h2⟩:=h;cases ho:ops[i]? with
 |none=>rw[ho]at h2;cases h2
 |some oi=>
  rw[ho]at h2;simp only[B_]at h2;obtain⟨h3,h4,h5⟩:=h2;rw[Fg,h1,ho,I6,B_];refine⟨?_,?_⟩
  ·rw[List.contains_iff_mem,Region.ready,List.mem_filter,T!];refine⟨(Array.getElem?_eq_some_iff.1 ho).1,?_⟩;have h4':=(z_ (listed:=listed)).symm.trans h4;rw[h3,ho,IZ,Option.getD_some];exact h4'
  ·have:=ru (oi:=oi) (T:=T) (i:=i) (listed:=listed) ops.toList listed.toList 0 [] 0 F7 F7 (λq=>by simp) (λj hj=>absurd hj F3) h5;rw[QW,<-kQ]at this;exact this
def n_:List Bool->List Bool->Bool
 |t::zs,b::bs=>match t,b with
  |true,false=>false
  |_,_=>n_ zs bs
 |_,_=>true
theorem a_:∀(zs bs:List Bool),n_ zs bs=true↔∀i,i<bs.length->zs.getD i false=true->bs.getD i false=true
 |[],bs=>by simp[n_]
 |t::zs,[]=>by simp[n_]
 |t::zs,b::bs=>by
  have ih:=a_ zs bs;have hs:(∀i,i<(b::bs).length-> (t::zs).getD i false=true-> (b::bs).getD i false=true)↔(t=true->b=true)/\∀i,i<bs.length->zs.getD i false=true->bs.getD i false=true:=by
   constructor
   ·intro h;exact⟨by simpa using h 0 F7,λi hi=>by simpa using h (i+1) (by simpa using hi)⟩
   ·rintro⟨h1,h2⟩ i hi;cases i with
    |zero=>simpa using h1
    |succ i=>simpa using h2 i (by simpa using hi)
  rw[hs,<-ih];cases t<;>cases b<;>simp[n_]
def Tr(z listed:Array Bool):Bool:=n_ z.toList listed.toList
def K3{R:Type}:PV->List Step-> (PV->Option R)->Option R
 |v,[],k=>k v
 | .agg l, .fld n off::r,k=>match l[n]? with
  |some f=>Bz (Nat.beq (P9 l n) off) (K3 f r k)<|none
  |none=>none
 | .val e x, .idx j z::r,k=>match e,x with
  | .vec _ a,l=>Bz (Nat.beq a.size z) (Option.bind (Ae l j) λy=>K3 (a.pv y) r k)<|none
  |_,_=>none
 |_,_,_=>none
def u!{R:Type}(new:PV):PV->List Step-> (PV->Option R)->Option R
 |v,[],k=>Bz (Nat.beq new.size v.size) (k new)<|none
 | .agg l, .fld n off::r,k=>match l[n]? with
  |some f=>Bz (Nat.beq (P9 l n) off) (u! new f r (λf'=>k (.agg (l.set n f'))))<|none
  |none=>none
 | .val e x, .idx j z::r,k=>match e,x with
  | .vec n a,l=>Bz (Nat.beq a.size z) ((match r with
   |[]=>match a.of new with
    |some y=>Option.bind (Mh l j y) λl'=>k (.val (.vec n a) l')
    |none=>none
   |_=>Option.bind (Ae l j) λy=>u! new (a.pv y) r (λp=>match a.of p with
    |some y'=>Option.bind (Mh l j y') λl'=>k (.val (.vec n a) l')
    |none=>none)))<|none
  |_,_=>none
 |_,_,_=>none
def getRoot{R:Type}:Item->List Step-> (PV->Option R)->Option R
 | .box _ v,p,k=>K3 v p k
 | .arr _ e l, .idx j z::r,k=>Bz (Nat.beq e.size z) (Option.bind (Ae l j) λy=>K3 (e.pv y) r k)<|none
 |_,_,_=>none
def M3{R:Type}(new:PV):Item->List Step-> (Item->Option R)->Option R
 | .box T v,p,k=>u! new v p λv'=>k (.box T v')
 | .arr E e l, .idx j z::r,k=>Bz (Nat.beq e.size z) ((match r with
   |[]=>match e.of new with
    |some y=>Option.bind (Mh l j y) λl'=>k (.arr E e l')
    |none=>none
   |_=>Option.bind (Ae l j) λy=>u! new (e.pv y) r (λp=>match e.of p with
    |some y'=>Option.bind (Mh l j y') λl'=>k (.arr E e l')
    |none=>none)))<|none
 |_,_,_=>none
def zeroOf(P:Program)(t:TypeId):Option PV:=
 match P.info? t with|some i=>(match i.zero with|some z=>dY P t z|none=>none)|none=>none
structure Tab where
 l:List (Nat×Con)
 gl:List (Nat×List Value)
 vw:Bool
 cp:Bool:=false
def gQ:List (Nat×Con)->Nat->Option Con|[],_=>none|(g,c)::r,f=>Bz (Nat.beq g f) (some c)<|gQ r f
def Tab.get(T:Tab)(f:Nat):Option Con:=gQ T.l f
def U3:List (Nat×List Value)->Nat->Option (List Value)|[],_=>none|(g,c)::r,f=>Bz (Nat.beq g f) (some c)<|U3 r f
def Tab.glv(T:Tab)(P:Program)(g:Nat)(t:TypeId):Option PV:=match U3 T.gl g with
 |some cs=>match parse P Q t cs with|some (v,[])=>some v|_=>none
 |none=>none
abbrev XV(R:Type):=Nat->List PV->S-> (S->PV->Option R)->Option R
def iA:PV->List Nat
 | .own i=>[i]
 | .ptr i _=>[i]
 | .wp i=>[i]
 | .view _ i _ _ _ _=>[i]
 | .agg l=>go l
 | .tup l=>go l
 | .fn _ l=>go l
 | .mp _ _ l=>go l
 | .bfn _ l=>go l
 |_=>[]
where go:List PV->List Nat
 |[]=>[]
 |a::r=>iA a++go r
def owns:PV->List Nat
 | .own i=>[i]
 | .view _ i _ _ _ _=>[i]
 | .agg l=>go l
 | .tup l=>go l
 |_=>[]
where go:List PV->List Nat
 |[]=>[]
 |a::r=>owns a++go r
def Qo:List (ET×Option TypeId)->List PV->List Nat
 |p::r,v::vs=>match p.2 with|none=>owns v++Qo r vs|some _=>Qo r vs
 |_,_=>[]
def S.BU(s:S):List Nat->Option S
 |[]=>some s
 |i::r=>match Ca s.it i with
  | .dead=>s.BU r
  | .box _ _=>none
  | .arr _ _ _=>match s.freeze i with|some s'=>s'.BU r|none=>none
def asInt:PV->Option Int| .val e x=>(match e,x with| .int k,y=>(match k,y with| .i64,z=>some z|_,_=>none)|_,_=>none)|_=>none
def ZW:PV->Option Int| .val e x=>(match e,x with| .int k,y=>some (k.gi.toZ y)|_,_=>none)|_=>none
def PJ(s:Slots)(o:Option Operand)(dflt:Int):Option Int:=match o with|none=>some dflt|some x=>ZW (Ds s x)
def xO(P:Program)(t:TypeId):Option TypeId:=match P.underlying t with|some (.slice e)=>some e|_=>none
def TA:Nat->List (Nat×Operand)->Bool
 |_,[]=>true
 |n,(i,_)::r=>Nat.beq n i&&TA (n+1) r
def L_(e:ET):List PV->Option (List e.T)
 |[]=>some []
 |a::r=>match e.of a,L_ e r with|some x,some y=>some (x::y)|_,_=>none
def iw(P:Program)(t:TypeId)(e:ET):Bool:=match P.info? t with
 |some i=>Nat.beq i.size e.size&&Nat.ble i.bytes 4096&&(match i.zero with|some z=>Nat.beq z.cells.size e.size|none=>false)&&Nat.ble 1 e.size
 |none=>false
def VP:List (Nat×PV)->List PV->Option (List PV)
 |[],l=>some l
 |(i,v)::r,l=>match l[i]? with
  |some u=>Bz (Nat.beq u.size v.size&&v.r? ) (VP r (l.set i v))<|none
  |none=>none
def Z9(e:ET):List (Nat×PV)->List e.T->Option (List e.T)
 |[],l=>some l
 |(i,v)::r,l=>match l[i]?,e.of v with
  |some _,some x=>Z9 e r (l.set i x)
  |_,_=>none
def JE(P:Program):List Field->List PV->Nat->Bool
 |[],[],_=>true
 |f::fs,v::vs,off=>Nat.beq f.offset off&&(match P.info? f.type with|some i=>Nat.beq i.size v.size|none=>false)&&JE P fs vs (off+v.size)
 |_,_,_=>false
def Yo{R:Type}(P:Program)(s:S)(d:Option Nat)(et:TypeId)(x:PV)(lo hi:Option Operand)(k:S->Option R):Option R:=
 match P.info? et with
 |none=>none
 |some inf=>match x with
  | .own i=>match Ca s.it i with
   | .arr _ e l=>Bz (Nat.beq inf.size e.size&&Nat.ble 1 e.size) ((match PJ s.sl lo 0,PJ s.sl hi (Aa l)with
    |some a,some b=>Option.bind (jI (Aa l) a b) λ_=>k (s.Fh d (.view true i [] e a (b-a)))
    |_,_=>none))<|none
   |_=>none
  | .view o i p e l0 n=>Bz (Nat.beq inf.size e.size&&Nat.ble 1 e.size) ((match PJ s.sl lo 0,PJ s.sl hi n with
    |some a,some b=>Option.bind (jI n a b) λ_=>k (s.Fh d (.view o i p e (l0+a) (b-a)))
    |_,_=>none))<|none
  |_=>none
def TC(P:Program)(t:TypeId):Option (TypeId×Nat×TypeId):=match P.underlying t with
 |some (.array m et)=>some (t,m,et)
 |some (.pointer u)=>match P.underlying u with|some (.array m et)=>some (u,m,et)|_=>none
 |_=>none
def nY:PV->Bool| .own _=>true| .view _ _ _ _ _ _=>true|_=>false
def X!{R:Type}(vw:Bool)(s:S)(d:Option Nat)(t:TypeId)(x:Operand)(lo hi:Option Operand)(k:S->Option R)(P:Program):Option R:=
 match P.underlying t with
 |some .string=>match Ds s.sl x with
  | .val .str l=>match PJ s.sl lo 0,PJ s.sl hi (Aa l)with
   |some a,some b=>Option.bind (Bi l a b) λy=>k (s.Fh d (.val .str y))
   |_,_=>none
  |_=>none
 |some (.slice et)=>Bz (vw&&nY (Ds s.sl x)) (Yo P s d et (Ds s.sl x) lo hi k)<|match s.BU (owns (Ds s.sl x))with
  |none=>none
  |some s=>match Ds s.sl x with
   | .val e l=>match e,l with
    | .list e,l=>match P.info? et with
     |some i=>Bz (Nat.beq i.size e.size&&Nat.ble 1 e.size) ((match PJ s.sl lo 0,PJ s.sl hi (Aa l)with
      |some a,some b=>Option.bind (Bi l a b) λy=>k (s.Fh d (.val (.list e) y))
      |_,_=>none))<|none
     |none=>none
    |_,_=>none
   | .nils=>match P.info? et,PJ s.sl lo 0,PJ s.sl hi 0 with
    |some _,some a,some b=>Option.bind (jI 0 a b) λ_=>k (s.Fh d .nils)
    |_,_,_=>none
   |_=>none
 |_=>match TC P t with
  |some (_,m,et)=>match P.info? et with
   |none=>none
   |some inf=>match Ds s.sl x with
    | .ptr i p=>match Ca s.it i with
     | .box _ v=>match J3 v p with
      |some (.val e l)=>match e,l with
       | .vec m' e,_=>Bz (Nat.beq m' m&&Nat.beq inf.size e.size&&Nat.ble 1 e.size) ((match PJ s.sl lo 0,PJ s.sl hi m with
        |some a,some b=>Option.bind (jI m a b) λ_=>k (s.Fh d (.view false i p e a (b-a)))
        |_,_=>none))<|none
       |_,_=>none
      |_=>none
     |_=>none
    |_=>none
  |none=>none
def V5{R:Type}(cp:Bool)(s:S)(d:Option Nat)(t:TypeId)(x:Operand)(lo:Option Operand)(hi mx:Operand)(k:S->Option R)(P:Program):Option R:=
 match P.underlying t with
 |some (.slice et)=>match s.BU (owns (Ds s.sl x))with
  |none=>none
  |some s=>match Ds s.sl x with
   | .val e l=>match e,l with
    | .list e,l=>match P.info? et with
     |some i=>Bz (Nat.beq i.size e.size&&Nat.ble 1 e.size) ((match PJ s.sl lo 0,ZW (Ds s.sl hi),ZW (Ds s.sl mx)with
      |some a,some b,some c=>Option.bind (Es (decide (b<=c/\c<=Aa l))) λ_=>Option.bind (Bi l a b) λy=>k (s.Fh d (Bz cp (.cap e y (c-a))<| .val (.list e) y))
      |_,_,_=>none))<|none
     |none=>none
    |_,_=>none
   |_=>none
 |_=>none
def vW{R:Type}(P:Program)(s:S)(d:Option Nat)(t:TypeId)(x ix:Operand)(k:S->Option R):Option R:=
 match ZW (Ds s.sl ix)with
 |none=>none
 |some j=>match P.underlying t with
  |some (.slice et)=>match P.info? et with
   |none=>none
   |some inf=>match Ds s.sl x with
    | .val e l=>match e,l with
     | .list e,l=>Bz (Nat.beq inf.size e.size&&Nat.ble 1 e.size) (Option.bind (Ae l j) λy=>k (s.Fh d (.rptr (e.pv y))))<|none
     |_,_=>none
    | .own i=>match Ca s.it i with
     | .arr _ e l=>Bz (Nat.beq inf.size e.size&&Nat.ble 1 e.size) (Option.bind (Ae l j) λ_=>k (s.Fh d (.ptr i [.idx j e.size])))<|none
     |_=>none
    | .view _ i p e lo n=>Bz (Nat.beq inf.size e.size&&Nat.ble 1 e.size) (Option.bind (Es (decide (0<=j/\j<n))) λ_=>k (s.Fh d (.ptr i (p++[.idx (lo+j) e.size]))))<|none
    |_=>none
  |some (.array n et)=>match P.info? et with
   |none=>none
   |some inf=>match Ds s.sl x with
    | .ptr i p=>match Ca s.it i with
     | .box _ v=>match J3 v p with
      |some (.val e l)=>match e,l with
       | .vec m e,l=>Bz (Nat.beq inf.size e.size&&Nat.ble 1 e.size&&Nat.beq m n) (Option.bind (Ae l j) λ_=>k (s.Fh d (.ptr i (p++[.idx j e.size]))))<|none
       |_,_=>none
      |_=>none
     |_=>none
    |_=>none
  |_=>none
def YN{R:Type}(P:Program)(s:S)(d:Option Nat)(t:TypeId)(x:Operand)(k:S->Option R):Option R:=
 match Ds s.sl x with
 | .ptr i p=>getRoot (Ca s.it i) p λu=>Bz (Ll P t u) (k (s.Fh d u))<|none
 |_=>none
def Atz:Step->Bool| .idx _ _=>true|_=>false
def su(s:S)(a x:Operand):Option S:=match Ds s.sl a with
 | .ptr _ p=>match p.any Atz with|true=>s.BU (owns (Ds s.sl x))|false=>some s
 |_=>none
def M6:PV->Bool| .tup _=>false| .cst _=>false| .any=>false| .view _ _ _ _ _ _=>false| .mp _ _ _=>false| .cap _ _ _=>false|v=>v.r?
def g!{R:Type}(P:Program)(s0:S)(t:TypeId)(a x:Operand)(k:S->Option R):Option R:=
 match su s0 a x with
 |none=>none
 |some s=>match Ds s.sl a with
  | .ptr i p=>match P.info? t with
   |some inf=>Bz (M6 (Ds s.sl x)&&Nat.beq inf.size (Ds s.sl x).size&&Nat.blt 0 inf.size) (M3 (Ds s.sl x) (Ca s.it i) p λit'=>k (s.Lq i it'))<|none
   |none=>none
  |_=>none
def TN(s:S)(E:TypeId)(e:ET):PV->Option (S×Nat)
 | .nils=>some (s.add (.arr E e []),s.new)
 | .own i=>match Ca s.it i with
  | .arr E' e' _=>Bz (Nat.beq E E') ((if e'=e then some (s,i)else none))<|none
  |_=>none
 | .view true i p e1 lo n=>match Ca s.it i with
  | .arr E' e' l=>Bz (Nat.beq E E'&&decide (lo=0)&&decide (e1=e)) ((if h:e'=e then some (((s.Lq i .dead).sub i .any).add (.arr E e (Ej (h▸l) 0 n)),s.new)else none))<|none
  |_=>none
 |_=>none
def fG(e:ET):Item->Option (List e.T)
 | .arr _ e' l=>if h:e'=e then some (h▸l)else none
 |_=>none
def fC{R:Type}(P:Program)(s:S)(E:TypeId)(e:ET)(t2:TypeId)(y:Operand)(k:List e.T->Option R):Option R:=
 match P.underlying t2 with
 |some .string=>match Ds s.sl y with
  | .val .str m=>(match VS (.list (.int .u8)) (.list e) m with|some m=>k m|none=>none)
  |_=>none
 |some (.slice _)=>match elems s e (Ds s.sl y)with|some m=>k m|none=>none
 |some (.int _)=>match asInt (Ds s.sl y),zeroOf P E with
  |some n,some z=>match e.of z with
   |some z=>Option.bind (mkI n z) k
   |none=>none
  |_,_=>none
 |_=>none
def jr(P:Program)(s:S)(e:ET)(t2:TypeId)(y:Operand):Option (List e.T):=match P.underlying t2 with
 |some .string=>match Ds s.sl y with
  | .val .str m=>VS (.list (.int .u8)) (.list e) m
  |_=>none
 |some (.slice _)=>elems s e (Ds s.sl y)
 |_=>none
def jg(e:ET):PV->Option (List e.T×Int)| .cap a l c=>(if h:a=e then some (h▸l,c)else none)|_=>none
def Q6{R:Type}(P:Program)(s:S)(d:Option Nat)(x y:Operand)(t t2:TypeId)(k:S->Option R):Option R:=
 match xO P t with
 |none=>none
 |some E=>match M7 P Q E with
  |none=>none
  |some e=>Bz (iw P E e&&(Ds s.sl x).r? ) ((match jg e (Ds s.sl x)with
   |some (l,c)=>match jr P s e t2 y with
    |some m=>Option.bind (Ay l m) λr=>Option.bind (Es (decide (c<Aa r))) λ_=>k ((s.add (.arr E e r)).Fh d (.own s.new))
    |none=>none
   |none=>match TN s E e (Ds s.sl x)with
   |none=>none
   |some (s1,i)=>match fG e (Ca s1.it i)with
    |none=>none
    |some l=>fC P s E e t2 y λm=>Option.bind (Ay l m) λr=>k ((((s1.Lq i .dead).sub i .any).add (.arr E e r)).Fh d (.own s1.new))))<|none
def RN(P:Program)(s:S)(e:ET)(t2:TypeId)(y:Operand):Option (List e.T):=
 match P.underlying t2 with
 |some .string=>match Ds s.sl y with
  | .val .str m=>VS (.list (.int .u8)) (.list e) m
  |_=>none
 |some (.slice _)=>tT s e (Ds s.sl y)
 |_=>none
def c!{R:Type}(P:Program)(s:S)(d:Option Nat)(x y:Operand)(t t2:TypeId)(k:S->Option R):Option R:=
 match xO P t with
 |none=>none
 |some E=>match P.info? E with
  |none=>none
  |some inf=>match Ds s.sl x with
   | .own i=>match Ca s.it i with
    | .arr E' e l=>Bz (Nat.beq inf.size e.size&&Nat.ble 1 e.size) ((match RN P s e t2 y with
     |some m=>k ((s.Lq i (.arr E' e (Cr l m))).Fh d (.i .i64 (Cq (Aa l) m.length)))
     |none=>none))<|none
    |_=>none
   | .view true i _ e1 lo n=>match Ca s.it i with
    | .arr E' e l=>Bz (Nat.beq inf.size e.size&&Nat.ble 1 e.size&&decide (e1=e)) ((match RN P s e t2 y with
     |some m=>k ((s.Lq i (.arr E' e (Om l lo n m))).Fh d (.i .i64 (Cq n m.length)))
     |none=>none))<|none
    |_=>none
   | .view false i p e1 lo n=>match Ca s.it i with
    | .box T v=>match J3 v p with
     |some (.val a x)=>match a,x with
      | .vec q e,l=>Bz (Nat.beq inf.size e.size&&Nat.ble 1 e.size&&decide (e1=e)&&decide (0<=lo/\0<=n/\lo+n<=q)) ((match RN P s e t2 y with
       |some m=>u! (.val (.vec q e) (Om l lo n m)) v p λv'=>k ((s.Lq i (.box T v')).Fh d (.i .i64 (Cq n m.length)))
       |none=>none))<|none
      |_,_=>none
     |_=>none
    |_=>none
   |_=>none
def J!{R:Type}(P:Program)(s:S)(d:Option Nat)(t:TypeId)(parts:List (Nat×Operand))(k:S->Option R):Option R:=
 match P.underlying t,zeroOf P t with
 |some (.struct fs),some (.agg zs)=>Bz (JE P fs.toList zs 0) ((match VP (parts.map λp=>(p.1,Ds s.sl p.2)) zs with
  |some l=>k (s.Fh d (.agg l))
  |none=>none))<|none
 |some (.array _ et),some (.val e l)=>match e,l with
  | .vec m a,l=>match P.info? et,Z9 a (parts.map λp=>(p.1,Ds s.sl p.2)) l with
   |some inf,some l'=>Bz (Nat.beq inf.size a.size) (k (s.Fh d (.val (.vec m a) l')))<|none
   |_,_=>none
  |_,_=>none
 |_,_=>none
def YH{R:Type}(P:Program)(s0:S)(d:Option Nat)(t:TypeId)(len:Nat)(parts:List (Nat×Operand))(k:S->Option R):Option R:=
 match xO P t with
 |none=>none
 |some E=>match M7 P Q E with
  |none=>none
  |some e=>Bz (iw P E e&&TA 0 parts&&Nat.beq parts.length len&&Nat.ble (len*e.size) 4096) ((match s0.BU (owns.go (parts.map λp=>Ds s0.sl p.2))with
   |none=>none
   |some s=>match L_ e (parts.map λp=>Ds s.sl p.2)with
    |some l=>k ((s.add (.arr E e l)).Fh d (.own s.new))
    |none=>none))<|none
def Y!{R:Type}(P:Program)(s:S)(d:Option Nat)(t:TypeId)(a b:Operand)(k:S->Option R):Option R:=
 match xO P t with
 |none=>none
 |some E=>match M7 P Q E with
  |none=>none
  |some e=>Bz (iw P E e) ((match asInt (Ds s.sl a),asInt (Ds s.sl b),zeroOf P E with
   |some n,some n',some z=>match e.of z with
    |some z=>Option.bind (mkI n z) λl=>Option.bind (Es (geq n' n)) λ_=>k ((s.add (.arr E e l)).Fh d (.own s.new))
    |none=>none
   |_,_,_=>none))<|none
def ET.qj:ET->Bool| .list _=>true| .vec _ e=>e.qj| .cons a r=>a.qj||r.qj|_=>false
def d!:ET×Option TypeId->Bool|(.list e,some _)=>e.qj|(e,_)=>e.qj
def U7(rs:List Sh):Bool:=(Oe rs).any d!
def T4(c:Con):Bool:=U7 c.rs
def O_(l:List (ET×Option TypeId)):Bool:=l.all λp=>p.2.isNone
def Z'{R:Type}(P:Program)(T:Tab)(inl:XV R)(s0:S)(d:Option Nat)(f:Nat)(caps:List PV)(as:List Operand)(k:S->Option R):Option R:=
 match T.get f with
 |some c=>match caps with
  |[]=>match TR c.ps (as.map (Ds s0.sl))with
   |none=>none
   |some ls0=>match(match T4 c with|true=>s0.BU (Qo (Oe c.ps) ls0)|false=>some s0)with
    |none=>none
    |some s=>Bz (!jy (as.map (Ds s.sl))) (none)<|match TR c.ps (as.map (Ds s.sl))with
     |none=>none
     |some ls=>Bz (T4 c&& !(Qo (Oe c.ps) ls).isEmpty) (none)<|match JO s (Oe c.ps) ls with
      |none=>none
      |some x=>match consume s (Oe c.ps) ls with
       |none=>none
       |some is=>Bz (!((Qo (Oe c.ps) ls).all λi=>!Va i is)) (none)<|match s.B4 is with
        |none=>none
        |some s1=>Option.bind (c.fn x) λy=>
         match Ec (Oe c.rs) y s1 with
         |(us,s')=>match dU c.rs us with
          |some vs=>k (s'.Fh d (R3 vs))
          |none=>none
  |_=>none
 |none=>Bz (jy (as.map (Ds s0.sl))) (inl f (as.map (Ds s0.sl)++caps) s0 (λs v=>k (s.Fh d v)))<|none
open Classical in
noncomputable def both{R:Type}(a:Option R):List (Option R)->Option R
 |[]=>a
 |b::r=>if a=b then both a r else none
theorem vO(a:Option R):both a [a]=a:=by simp[both]
noncomputable def N1{R α:Type}(l:List α)(a b:Option R):Option R:=match l with|[]=>both a [b]|_::_=>b
theorem Aqb{α:Type}{l:List α}{a b:Option R}(h:l=[]->a=b):N1 l a b=b:=by
 cases l with
 |nil=>rw[h rfl];simp[N1,vO]
 |cons _ _=>rfl
noncomputable def cC{R:Type}(P:Program)(s:S)(dn:Nat)(o:BinOp)(t:TypeId)(x:PV)(k:S->Option R):Option R:=
 match U1 o,P.underlying t with
 |some y,some (.slice _)=>match x with
  | .nils=>k (s.set dn (.b y))
  | .val e l=>match e,l with
   | .list e,l=>Bz (Nat.ble 1 e.size) (N1 l (k (s.set dn (.b y))) (k (s.set dn (.b (!y)))))<|none
   |_,_=>none
  | .own i=>match Ca s.it i with
   | .arr _ e l=>Bz (Nat.ble 1 e.size) (N1 l (k (s.set dn (.b y))) (k (s.set dn (.b (!y)))))<|none
   |_=>none
  |_=>none
 |_,_=>none
def oN{R:Type}(P:Program)(T:Tab)(s:S)(dn:Nat)(g:Nat)(o:Op)(k:S->Option R):Option R:=
 match o with
 | .load t _=>match T.glv P g t with
  |some v=>Bz (Ll P t v) (k (s.set dn v))<|none
  |none=>none
 | .indexAddr t _ ix=>match ZW (Ds s.sl ix),P.underlying t,T.glv P g t with
  |some j,some (.array m et),some (.val e l)=>match P.info? et,e,l with
   |some inf, .vec m' e,l=>Bz (Nat.beq m' m&&Nat.beq inf.size e.size&&Nat.ble 1 e.size) (Option.bind (Ae l j) λy=>k (s.set dn (.rptr (e.pv y))))<|none
   |_,_,_=>none
  |_,_,_=>none
 | .slice t _ lo hi none=>match TC P t with
  |some (u,m,et)=>match T.glv P g u with
   |some (.val e l)=>match P.info? et,e,l with
    |some inf, .vec m' e,l=>Bz (Nat.beq m' m&&Nat.beq inf.size e.size&&Nat.ble 1 e.size) ((match PJ s.sl lo 0,PJ s.sl hi m with
     |some a,some b=>Option.bind (Bi l a b) λy=>k (s.set dn (.val (.list e) y))
     |_,_=>none))<|none
    |_,_,_=>none
   |_=>none
  |none=>none
 |_=>none
abbrev Q1(st:Bool)(a q:List UInt8):Bool:=match st with|true=>a==q|false=>geq (a.headD 0) (q.headD 0)
def keyOf:(e:ET)->e.T->Option (Bool×List UInt8)
 | .int .u8,a=>some (false,[a])
 | .str,a=>some (true,a)
 |_,_=>none
def tyB:Option TypeDesc->Option Bool|some (.int .u8)=>some false|some .string=>some true|_=>none
def lkC{R:Type}(st:Bool)(a:List UInt8)(k:PV->Option R)(z:PV):List (List UInt8)->List PV->Option R
 |q::ks,v::vs=>if Q1 st a q=true then k (.tup [v, .b true])else lkC st a k z ks vs
 |_,_=>k (.tup [z, .b false])
def Z7{R:Type}(P:Program)(s:S)(dn:Nat)(t:TypeId)(x ix:Operand)(k:S->Option R):Option R:=
 match Ds s.sl x,Ds s.sl ix,P.underlying t with
 | .mp st ks vs, .val e a,some (.map kt et)=>match keyOf e a,tyB (P.underlying kt)with
  |some (sa,a'),some sb=>Bz (jR sa st&&jR sb st) ((match P.info? et with
   |some inf=>match inf.zero with
    |some .nilFunc=>lkC st a' (λv=>k (s.set dn v)) (.cst .nilFunc) ks vs
    |some (.agg cs)=>match dY P et (.agg cs)with
     |some z=>Bz z.isA (lkC st a' (λv=>k (s.set dn v)) z ks vs)<|none
     |none=>none
    |_=>none
   |none=>none))<|none
  |_,_=>none
 |_,_,_=>none
noncomputable def op2{R:Type}(P:Program)(T:Tab)(inl:XV R)(s:S)(dn:Nat)(ty:TypeId)(o:Op)(k:S->Option R):Option R:=
 match o with
 | .binOp o t x y _=>match Ds s.sl x,Ds s.sl y with
  | .val (.int a) u, .val (.int b) v=>match O5 o b v,P8 o a u b v with
   |some c,some r=>Option.bind (Es c) λ_=>k (s.set dn r)
   |_,_=>none
  | .val .str u, .val .str v=>match o with
   | .add=>Option.bind (Ay u v) λr=>k (s.set dn (.val .str r))
   |_=>none
  |a, .nils=>cC P s dn o t a k
  |_,_=>none
 | .index t x ix=>match ZW (Ds s.sl ix),Ds s.sl x with
  |some j, .val e0 l0=>match e0,l0,P.underlying t with
   | .str,l,some .string=>Option.bind (Ae l j) λy=>k (s.set dn (.i .u8 y))
   | .vec n e,l,some (.array m et)=>Bz (Nat.beq m n) (Option.bind (Ae l j) λy=>Bz (Ll P et (e.pv y)) (k (s.set dn (e.pv y)))<|none)<|none
   |_,_,_=>none
  |_,_=>none
 | .slice t x lo hi none=>match x with
  | .global g=>oN P T s dn g (.slice t x lo hi none) k
  |x=>X! T.vw s (some dn) t x lo hi k P
 | .indexAddr t x ix=>match x with
  | .global g=>oN P T s dn g (.indexAddr t x ix) k
  |x=>vW P s (some dn) t x ix k
 | .load t x=>match x with
  | .global g=>oN P T s dn g (.load t x) k
  |x=>YN P s (some dn) t x k
 | .alloc t=>match zeroOf P t with
  |some v=>k ((s.add (.box t v)).Fh (some dn) (.ptr s.new []))
  |none=>none
 | .box t x=>Bz (M6 (Ds s.sl x)) (k ((s.add (.box t (Ds s.sl x))).Fh (some dn) (.ptr s.new [])))<|none
 | .assign (.const (.agg cs))=>match dY P ty (.agg cs)with
  |some v=>Bz (v.isA) (k (s.set dn v))<|none
  |none=>none
 | .move (.const (.agg cs))=>match dY P ty (.agg cs)with
  |some v=>Bz (v.isA) (k (s.set dn v))<|none
  |none=>none
 | .build t ps=>J! P s (some dn) t ps.toList k
 | .buildSlice t n ps=>YH P s (some dn) t n ps.toList k
 | .makeSlice t a b=>Y! P s (some dn) t a b k
 | .convert a t x=>match P.underlying a,P.underlying t with
  |some .string,some (.slice e)=>match P.underlying e,Ds s.sl x with
   |some (.int .u8), .val .str l=>k ((s.add (.arr e (.int .u8) l)).Fh (some dn) (.own s.new))
   |_,_=>none
  |some (.slice _),some (.slice e)=>Bz (Nat.beq a t) ((match P.underlying e,Ds s.sl x with
   |some (.int .u8), .own i=>(match Ca s.it i with
    | .arr _ e' l=>match e',l with
     | .int .u8,_::_=>k (s.Fh (some dn) (.own i))
     |_,_=>none
    |_=>none)
   |_,_=>none))<|none
  |_,_=>none
 | .call ⟨.builtin .append,as,ts⟩=>match as.toList,ts.toList with
  |[x,y],[t,t2]=>Q6 P s (some dn) x y t t2 k
  |_,_=>none
 | .call ⟨.builtin .copy,as,ts⟩=>match as.toList,ts.toList with
  |[x,y],[t,t2]=>c! P s (some dn) x y t t2 k
  |_,_=>none
 | .call ⟨.builtin .cap,as,ts⟩=>match as.toList,ts.toList with
  |[x],[t]=>match P.underlying t,Ds s.sl x with
   |some (.slice _), .nils=>k (s.set dn (.i .i64 (0:Int)))
   |_,_=>none
  |_,_=>none
 | .call ⟨.value g,as,_⟩=>match Ds s.sl g with
  | .fn f caps=>Z' P T inl s (some dn) f caps as.toList k
  | .bfn f fs=>Bz ((T.get f).isNone&&jy (as.toList.map (Ds s.sl))) (inl f (fs++as.toList.map (Ds s.sl)) s (λs v=>k (s.Fh (some dn) v)))<|none
  |_=>none
 | .slice t x lo (some hi) (some mx)=>V5 T.cp s (some dn) t x lo hi mx k P
 | .lookup t x ix true=>Z7 P s dn t x ix k
 |_=>none
noncomputable def exU{R:Type}(P:Program)(T:Tab)(inl:XV R)(o:Oper)(s:S)(k:S->Option R):Option R:=
 match op0 P s o.op with
 |some v=>k (s.Fh o.dst v)
 |none=>match op1 P s o.op with
  |some v=>k (s.Fh o.dst v)
  |none=>match o.dst with
   |some dn=>op2 P T inl s dn o.type o.op k
   |none=>match o.op with
    | .store t a x=>g! P s t a x k
    | .call ⟨.builtin .copy,as,ts⟩=>match as.toList,ts.toList with
     |[x,y],[t,t2]=>c! P s none x y t t2 k
     |_,_=>none
    |_=>none
noncomputable def exG{R:Type}(P:Program)(T:Tab)(inl:XV R)(o:Oper)(t:Nat)(want:Bool)(s:S)(k:S->Option R):Option R:=
 let on (bv:Bool):Option R:=Bz (jR want bv) (exU P T inl o (s.res t bv) k)<|k ((s.res t bv).Fh o.dst .off)
 match Wm s.sl t with
 | .cst (.bool b)=>Bz (jR want b) (exU P T inl o s k)<|k (s.Fh o.dst .off)
 | .off=>k (s.Fh o.dst .off)
 | .val .bool b=>match o.dst,op0 P (s.res t want) o.op,op1 P (s.res t want) o.op with
  |some d,some v,_=>Bz (Nat.beq d t) (none)<|k (s.set d (.gd t want v))
  |some d,none,some v=>Bz (Nat.beq d t) (none)<|k (s.set d (.gd t want v))
  |_,_,_=>if b=true then on true else on false
 |_=>none
def If(n:Nat)(o:Oper):Bool:=match o.dst with|some d=>Nat.blt d n|none=>true
noncomputable def nD{R:Type}(P:Program)(T:Tab)(inl:XV R)(n:Nat)(ops:Array Oper)(o:Oper)(s:S)(k:S->Option R):Option R:=
 Bz (!If n o) (none)<|match o.guard with
 |none=>exU P T inl o s k
 |some (j,want)=>match(ops[j]?).bind (·.dst)with
  |none=>none
  |some t=>match Wm s.sl t with
   | .gd t2 w2 v=>match Wm s.sl t2 with
    | .val .bool b=>if b=true then exG P T inl o t want (s.res t2 true) k else exG P T inl o t want (s.res t2 false) k
    |_=>none
   |_=>exG P T inl o t want s k
def cJ(st:Bool)(d t:Nat):Op->Option (List UInt8×Operand)
 | .insert t' (.tmp q) (.const (.int .u8 n)) x=>Bz (!st&&(Nat.beq t' t&&Nat.beq q d&&decide ((((GI.ofZ n:UInt8).toNat:Nat):Int)=n))) (some ([GI.ofZ n],x))<|none
 | .insert t' (.tmp q) (.const (.string b)) x=>Bz (st&&(Nat.beq t' t&&Nat.beq q d)) (some (bytesOf b,x))<|none
 |_=>none
def jo(P:Program)(n:Nat)(o:Oper):Option (Nat×Nat×Bool):=match o.op with
 | .makeMap t none=>match o.dst,o.guard,P.underlying t with
  |some d,none,some (.map kt _)=>match tyB (P.underlying kt)with|some st=>Bz (Nat.blt d n) (some (d,t,st))<|none|none=>none
  |_,_,_=>none
 |_=>none
def wP:PV->Bool| .fn _ _=>true| .bfn _ _=>true| .agg _=>true|_=>false
def U!(st:Bool)(u:List UInt8):List (List UInt8)->Bool|[]=>false|q::r=>Q1 st u q||U! st u r
def iF(P:Program)(s:S):Op->Option PV
 | .build t ps=>match P.underlying t,zeroOf P t with
  |some (.struct fs),some (.agg zs)=>Bz (JE P fs.toList zs 0) ((match VP (ps.toList.map λp=>(p.1,Ds s.sl p.2)) zs with
   |some l=>some (.agg l)
   |none=>none))<|none
  |_,_=>none
 |_=>none
def iH(P:Program)(s:S)(o:Op):Option PV:=match op0 P s o with|some v=>some v|none=>iF P s o
noncomputable def FU{R:Type}(P:Program)(T:Tab)(inl:XV R)(n:Nat)(ops:Array Oper):List Oper->Option (Nat×Nat×Bool×List (List UInt8)×List PV)->S-> (S->Option R)->Option R
 |[],m,s,k=>match m with|none=>k s|some (d,_,st,ks,vs)=>k (s.set d (.mp st ks vs))
 |o::r,m,s,k=>match m with
  |none=>match jo P n o with
   |none=>nD P T inl n ops o s λs'=>FU P T inl n ops r none s' k
   |some (d,t,st)=>FU P T inl n ops r (some (d,t,st,[],[])) (s.set d .undef) k
  |some (d,t,st,ks,vs)=>match o.guard,o.dst with
   |none,some q=>match Bz (Nat.blt q n&& !Nat.beq q d) (iH P s o.op)<|none with
    |some v=>FU P T inl n ops r (some (d,t,st,ks,vs)) (s.set q v) k
    |none=>nD P T inl n ops o (s.set d (.mp st ks vs)) λs'=>FU P T inl n ops r none s' k
   |none,none=>match cJ st d t o.op with
    |some (u,x)=>Bz (wP (Ds s.sl x)&& !U! st u ks) (FU P T inl n ops r (some (d,t,st,ks++[u],vs++[Ds s.sl x])) s k)<|none
    |none=>nD P T inl n ops o (s.set d (.mp st ks vs)) λs'=>FU P T inl n ops r none s' k
   |_,_=>none
noncomputable def EW{R:Type}(P:Program)(T:Tab)(inl:XV R)(n:Nat)(ops:Array Oper)(l:List Oper)(s:S)(k:S->Option R):Option R:=FU P T inl n ops l none s k
def brk(T:Tab)(o:Oper):Bool:=match o.op with
 | .store _ _ _=>true
 | .call ⟨.builtin .append,_,_⟩=>true
 | .call ⟨.builtin .copy,_,_⟩=>true
 | .call ⟨.value (.func f),_,_⟩=>match T.get f with|some c=>!O_ (Oe c.ps)|none=>true
 | .call ⟨.value _,_,_⟩=>true
 |_=>false
def zm(T:Tab)(s:S)(o:Oper):Bool:=match o.op with
 | .slice _ x _ _ _=>(owns (Ds s.sl x)).isEmpty
 | .buildSlice _ _ ps=>(owns.go (ps.toList.map λp=>Ds s.sl p.2)).isEmpty
 | .call ⟨.value (.func f),as,_⟩=>match T.get f with
  |some c=>O_ (Oe c.ps)&&(!T4 c||(owns.go (as.toList.map (Ds s.sl))).isEmpty)
  |none=>false
 |_=>!brk T o
def tw(z:Array Bool)(i:Nat):Bool:=z.getD i false
def calm(o:Oper):Bool:=o.guard.isNone&&(match o.op with
 | .load _ _=>true| .fieldAddr _ _ _=>true| .move _=>true| .binOp _ _ _ _ _=>true| .unOp _ _ _=>true| .extract _ _=>true| .pick _ _ _=>true
 | .buildSlice _ _ ps=>ps.isEmpty
 |_=>false)
def jk(T:Tab)(listed:Array Bool):List Oper->Nat->Bool->Array Bool->Array Bool
 |[],_,_,acc=>acc
 |o::r,i,ahead,acc=>Bz (brk T o&& !(listed.getD i true)) (jk T listed r (i+1) false (acc.push false))<|jk T listed r (i+1) ahead (acc.push (ahead||(listed.getD i false||(calm o&&o.after.all λe=>acc.getD e.on false))))
def kD(P:Program)(T:Tab):Op->Option PV
 | .load t (.global g)=>match T.glv P g t with
  |some v=>Bz (Ll P t v) (some v)<|none
  |none=>none
 |_=>none
def zF(P:Program)(T:Tab)(mem:Bool)(s:S)(o:Op):Option PV:=match op0 P s o with
 |some v=>some v
 |none=>match(Bz (mem) (op1 P s o)<|none)with|some v=>some v|none=>kD P T o
def i? (P:Program)(T:Tab)(n:Nat)(mem:Bool)(ops:Array Oper)(o:Oper)(s:S):Option (Nat×PV):=
 match o.dst with
 |none=>none
 |some d=>Bz (!Nat.blt d n) (none)<|match o.guard with
  |none=>(zF P T mem s o.op).map λv=>(d,v)
  |some (j,want)=>match(ops[j]?).bind (·.dst)with
   |none=>none
   |some t=>match Wm s.sl t with
    | .cst (.bool b)=>Bz (jR want b) ((zF P T mem s o.op).map λv=>(d,v))<|some (d, .off)
    | .off=>some (d, .off)
    | .val .bool b=>Bz (Nat.beq d t) (none)<|(zF P T mem (s.res t want) o.op).map λv=>(d, .gd t want v)
    |_=>none
def Ti(P:Program)(Tb:Tab)(n:Nat)(mem:Bool)(ops:Array Oper)(T:Array Bool)(listed:Array Bool)(s:S):List Nat->Option (Nat×Nat×PV)
 |[]=>none
 |i::r=>match ops[i]? with
  |none=>none
  |some o=>match i? P Tb n mem ops o s with
   |some (d,v)=>Bz (K1 ops (tw T) listed i) (some (i,d,v))<|Ti P Tb n mem ops T listed s r
   |none=>Ti P Tb n mem ops T listed s r
structure BV where
 X:Type
 E:Option X
 v:X->PV
def bnd(P:Program)(s:S)(o:Op):Option BV:=match o with
 | .binOp o _ x y _=>match Ds s.sl x,Ds s.sl y with
  | .val (.int a) u, .val (.int b) v=>match O5 o b v,P8 o a u b v with
   |some c,some r=>some ⟨Unit,Es c,λ_=>r⟩
   |_,_=>none
  | .val .str u, .val .str v=>match o with
   | .add=>some ⟨List UInt8,Ay u v, .val .str⟩
   |_=>none
  |_,_=>none
 | .index t x ix=>match ZW (Ds s.sl ix),Ds s.sl x,P.underlying t with
  |some j, .val .str l,some .string=>some ⟨UInt8,Ae l j, .i .u8⟩
  |_,_,_=>none
 | .slice t x lo hi mx=>match mx,P.underlying t with
  |none,some .string=>match Ds s.sl x with
   | .val .str l=>match PJ s.sl lo 0,PJ s.sl hi (Aa l)with
    |some a,some b=>some ⟨List UInt8,Bi l a b, .val .str⟩
    |_,_=>none
   |_=>none
  |none,some (.slice et)=>match Ds s.sl x with
   | .val e l=>match e,l with
    | .list e,l=>match P.info? et with
     |some i=>Bz (Nat.beq i.size e.size&&Nat.ble 1 e.size) ((match PJ s.sl lo 0,PJ s.sl hi (Aa l)with
      |some a,some b=>some ⟨List e.T,Bi l a b, .val (.list e)⟩
      |_,_=>none))<|none
     |none=>none
    |_,_=>none
   |_=>none
  |_,_=>none
 | .indexAddr t x ix=>match ZW (Ds s.sl ix)with
  |none=>none
  |some j=>match P.underlying t with
   |some (.slice et)=>match P.info? et with
    |none=>none
    |some inf=>match Ds s.sl x with
     | .val e l=>match e,l with
      | .list e,l=>Bz (Nat.beq inf.size e.size&&Nat.ble 1 e.size) (some ⟨e.T,Ae l j,λy=> .rptr (e.pv y)⟩)<|none
      |_,_=>none
     | .own i=>match Ca s.it i with
      | .arr _ e l=>Bz (Nat.beq inf.size e.size&&Nat.ble 1 e.size) (some ⟨e.T,Ae l j,λ_=> .ptr i [.idx j e.size]⟩)<|none
      |_=>none
     | .view _ i p e lo n=>Bz (Nat.beq inf.size e.size&&Nat.ble 1 e.size) (some ⟨Unit,Es (decide (0<=j/\j<n)),λ_=> .ptr i (p++[.idx (lo+j) e.size])⟩)<|none
     |_=>none
   |some (.array n et)=>match P.info? et with
    |none=>none
    |some inf=>match Ds s.sl x with
     | .ptr i p=>match Ca s.it i with
      | .box _ v=>match J3 v p with
       |some (.val e l)=>match e,l with
        | .vec m e,l=>Bz (Nat.beq inf.size e.size&&Nat.ble 1 e.size&&Nat.beq m n) (some ⟨e.T,Ae l j,λ_=> .ptr i (p++[.idx j e.size])⟩)<|none
        |_,_=>none
       |_=>none
      |_=>none
     |_=>none
   |_=>none
 |_=>none
inductive BG|on (b:BV)|ask (t:Nat) (want bv:Bool) (b:BV)
def W_(P:Program)(n:Nat)(ops:Array Oper)(o:Oper)(s:S):Option (Nat×BG):=
 match o.dst with
 |none=>none
 |some d=>Bz (!Nat.blt d n) (none)<|match o.guard with
  |none=>(bnd P s o.op).map λb=>(d, .on b)
  |some (j,want)=>match(ops[j]?).bind (·.dst)with
   |none=>none
   |some t=>match Wm s.sl t with
    | .cst (.bool b)=>Bz (jR want b) ((bnd P s o.op).map λb=>(d, .on b))<|none
    | .val .bool b=>Bz (Nat.beq d t) (none)<|(bnd P (s.res t want) o.op).map λB=>(d, .ask t want b B)
    |_=>none
def AG(P:Program)(n:Nat)(ops:Array Oper)(T:Array Bool)(listed:Array Bool)(s:S):List Nat->Option (Nat×Nat×BG)
 |[]=>none
 |i::r=>match ops[i]? with
  |none=>none
  |some o=>match W_ P n ops o s with
   |some (d,v)=>Bz (K1 ops (tw T) listed i) (some (i,d,v))<|AG P n ops T listed s r
   |none=>AG P n ops T listed s r
def U5(s:S)(d:Nat)(o:Op):Option (Nat×TypeId×Nat×List Step):=match o with
 | .load t x=>match Ds s.sl x with
  | .ptr i p=>match Ca s.it i with| .dead=>none|_=>some (d,t,i,p)
  |_=>none
 |_=>none
def U9(n:Nat)(ops:Array Oper)(o:Oper)(s:S):Option (Nat×TypeId×Nat×List Step):=
 match o.dst with
 |none=>none
 |some d=>Bz (!Nat.blt d n) (none)<|match o.guard with
  |none=>U5 s d o.op
  |some (j,want)=>match(ops[j]?).bind (·.dst)with
   |none=>none
   |some t=>match Wm s.sl t with
    | .cst (.bool b)=>Bz (jR want b) (U5 s d o.op)<|none
    |_=>none
def HM(n:Nat)(ops:Array Oper)(T:Array Bool)(listed:Array Bool)(s:S):List Nat->Option (Nat×Nat×TypeId×Nat×List Step)
 |[]=>none
 |i::r=>match ops[i]? with
  |none=>none
  |some o=>match U9 n ops o s with
   |some v=>Bz (K1 ops (tw T) listed i) (some (i,v))<|HM n ops T listed s r
   |none=>HM n ops T listed s r
def gOk(ops:Array Oper)(s:S)(o:Oper):Bool:=match o.guard with
 |none=>true
 |some (j,_)=>match(ops[j]?).bind (·.dst)with
  |none=>false
  |some t=>match Wm s.sl t with| .cst (.bool _)=>true|_=>false
def YF(ops:Array Oper)(s:S)(i:Nat):Option (Nat×Bool):=match ops[i]? with
 |none=>none
 |some o=>match o.guard with
  |none=>none
  |some (j,_)=>match(ops[j]?).bind (·.dst)with
   |none=>none
   |some t=>match Wm s.sl t with
    | .val .bool b=>some (t,b)
    | .gd t2 _ _=>match Wm s.sl t2 with
     | .val .bool b=>some (t2,b)
     |_=>none
    |_=>none
def XI{R:Type}(ops:Array Oper):List Nat->S-> (S->Option R)->Option R
 |[],s,k=>k s
 |i::r,s,k=>match YF ops s i with
  |some (t,b)=>if b=true then XI ops r (s.res t true) k else XI ops r (s.res t false) k
  |none=>XI ops r s k
noncomputable abbrev wW{R:Type}(l:List Bool):(List Bool->R)->R:=List.rec (λk=>k []) (λb _ ih k=>match b with|true=>ih λr=>k (true::r)|false=>ih λr=>k (false::r)) l
theorem X0{R:Type}:∀(l:List Bool) (k:List Bool->R),wW l k=k l
 |[],_=>rfl
 |true::l,k=>X0 l _
 |false::l,k=>X0 l _
noncomputable abbrev nrm{R:Type}(a:Array Bool)(k:Array Bool->R):R:=wW a.toList λl=>k ⟨l⟩
theorem vB(a:Array Bool)(k:Array Bool->R):nrm a k=k a:=X0 _ _
theorem nI(z listed:Array Bool):Tr z listed=KI (tw z) listed:=by
 rw[l?,Tr,a_,KI,N4];simp only[T!,C7,C6,tw,QW];refine forall_congr' λi=>forall_congr' λhi=>?_;rw[G3,G3,UT,UT,H9,H9];cases(z[i]?.getD false)<;>simp
noncomputable def NJ{R:Type}(P:Program)(T:Tab)(inl:XV R)(n:Nat)(mem:Bool)(ops:Array Oper):Nat->Array Bool->Array Bool->S-> (S->Option R)->Option R
 |fuel,z0,listed,s,k=>nrm listed λlisted=>match Z! ops listed with
  |[]=>k s
  |i::is=>match fuel with
   |0=>none
   |fuel+1=>
    let z:=Bz (mem&&Tr z0 listed) (jk T listed ops.toList 0 true #[])<|z0
    let main (s:S) (fin:S->Option R):Option R:=
     match Ti P T n mem ops z listed s (i::is)with
     |some (i,d,v)=>NJ P T inl n mem ops fuel z (listed.setIfInBounds i true) (s.set d v) k
     |none=>match AG P n ops z listed s (i::is)with
     |some (i,d, .on b)=>Option.bind b.E λx=>NJ P T inl n mem ops fuel z (listed.setIfInBounds i true) (s.set d (b.v x)) k
     |some (i,d, .ask t want bv b)=>
      let on (c:Bool):Option R:=Bz (jR want c) (Option.bind b.E λx=>NJ P T inl n mem ops fuel z (listed.setIfInBounds i true) ((s.res t c).set d (b.v x)) k)<|NJ P T inl n mem ops fuel z (listed.setIfInBounds i true) ((s.res t c).set d .off) k
      if bv=true then on true else on false
     |none=>match(Bz (mem) (HM n ops z listed s (i::is))<|none)with
     |some (i,d,t,j,p)=>getRoot (Ca s.it j) p λu=>Bz (Ll P t u) (NJ P T inl n mem ops fuel z (listed.setIfInBounds i true) (s.set d u) k)<|none
     |none=>fin s
    let one (s:S) (i:Nat):Option R:=match ops[i]? with
      |some o=>Bz (mem&& !((zm T s o&&gOk ops s o)||(!tw z i&&Tr z (listed.setIfInBounds i true)))) (none)<|
       nD P T inl n ops o s λs'=>NJ P T inl n mem ops fuel z (listed.setIfInBounds i true) s' k
      |none=>none
    let rest (s:S):Option R:=both (one s i) (is.map (one s))
    main s λs=>Bz mem (XI ops ((i::is)++(i::is)) s λs=>main s rest)<|rest s
def SG(s:S):List (ET×Option TypeId)->List PV->List Nat->Bool
 |[],[],_=>true
 |(e,o)::r,v::vs,seen=>match o with
  |none=>(owns v).isEmpty&&SG s r vs seen
  |some E=>match e,v with
   | .list a, .nils=>SG s r vs seen
   | .list a, .own i=>!Va i seen&&(match Ca s.it i with| .arr E' a' _=>Nat.beq E' E&&decide (a'=a)|_=>false)&&SG s r vs (i::seen)
   |_,_=>false
 |_,_,_=>false
inductive Co|own (E:TypeId) (e:ET)|ro (e:ET)|wp
structure At where
 t:Nat
 p:List Nat
 c:Co
def atV:PV->List Nat->Option PV
 |v,[]=>some v
 | .agg l,n::r=>match l[n]? with|some v=>atV v r|none=>none
 |_,_=>none
def K5(new:PV):PV->List Nat->Option PV
 |_,[]=>some new
 | .agg l,n::r=>match l[n]? with
  |some v=>match K5 new v r with|some v'=>some (.agg (l.set n v'))|none=>none
  |none=>none
 |_,_=>none
def ML(t:Nat)(new:PV):Slots->Slots
 |[]=>[]
 |(q,v)::r=>Bz (Nat.beq q t) ((q,new)::r)<|(q,v)::ML t new r
def vJ:PV->List Nat->Option (Nat×List Nat)
 | .ptr i [],p=>some (i,p)
 | .fn _ l,n::r=>match l[n]? with
  |some v=>(match v with| .ptr i []=>some (i,r)|_=>none)
  |none=>none
 | .mp _ _ l,n::r=>match l[n]? with
  |some v=>(match v with| .bfn _ (.ptr i []::_)=>some (i,r)|_=>none)
  |none=>none
 |_,_=>none
def wO(s:S)(a:At):Option S:=
 match vJ (Wm s.sl a.t) a.p with
 |some (i,q)=>match Ca s.it i with
  | .box T v=>match atV v q with
   |some (.cst (.pointer none))=>match K5 (.wp i) v q with
    |some v'=>some (s.Lq i (.box T v'))
    |none=>none
   |some (.wp _)=>some s
   |_=>none
  |_=>none
 |none=>none
def iO(s:S)(a:At):Option S:=
 let go (v:PV) (put:S->PV->Option S):Option S:=match a.c,v with
  | .own E e, .nils=>put (s.add (.arr E e [])) (.own s.new)
  | .own _ _, .own _=>some s
  | .ro e, .nils=>put s (.val (.list e) [])
  | .ro _, .own i=>s.freeze i
  | .ro _, .val (.list _) _=>some s
  |_,_=>none
 match a.c with
 | .wp=>wO s a
 |_=>
 match vJ (Wm s.sl a.t) a.p with
 |some (i,q)=>(match Ca s.it i with
  | .box T v=>match atV v q with
   |some u=>go u λs' n=>match K5 n v q with
    |some v'=>some (s'.Lq i (.box T v'))
    |none=>none
   |none=>none
  |_=>none)
 |none=>match Wm s.sl a.t with
 | .view o i p e1 lo n=>match a.c,a.p with
  | .own E e,[]=>Bz (Nat.blt 0 e.size) ((match TN s E e (.view o i p e1 lo n)with
   |some (s',j)=>some ⟨ML a.t (.own j) s'.sl,s'.it,s'.st⟩
   |none=>none))<|none
  |_,_=>none
 |v=>match atV v a.p with
  |some u=>go u λs' n=>match K5 n v a.p with
   |some v'=>some ⟨ML a.t v' s'.sl,s'.it,s'.st⟩
   |none=>none
  |none=>none
def R?(s:S):List At->Option S
 |[]=>some s
 |a::r=>match iO s a with|some s'=>R? s' r|none=>none
def mD(s:Slots):List Nat->Slots
 |[]=>[]
 |t::r=>match Wm s t with
  | .undef=>mD s r
  | .off=>mD s r
  | .gd _ _ _=>mD s r
  |v=>(t,v)::mD s r
def Arz:Item->List Nat| .box _ v=>iA v|_=>[]
def reach(it:List Item):Nat->List Nat->List Nat->List Nat
 |0,_,seen=>seen
 |_+1,[],seen=>seen
 |q+1,i::r,seen=>Bz (Va i seen) (reach it q r seen)<|reach it q (r++Arz (Ca it i)) (seen++[i])
def posOf(i:Nat):List Nat->Nat->Option Nat
 |[],_=>none
 |j::r,n=>Bz (Nat.beq i j) (some n)<|posOf i r (n+1)
def J8(o:List Nat):PV->PV
 | .own i=>match posOf i o 0 with|some j=> .own j|none=> .any
 | .ptr i p=>match posOf i o 0 with|some j=> .ptr j p|none=> .any
 | .wp i=>match posOf i o 0 with|some j=> .wp j|none=> .any
 | .view w i p e lo n=>match posOf i o 0 with|some j=> .view w j p e lo n|none=> .any
 | .agg l=> .agg (go o l)
 | .tup l=> .tup (go o l)
 | .fn f l=> .fn f (go o l)
 | .mp st ks l=> .mp st ks (go o l)
 | .bfn f l=> .bfn f (go o l)
 | .gd t w v=> .gd t w (J8 o v)
 | .rptr v=> .rptr (J8 o v)
 |v=>v
where go (o:List Nat):List PV->List PV
 |[]=>[]
 |a::r=>J8 o a::go o r
def vS(o:List Nat):Item->Item| .box T v=> .box T (J8 o v)|a=>a
def U'(o:List Nat)(l:Slots):Slots:=l.map λp=>(p.1,J8 o p.2)
def y? (l:Slots):List Nat:=(l.map λp=>iA p.2).flatten
def S.canon(s:S)(lv:List Nat):S:=
 let sl:=mD s.sl lv
 let o:=reach s.it 200 (y? sl++(s.st.map y?).flatten) []
 ⟨U' o sl,o.map λi=>vS o (Ca s.it i),s.st.map (U' o)⟩
def S.cn(s:S)(lv:List Nat)(co:List At):Option S:=match R? s co with|some s'=>some (s'.canon lv)|none=>none
inductive An
 |d
 |seq (a b:An)
 |cut (lv:List Nat) (co:List At) (a b:An)
 |blk (a:An)
 |loop (lv:List Nat) (co:List At) (a:An)
 |cond (a b:An)
 |mode (mem:Bool)
 |keep (lv:List Nat) (mem:Bool)
 |pr (n:Nat) (T E:TypeId)
def wK:An->Bool| .mode b=>b| .keep _ b=>b|_=>true
def s? {R:Type}(an:An)(inl:XV R):XV R:=match an with| .keep lv _=>λf as s k=>inl f as ⟨mD s.sl lv,s.it,s.st⟩ k|_=>inl
def An.l:An->An| .seq a _=>a| .cut _ _ a _=>a| .cond a _=>a| .blk a=>a| .loop _ _ a=>a|_=> .d
def An.r:An->An| .seq _ b=>b| .cut _ _ _ b=>b| .cond _ b=>b|_=> .d
structure K (R:Type)where
 n:S->Option R
 x:Nat->S->Option R
 r:S->Option R
def hold{R:Type}(k:S->Option R)(s:S):Option R:=k s
def pq{R:Type}(an:An)(k:S->Option R)(s:S):Option R:=match an with
 | .cut lv co _ _=>match s.cn lv co with|some s'=>hold k s'|none=>none
 |_=>k s
def OD{R:Type}(an:An)(k:S->Option R)(s:S):Option R:=match an with
 | .loop lv co _=>match s.cn lv co with|some s'=>k s'|none=>none
 |_=>none
def iter{R:Type}(an:An)(body:(S->Option R)->S->Option R):Nat->S->Option R
 |0,_=>none
 |q+1,s=>body (OD an (iter an body q)) s
noncomputable def vL:{n:Nat//n=As}:=Classical.choice ⟨⟨As,rfl⟩⟩
noncomputable def Bc:Nat:=vL.1
theorem Ah:Bc=As:=vL.2
noncomputable def ex{R:Type}(P:Program)(T:Tab)(inl:XV R)(n:Nat):Code->An->K R->S->Option R
 | .skip,_,k,s=>k.n s
 | .ret,_,k,s=>k.r s
 | .exit id,_,k,s=>k.x id s
 | .seq a b,an,k,s=>ex P T inl n a an.l {k with n:=pq an λs'=>ex P T inl n b an.r k s'} s
 | .cond c a b,an,k,s=>match Ds s.sl c with
  | .val .bool t=>if t=true then ex P T inl n a an.l k s else ex P T inl n b an.r k s
  |_=>none
 | .block id a,an,k,s=>ex P T inl n a an.l {k with x:=λid' s'=>Bz (Nat.beq id' id) (k.n s')<|k.x id' s'} s
 | .loop a,an,k,s=>OD an (iter an (λkn s'=>ex P T inl n a an.l {k with n:=kn} s') Bc) s
 | .region _ ops false,an,k,s=>Bz (gO ops.toList) (EW P T (s? an inl) n ops ops.toList s k.n)<|none
 | .region _ ops true,an,k,s=>Bz (gO ops.toList) (NJ P T (s? an inl) n (wK an) ops ops.size (Bz (wK an) (#[])<|Array.replicate ops.size true) (Array.replicate ops.size false) s k.n)<|none
 |_,_,_,_=>none
def Uq:Nat->List PV->Slots
 |_,[]=>[]
 |n,a::r=>(n,a)::Uq (n+1) r
def Z8(P:Program)(s:S):ResultVar->Option PV
 | .tmp t=>Bz ((Ds s.sl (.tmp t)).r? ) (some (Ds s.sl (.tmp t)))<|none
 | .cell a t=>match Wm s.sl a with
  | .ptr i p=>match Ca s.it i with
   | .box _ v=>match J3 v p with
    |some u=>Bz (Ll P t u) (some u)<|none
    |none=>none
   |_=>none
  |_=>none
def oY(P:Program)(s:S):List ResultVar->Option (List PV)
 |[]=>some []
 |r::rs=>match Z8 P s r,oY P s rs with|some v,some vs=>some (v::vs)|_,_=>none
def isW(i:Nat):PV->Bool
 | .cst v=>(match v with| .pointer none=>true|_=>false)
 | .wp j=>Nat.beq i j
 | .ptr j p=>Nat.beq i j&&p.isEmpty
 |_=>false
def Y5{R:Type}(n:Nat)(TB EB:TypeId)(as:List PV)(s:S)(k:S->PV->Option R):Option R:=
 match as with
 |[.ptr i []]=>match Ca s.it i with
  | .box T (.agg [a,v])=>Bz (Nat.beq T TB&&isW i a) (match n with
   |0=>Bz (Nat.beq v.size 1&& !v.isA) (k (s.Lq i (.box T (.agg [.wp i,v]))) (.tup [])) none
   |1=>(match v with
    | .nils=>k ((s.Lq i .dead).sub i .any) (.val .str [])
    | .own j=>(match Ca s.it j with
     | .arr E e l=>(match e,l with
      | .int .u8,l=>Bz (Nat.beq E EB) (Option.bind (Es (decide (Aa l<=17179869184))) λ_=>k ((((s.Lq i .dead).sub i .any).Lq j .dead).sub j .any) (.val .str l)) none
      |_,_=>none)
     |_=>none)
    |_=>none)
   |_=>none) none
  |_=>none
 |[.ptr i [], .val (.int .i64) m]=>match n with
  |2=>(match Ca s.it i with
   | .box T (.agg [.cst a, .nils])=>(match a with
    | .pointer none=>Bz (Nat.beq T TB) (Option.bind (Es (decide (0<=m/\m<=281474976710656))) λ_=>k ((s.add (.arr EB (.int .u8) [])).Lq i (.box T (.agg [.wp i, .own s.new]))) (.tup [])) none
    |_=>none)
   |_=>none)
  |_=>none
 |_=>none
noncomputable def Qn{R:Type}(P:Program)(T:Tab):Nat->List (Nat×An)->XV R
 |0,_=>λ_ _ _ _=>none
 |q+1,QL=>λf as s k=>match uw QL f,P.funcs[f]? with
  |some an,some fn=>match an with
   | .pr n TB EB=>Y5 n TB EB as s k
   |_=>match fn.body with
    |none=>none
    |some c=>Bz (Nat.ble as.length fn.ntmps) (
     ex P T (Qn P T q QL) fn.ntmps c an {n:=Q2 P fn.results.toList k,x:=λ_ _=>none,r:=Q2 P fn.results.toList k} ⟨Uq 0 as,s.it,s.sl::s.st⟩)<|none
  |_,_=>none
where
 uw:List (Nat×An)->Nat->Option An|[],_=>none|(g,a)::r,f=>Bz (Nat.beq g f) (some a)<|uw r f
 Q2 {R:Type} (P:Program) (vars:List ResultVar) (k:S->PV->Option R) (s':S):Option R:=match oY P s' vars,s'.st with
  |some vs,sl::st=>k ⟨sl,s'.it,st⟩ (R3 vs)
  |_,_=>none
def R2:List (ET×Option TypeId)->List PV->List Nat
 |(_,none)::r,v::vs=>owns v++R2 r vs
 |(_,some _)::r,_::vs=>R2 r vs
 |_,_=>[]
def k!(P:Program)(rs:List Sh)(vars:List ResultVar)(s:S):Option (List PV):=match oY P s vars with|some vs=>TR rs vs|none=>none
def bZ(P:Program)(rs:List Sh)(vars:List ResultVar)(s0:S):Option (Uw (Oe rs)):=
 match k! P rs vars s0 with
 |none=>none
 |some ls0=>match s0.BU (R2 (Oe rs) ls0)with
  |none=>none
  |some s=>match k! P rs vars s with
   |some ls=>Bz (SG s (Oe rs) ls []) (JO s (Oe rs) ls)<|none
   |none=>none
def args(ps:List Sh)(x:Uw (Oe ps)):Option (List PV):=dU ps (Ec (Oe ps) x ⟨[],[],[]⟩).1
def J0(ps:List Sh)(x:Uw (Oe ps)):List Item:=(Ec (Oe ps) x ⟨[],[],[]⟩).2.it
noncomputable def run(P:Program)(T:Tab)(QL:List (Nat×An))(f:Func)(an:An)(ps rs:List Sh)(x:Uw (Oe ps)):Option (Uw (Oe rs)):=
 match f.body,args ps x with
 |some c,some vs=>ex P T (Qn P T 8 QL) f.ntmps c an {n:=bZ P rs f.results.toList,x:=λ_ _=>none,r:=bZ P rs f.results.toList} ⟨Uq 0 vs,J0 ps x,[]⟩
 |_,_=>none
end Go.Rx
namespace Go.Rx
open Go Go.Lv
variable{σ:Env}{i:Nat}{s:S}{v:Value}
inductive MD|dead|box (b:Nat) (cells:List Value) (T:TypeId)|own (s:Nat) (E:TypeId) (v:Value) (cs:List Value)
def MD.Eh:MD->Mob
 | .dead=> .own 1 0 (.slice none 0 0) []
 | .box b c T=> .box b c T
 | .own s E v cs=> .own s E v cs
def MD.base:MD->Option Nat
 | .box b _ _=>some b
 | .own _ _ (.slice (some ⟨b,0,none⟩) _ _) _=>some b
 |_=>none
def Bs{α:Type}(f:α->List Value->Prop):List α->List Value->Prop
 |[],cs=>cs=[]
 |x::l,cs=>∃c1 c2,cs=c1++c2/\f x c1/\Bs f l c2
def Aq(B:Reg)(w:World):(e:ET)->e.T->List Value->Prop
 | .int k,x,cs=>cs=[iv (T:=k.T) (k:=k.k) x]
 | .bool,b,cs=>cs=[.bool b]
 | .str,s,cs=>cs=[sv s]
 | .list e,l,cs=>∃v c0,cs=[v]/\Rd B w e.size v c0/\Bs (Aq B w e) l c0
 | .vec n e,l,cs=>l.length=n/\Bs (Aq B w e) l cs
 | .cons a r,x,cs=>∃c1 c2,cs=c1++c2/\Aq B w a x.1 c1/\Aq B w r x.2 c2
 | .nil,_,cs=>cs=[]
def jB:Step->Nat| .fld _ off=>off| .idx j z=>j.toNat*z
def Ar:List Step->Nat|[]=>0|s::r=>jB s+Ar r
def O!(B:Reg)(w:World)(pv:Value)(cs:List Value):Prop:=
 ∃b off arr T fr,pv= .pointer (some ⟨b,off,none⟩)/\B b/\w.heap[b]? =some (.cells arr T fr)/\∀i,i<cs.length->arr[off+i]? =cs[i]?
def asV(agg:Bool)(f:List Value->Prop)(v:Value):Prop:=match agg with|true=>∃cs:List Value,v= .agg cs.toArray/\f cs|false=>f [v]
def R6(o:Bool)(md:MD)(p:List Step)(z:Nat)(lo n:Int)(v:Value):Prop:=
 0<=lo/\0<=n/\ (∃pt cap,v= .slice pt n.toNat cap/\n.toNat<=cap/\ (pt=none->cap=0)/\ (0<cap->∃b,md.base=some b/\pt=some ⟨b,Ar p+lo.toNat*z,none⟩))/\
  (o=true->∃s E q len cap c0,md= .own s E (.slice q len cap) c0/\p=[]/\lo.toNat+n.toNat<=len/\ (∀pt m cap',v= .slice pt m cap'->lo.toNat+cap'<=cap)/\ (lo=0->v= .slice q n.toNat cap))/\ (o=false->∃b,md.base=some b)
def WX(st:Bool)(k:List UInt8):Value:=match st with|true=>sv k|false=>iv (T:=UInt8) (k:= .u8) (k.headD 0)
def Au(B:Reg)(w:World)(L:List MD):PV->List Value->Prop
 | .val e x,cs=>Aq B w e x cs
 | .agg l,cs=>go B w L l cs
 | .tup _,_=>False
 | .nils,cs=>cs=[.slice none 0 0]
 | .own i,cs=>∃s E v c0,L[i]? =some (.own s E v c0)/\cs=[v]
 | .ptr i p,cs=>∃md b,L[i]? =some md/\md.base=some b/\cs=[.pointer (some ⟨b,Ar p,none⟩)]
 | .wp i,cs=>cs=[.pointer none]\/∃md b,L[i]? =some md/\md.base=some b/\cs=[.pointer (some ⟨b,0,none⟩)]
 | .rptr v,cs=>∃pv c0,cs=[pv]/\O! B w pv c0/\Au B w L v c0
 | .view o i p e lo n,cs=>∃md v,L[i]? =some md/\cs=[v]/\R6 o md p e.size lo n v
 | .fn f caps,cs=>∃vs:List Value,cs=[.func (.func f) #[] vs.toArray]/\goV B w L caps vs
 | .cap e l c,cs=>∃v c0,cs=[v]/\Rd B w e.size v c0/\Bs (Aq B w e) l c0/\0<=c/\∃p len,v= .slice p len c.toNat
 | .mp st ks l,cs=>∃r es n,cs=[.map (some r)]/\B r/\w.heap[r]? =some (.map es n)/\es.toList.map (·.key)=ks.map (WX st)/\goV B w L l (es.toList.map (·.val))
 | .bfn f fs,cs=>∃vs:List Value,cs=[.func (.func f) vs.toArray #[]]/\goV B w L fs vs
 | .cst v,cs=>cs=[v]/\v.oneCell'=true
 | .any,cs=>∃v,cs=[v]/\v.oneCell'=true
 | .gd _ _ _,_=>False
 | .off,_=>False
 | .undef,_=>False
where
 go (B:Reg) (w:World) (L:List MD):List PV->List Value->Prop
 |[],cs=>cs=[]
 |a::r,cs=>∃c1 c2,cs=c1++c2/\Au B w L a c1/\go B w L r c2
 goV (B:Reg) (w:World) (L:List MD):List PV->List Value->Prop
 |[],vs=>vs=[]
 |a::r,vs=>∃v vs',vs=v::vs'/\asV a.isA (Au B w L a) v/\goV B w L r vs'
def Fp(B:Reg)(w:World)(L:List MD)(p:PV)(v:Value):Prop:=asV p.isA (Au B w L p) v
abbrev Dx:=Au.goV
def Dp(B:Reg)(w:World)(L:List MD):PV->Value->Prop
 | .tup l,v=>∃vs:List Value,v= .tuple vs.toArray/\Dx B w L l vs
 |p,v=>Fp B w L p v
def Fy(B:Reg)(w:World)(L:List MD)(σ:Env)(t:Nat):PV->Prop
 | .undef=>True
 | .off=>σ t=Go.undef
 | .gd j want p=>∃b,σ j= .bool b/\ (b=want->Dp B w L p (σ t))/\ (b≠want->σ t=Go.undef)
 |p=>Dp B w L p (σ t)
def Vj(B:Reg)(w:World)(L:List MD):Item->MD->Prop
 | .dead,_=>True
 | .box T v, .box b cells T'=>T'=T/\Au B w L v cells
 | .arr E e l, .own s E' v cs=>E'=E/\s=e.size/\Bs (Aq B w e) l cs
 |_,_=>False
def Ex(B:Reg)(w:World)(L:List MD)(σ:Env)(sl:Slots):Prop:=∀p∈sl,Fy B w L σ p.1 p.2
def XC(B:Reg)(w:World)(L:List MD):List Env->List Slots->Prop
 |[],[]=>True
 |σ::σs,sl::st=>Ex B w L σ sl/\XC B w L σs st
 |_,_=>False
def Asa(B:Reg)(w:World)(L:List MD)(it:List Item):Prop:=it.length=L.length/\∀(i:Nat) (a:Item) (m:MD),it[i]? =some a->L[i]? =some m->Vj B w L a m
structure MemR (B:Reg) (w:World) (L:List MD) (s:S) (σs:List Env) (σ:Env):Prop where
 it:Asa B w L s.it
 sl:Ex B w L σ s.sl
 stk:XC B w L σs s.st
variable {B B':Reg} {w w':World} {L L':List MD}
theorem Bs.mono{α:Type}{f g:α->List Value->Prop}(h:∀x c,f x c->g x c):∀{l:List α} {cs:List Value},Bs f l cs->Bs g l cs
 |[],_,hh=>hh
 |_::_,_,⟨c1,c2,e,h1,h2⟩=>⟨c1,c2,e,h _ _ h1,Bs.mono h h2⟩
theorem Aq.step(hb:∀b,B b->B' b)(hs:Same B w w'):∀{e:ET} {x:e.T} {cs:List Value},Aq B w e x cs->Aq B' w' e x cs
 | .int k,x,cs,h=>h
 | .bool,x,cs,h=>h
 | .str,x,cs,h=>h
 | .list e,l,cs,⟨v,c0,e1,h1,h2⟩=>⟨v,c0,e1,h1.step hb hs,h2.mono λx c h=>Aq.step hb hs h⟩
 | .vec n e,l,cs,⟨h1,h2⟩=>⟨h1,h2.mono λx c h=>Aq.step hb hs h⟩
 | .cons a r,x,cs,⟨c1,c2,e,h1,h2⟩=>⟨c1,c2,e,Aq.step hb hs h1,Aq.step hb hs h2⟩
 | .nil,_,cs,h=>h
def NF(L L':List MD):Prop:=(∀(i s:Nat) (E:TypeId) (v:Value) (c:List Value),L[i]? =some (.own s E v c)->∃s' E' c',L'[i]? =some (.own s' E' v c'))/\ (∀(i:Nat) (md:MD) (b:Nat),L[i]? =some md->md.base=some b->∃md',L'[i]? =some md'/\md'.base=some b)
theorem NF.refl(L:List MD):NF L L:=⟨λ_ _ _ _ _ h=>⟨_,_,_,h⟩,λ_ md _ h h'=>⟨md,h,h'⟩⟩
theorem NF.append(L M:List MD):NF L (L++M):=by
 have key:∀(i:Nat) (a:MD),L[i]? =some a-> (L++M)[i]? =some a:=λi a h=>by
  rw[F? (List.getElem?_eq_some_iff.1 h).1];exact h
 exact⟨λi s E v c h=>⟨s,E,c,key _ _ h⟩,λi md b h h'=>⟨md,key _ _ h,h'⟩⟩
theorem O!.step{pv:Value}{cs:List Value}(hb:∀b,B b->B' b)(hs:Same B w w')(h:O! B w pv cs):O! B' w' pv cs:=by
 obtain⟨b,off,arr,T,fr,h1,h2,h3,h4⟩:=h;exact⟨b,off,arr,T,fr,h1,hb _ h2,(hs b h2).trans h3,h4⟩
theorem R6.step{o:Bool}{md:MD}{p:List Step}{z:Nat}{lo n:Int}(hl:NF L L')(hi:L[i]? =some md)(h:R6 o md p z lo n v):∃md',L'[i]? =some md'/\R6 o md' p z lo n v:=by
 obtain⟨h1,h2,⟨pt,cap,h3,h4,h5,h6⟩,h7,h8⟩:=h;cases o with
 |true=>
  obtain⟨s,E,q,len,cap0,c0,rfl,g2,g3,g4,g5'⟩:=h7 rfl;obtain⟨s',E',c',g5⟩:=hl.1 i s E _ c0 hi;refine⟨_,g5,h1,h2,⟨pt,cap,h3,h4,h5,λhc=>?_⟩,λ_=>⟨s',E',q,len,cap0,c',rfl,g2,g3,g4,g5'⟩,(λh=>by cases h)⟩;obtain⟨b,e1,e2⟩:=h6 hc;obtain⟨md',k1,k2⟩:=hl.2 i _ b hi e1;rw[g5]at k1;cases k1;exact⟨b,k2,e2⟩
 |false=>
  obtain⟨b0,hb0⟩:=h8 rfl;obtain⟨md',k1,k2⟩:=hl.2 i _ b0 hi hb0;refine⟨md',k1,h1,h2,⟨pt,cap,h3,h4,h5,λhc=>?_⟩,(λh=>by cases h),λ_=>⟨b0,k2⟩⟩;obtain⟨b,e1,e2⟩:=h6 hc;rw[hb0]at e1;cases e1;exact⟨b0,k2,e2⟩
theorem asV.mono{a:Bool}{f g:List Value->Prop}(h:∀c,f c->g c)(hv:asV a f v):asV a g v:=by
 cases a with
 |true=>obtain⟨cs,e,h1⟩:=hv;exact⟨cs,e,h _ h1⟩
 |false=>exact h _ hv
mutual
theorem Au.step(hb:∀b,B b->B' b)(hs:Same B w w')(hl:NF L L'):∀{p:PV} {cs:List Value},Au B w L p cs->Au B' w' L' p cs
 | .val e x,cs,h=>Aq.step hb hs (show Aq B w e x cs from h)
 | .agg l,cs,h=>Au.w! hb hs hl (show Au.go B w L l cs from h)
 | .tup _,_,h=>h.elim
 | .nils,cs,h=>h
 | .own i,cs,⟨s,E,v,c0,h1,h2⟩=>let⟨s',E',c',h3⟩:=hl.1 i s E v c0 h1;⟨s',E',v,c',h3,h2⟩
 | .ptr i p,cs,⟨md,b,h1,h2,h3⟩=>let⟨md',h4,h5⟩:=hl.2 i md b h1 h2;⟨md',b,h4,h5,h3⟩
 | .rptr v,cs,⟨pv,c0,h1,h2,h3⟩=>⟨pv,c0,h1,h2.step hb hs,Au.step hb hs hl h3⟩
 | .wp i,cs, .inl h=> .inl h
 | .wp i,cs, .inr ⟨md,b,h1,h2,h3⟩=>let⟨md',h4,h5⟩:=hl.2 i md b h1 h2; .inr ⟨md',b,h4,h5,h3⟩
 | .view o i p e lo n,cs,⟨md,v,h1,h2,h3⟩=>let⟨md',h4,h5⟩:=h3.step hl h1;⟨md',v,h4,h2,h5⟩
 | .fn f caps,cs,⟨vs,h1,h2⟩=>⟨vs,h1,Au.zW hb hs hl h2⟩
 | .bfn f fs,cs,⟨vs,h1,h2⟩=>⟨vs,h1,Au.zW hb hs hl h2⟩
 | .cap e l c,cs,⟨v,c0,e1,h1,h2,h3,h4⟩=>⟨v,c0,e1,h1.step hb hs,h2.mono λx c h=>Aq.step hb hs h,h3,h4⟩
 | .mp st ks l,cs,⟨r,es,n,h1,h2,h3,h4,h5⟩=>⟨r,es,n,h1,hb _ h2,(hs r h2).trans h3,h4,Au.zW hb hs hl h5⟩
 | .cst v,cs,h=>h
 | .any,cs,h=>h
 | .gd _ _ _,_,h=>h.elim
 | .off,_,h=>h.elim
 | .undef,_,h=>h.elim
theorem Au.w!(hb:∀b,B b->B' b)(hs:Same B w w')(hl:NF L L'):∀{l:List PV} {cs:List Value},Au.go B w L l cs->Au.go B' w' L' l cs
 |[],cs,h=>h
 |a::r,cs,⟨c1,c2,e,h1,h2⟩=>⟨c1,c2,e,Au.step hb hs hl h1,Au.w! hb hs hl h2⟩
theorem Au.zW(hb:∀b,B b->B' b)(hs:Same B w w')(hl:NF L L'):∀{l:List PV} {vs:List Value},Dx B w L l vs->Dx B' w' L' l vs
 |[],vs,h=>h
 |a::r,vs,⟨v,vs',e,h1,h2⟩=>⟨v,vs',e,h1.mono λc h=>Au.step hb hs hl h,Au.zW hb hs hl h2⟩
end
theorem Fp.step(hb:∀b,B b->B' b)(hs:Same B w w')(hl:NF L L'){p:PV}{v:Value}(h:Fp B w L p v):Fp B' w' L' p v:=asV.mono (λ_ h=>Au.step hb hs hl h) h
theorem Dp.step(hb:∀b,B b->B' b)(hs:Same B w w')(hl:NF L L'){p:PV}{v:Value}(h:Dp B w L p v):Dp B' w' L' p v:=by
 cases p<;>first
  |(obtain⟨vs,e,h1⟩:=h;exact⟨vs,e,Au.zW hb hs hl h1⟩)
  |(apply Fp.step hb hs hl;exact h)
def PV.isV:PV->Bool| .undef=>false| .off=>false| .gd _ _ _=>false|_=>true
theorem Fy.iff{t:Nat}{p:PV}(hv:p.isV=true):Fy B w L σ t p↔Dp B w L p (σ t):=by
 cases p<;>first|exact O4|cases hv
theorem Fy.step(hb:∀b,B b->B' b)(hs:Same B w w')(hl:NF L L'){σ:Env}{t:Nat}{p:PV}(h:Fy B w L σ t p):Fy B' w' L' σ t p:=by
 cases p
 case undef=>exact h
 case off=>exact h
 case gd=>obtain⟨b,h1,h2,h3⟩:=h;exact⟨b,h1,λe=>(h2 e).step hb hs hl,h3⟩
 all_goals exact(Fy.iff rfl).2 (((Fy.iff rfl).1 h).step hb hs hl)
theorem Ex.step(hb:∀b,B b->B' b)(hs:Same B w w')(hl:NF L L'){σ:Env}{sl:Slots}(h:Ex B w L σ sl):Ex B' w' L' σ sl:=λp hp=>(h p hp).step hb hs hl
theorem XC.step(hb:∀b,B b->B' b)(hs:Same B w w')(hl:NF L L'):∀{σs:List Env} {st:List Slots},XC B w L σs st->XC B' w' L' σs st
 |[],[],h=>h
 |_::_,_::_,⟨h1,h2⟩=>⟨h1.step hb hs hl,h2.step hb hs hl⟩
theorem Vj.step(hb:∀b,B b->B' b)(hs:Same B w w')(hl:NF L L'){a:Item}{m:MD}(h:Vj B w L a m):Vj B' w' L' a m:=by
 cases a<;>cases m<;>first
  |exact h
  |exact⟨h.1,Au.step hb hs hl h.2⟩
  |exact⟨h.1,h.2.1,h.2.2.mono λx c h=>Aq.step hb hs h⟩
theorem MemR.step{s:S}{σs:List Env}{σ:Env}(h:MemR B w L s σs σ)(hb:∀b,B b->B' b)(hs:Same B w w'):MemR B' w' L s σs σ:=
 ⟨⟨h.it.1,λi a m h1 h2=>(h.it.2 i a m h1 h2).step hb hs (.refl L)⟩,h.sl.step hb hs (.refl L),h.stk.step hb hs (.refl L)⟩
def vD(R:Reg)(L:List MD)(s:S)(σs:List Env)(σ:Env):Fact where
 holds A w:=MemR (λb=>A b/\R b) w L s σs σ
 step h ha hs _:=h.step (λb ⟨h1,h2⟩=>⟨ha b h1,h2⟩) (λb ⟨h1,_⟩=>hs b h1)
structure Fix where
 R:Reg
 M:Reg
 w0:World
 new:∀b,w0.heap.size<=b->R b
 mod:∀b,M b->R b
 gl:List (Nat×List Value)
 glok:∀p∈gl,R p.1/\ ¬M p.1/\p.1<w0.heap.size/\∃T fr,w0.heap[p.1]? =some (.cells p.2.toArray T fr)
abbrev Rel(Z:Fix)(s:S)(σs:List Env)(A:Reg)(L:List MD)(σ:Env)(w:World):Prop:=St A w [vD Z.R L s σs σ, .old Z.M Z.w0] (L.map MD.Eh)
theorem Rel.mem{Z:Fix}{σs:List Env}{A:Reg}{L:List MD}{w:World}(h:Rel Z s σs A L σ w):MemR (λb=>A b/\Z.R b) w L s σs σ:=h.fact 0 rfl
theorem Rel.JK{Z:Fix}{σs:List Env}{A:Reg}{L:List MD}{w:World}(h:Rel Z s σs A L σ w){p:Nat×List Value}(hp:p∈Z.gl):(A p.1/\Z.R p.1)/\∃T fr,w.heap[p.1]? =some (.cells p.2.toArray T fr):=by
 obtain⟨h1,h2,h3,T,fr,h4⟩:=Z.glok p hp;obtain⟨h5,h6⟩:=(h.fact 1 (f:= .old Z.M Z.w0) rfl).2 p.1 h3 h2;exact⟨⟨h5,h1⟩,T,fr,h6.trans h4⟩
theorem Rel.as{Z:Fix}{σs:List Env}{A:Reg}{L:List MD}{w:World}{F:List Fact}{LL:List Mob}(h:St A w F LL)(hF:F[i]? =some (.old Z.M Z.w0))
  (hm:MemR (λb=>A b/\Z.R b) w L s σs σ) (hL:LL=L.map MD.Eh):Rel Z s σs A L σ w:=by
 subst hL;exact(h.noF.sJ (f:= .old Z.M Z.w0) (h.fact i hF)).sJ (f:=vD Z.R L s σs σ) hm
end Go.Rx
namespace Go.Rx
open Go Go.Lv
variable{o:BinOp}{e:ET}{k:Kd}{i t:Nat}{x:Operand}{v:Value}
variable {P:Program} {B:Reg} {w:World} {L:List MD} {s:S} {σs:List Env} {σ:Env}
theorem FA{x:k.T}(h:Dp B w L (.val (.int k) x) v):v=iv (T:=k.T) (k:=k.k) x:=by
 have: [v]=[iv (T:=k.T) (k:=k.k) x]:=h;simpa using this
theorem DH{x:Bool}(h:Dp B w L (.val .bool x) v):v= .bool x:=by
 have: [v]=[.bool x]:=h;simpa using this
theorem rA{x:List UInt8}(h:Dp B w L (.val .str x) v):v=sv x:=by
 have: [v]=[sv x]:=h;simpa using this
theorem EZ{p:List Step}{md:MD}{b:Nat}(h:L[i]? =some md)(hb:md.base=some b):Dp B w L (.ptr i p) (.pointer (some ⟨b,Ar p,none⟩)):=⟨md,b,h,hb,rfl⟩
theorem Us{p:List Step}(h:Dp B w L (.ptr i p) v):∃md b,L[i]? =some md/\md.base=some b/\v= .pointer (some ⟨b,Ar p,none⟩):=by
 obtain⟨md,b,h1,h2,h3⟩:=h;exact⟨md,b,h1,h2,by simpa using h3⟩
theorem FB(h:Dp B w L (.own i) v):∃z E c0,L[i]? =some (.own z E v c0):=by
 obtain⟨z,E,v',c0,h1,h2⟩:=h;have:v=v':=by simpa using h2
 subst this;exact⟨z,E,c0,h1⟩
theorem Xh{l:List e.T}(h:Dp B w L (.val (.list e) l) v):∃c0,Rd B w e.size v c0/\Bs (Aq B w e) l c0:=by
 obtain⟨v',c0,h1,h2,h3⟩:=h;have:v=v':=by simpa using h1
 subst this;exact⟨c0,h2,h3⟩
theorem jV{l:List e.T}{c0:List Value}(h1:Rd B w e.size v c0)(h2:Bs (Aq B w e) l c0):Dp B w L (.val (.list e) l) v:=⟨v,c0,rfl,h1,h2⟩
theorem CU(h:Dp B w L .nils v):v= .slice none 0 0:=by
 have: [v]=[.slice none 0 0]:=h;simpa using this
theorem qb{f:Nat}{caps:List PV}(h:Dp B w L (.fn f caps) v):∃vs:List Value,v= .func (.func f) #[] vs.toArray/\Dx B w L caps vs:=by
 obtain⟨vs,h1,h2⟩:=h;exact⟨vs,by simpa using h1,h2⟩
theorem vC{p:PV}(h:Dp B w L (.rptr p) v):∃c0,O! B w v c0/\Au B w L p c0:=by
 obtain⟨pv,c0,h1,h2,h3⟩:=h;have:v=pv:=by simpa using h1
 subst this;exact⟨c0,h2,h3⟩
theorem PU{p:PV}(hp:p.r? =true):Dp B w L p v↔Fp B w L p v:=by cases p<;>first|exact O4|cases hp
theorem PV.e_{p:PV}(hp:p.r? =true):p.isV=true:=by cases p<;>first|rfl|cases hp
theorem Tc{p:PV}(h:p.isV=false):p= .undef\/p= .off\/∃j w q,p= .gd j w q:=by
 cases p
 case undef=>exact .inl rfl
 case off=>exact .inr (.inl rfl)
 case gd j w q=>exact .inr (.inr ⟨j,w,q,rfl⟩)
 all_goals cases h
def known(p:PV):Option PV:=match p with| .undef=>none| .off=>none| .gd _ _ _=>none|v=>some v
theorem Z1{p q:PV}(h:known p=some q):p=q/\q.isV=true:=by
 cases hv:p.isV with
 |true=>
  have:known p=some p:=by cases p<;>first|rfl|cases hv
  rw[this]at h;cases h;exact⟨rfl,hv⟩
 |false=>rcases Tc hv with rfl|rfl|⟨_,_,_,rfl⟩<;>cases h
theorem nK:∀(sl:Slots) (t:Nat),Wm sl t= .undef\/ (t,Wm sl t)∈sl
 |[],_=> .inl rfl
 |(q,v)::r,t=>by
  simp only[Wm];cases h:Nat.beq q t with
  |true=>
   have:=G6 h;subst this;exact .inr F7
  |false=>exact(nK r t).imp (λh=>h) (λh=>H! _ h)
theorem Mb(hm:Ex B w L σ s.sl):Fy B w L σ t (Wm s.sl t):=by
 rcases nK s.sl t with h|h
 ·rw[h];exact trivial
 ·exact hm _ h
theorem vP{k:IntKind}{kd:Kd}(h:Kd.of k=some kd):kd.k=k:=by
 cases k<;>simp[Kd.of]at h<;>subst h<;>rfl
theorem gI(v:Value):ofConst v= .undef\/ ((ofConst v).r? =true/\Fp B w L (ofConst v) v):=by
 unfold ofConst;split
 ·rename_i k n;split
  ·rename_i kd hk;have hk':=vP hk;subst hk';cases hd:decide (kd.gi.toZ (kd.gi.ofZ n)=n)with
   |true=>
    refine .inr ⟨rfl,?_⟩;have:kd.gi.toZ (kd.gi.ofZ n)=n:=by simpa using hd
    show [_]=[_];simp[iv,this]
   |false=>exact .inr ⟨rfl,rfl,rfl⟩
  ·exact .inr ⟨rfl,rfl,rfl⟩
 ·exact .inr ⟨rfl,rfl⟩
 ·rename_i b;refine .inr ⟨rfl,?_⟩
  show [_]=[_];simp[sv,bytesOf]
 ·exact .inr ⟨rfl,rfl⟩
 ·exact .inl rfl
 ·exact .inl rfl
 ·rename_i h1 h2 h3 h4 h5 h6;refine .inr ⟨rfl,rfl,?_⟩;cases v<;>first|rfl|exact(h5 _ rfl).elim|exact(h6 _ rfl).elim
theorem Nc(hm:Ex B w L σ s.sl)(x:Operand)(hv:(Ds s.sl x).isV=true):Dp B w L (Ds s.sl x) (ev σ x):=by
 cases x with
 |tmp t=>
  have h:=Mb (t:=t) hm
  revert hv
  simp only[Ds,ev];split
  ·rename_i b hb;intro _;rw[hb]at h;have h2: [σ t]=[Value.bool b]:=h.1;have h3:σ t= .bool b:=by simpa using h2
   rw[h3];rfl
  ·rename_i hv';intro hv;exact(Fy.iff hv).1 h
 |const v=>
  rcases gI (B:=B) (w:=w) (L:=L) v with h|h
  ·rw[show Ds s.sl (.const v)= .undef from h]at hv;cases hv
  ·exact(PU h.1).2 h.2
 |global g=>cases hv
 |func f=>exact⟨[],rfl,rfl⟩
theorem Ct{p:PV}(hm:Ex B w L σ s.sl)(h:Ds s.sl x=p)(hv:p.isV=true):Dp B w L p (ev σ x):=by
 subst h;exact Nc hm x hv
theorem Wc{a:k.T}(hm:Ex B w L σ s.sl)(h:Ds s.sl x= .val (.int k) a):ev σ x=iv (T:=k.T) (k:=k.k) a:=FA (Ct hm h rfl)
theorem sU{a:Bool}(hm:Ex B w L σ s.sl)(h:Ds s.sl x= .val .bool a):ev σ x= .bool a:=DH (Ct hm h rfl)
theorem Oz{a:List UInt8}(hm:Ex B w L σ s.sl)(h:Ds s.sl x= .val .str a):ev σ x=sv a:=rA (Ct hm h rfl)
theorem Akq{x y:k.T}{v:PV}{t:TypeId}(h:dG k o x y=some v):v.isV=true/\∃val,Iz P o t (iv (T:=k.T) (k:=k.k) x) (iv (T:=k.T) (k:=k.k) y) val/\Dp B w L v val:=by
 cases o<;>simp only[dG,E6,reduceCtorEq]at h<;>subst h
 ·exact⟨rfl,_,Bin.add _ _,rfl⟩
 ·exact⟨rfl,_,Bin.sub _ _,rfl⟩
 ·exact⟨rfl,_,Bin.mul _ _,rfl⟩
 ·exact⟨rfl,_,Bin.and _ _,rfl⟩
 ·exact⟨rfl,_,Bin.or _ _,rfl⟩
 ·exact⟨rfl,_,Bin.xor _ _,rfl⟩
 ·exact⟨rfl,_,Bin.eql _ _,rfl⟩
 ·exact⟨rfl,_,Bin.neq _ _,rfl⟩
 ·exact⟨rfl,_,Bin.lss _ _,rfl⟩
 ·exact⟨rfl,_,Bin.leq _ _,rfl⟩
 ·exact⟨rfl,_,Bin.gtr _ _,rfl⟩
 ·exact⟨rfl,_,Bin.geq _ _,rfl⟩
theorem Aed(h:k.isU=true)(y:k.T):0<=k.gi.toZ y:=by
 cases k<;>first|exact N' _|cases h
theorem ou(k:Kd):k.gi.toZ (k.gi.ofZ 0)=0:=by cases k<;>rfl
theorem M2{k':Kd}{x:k.T}{y:k'.T}{v:PV}{t:TypeId}(h:P8 o k x k' y=some v)(hc:O5 o k' y=some true):
  v.isV=true/\∃val,Iz P o t (iv (T:=k.T) (k:=k.k) x) (iv (T:=k'.T) (k:=k'.k) y) val/\Dp B w L v val:=by
 have hnz:Bb y (k'.gi.ofZ 0)=true->k'.gi.toZ y≠0:=λh hz=>by
  simp[Bb,ou,hz]at h
 have hsh:(Bz (k'.isU) (true)<|Fu y (k'.gi.ofZ 0))=true->0<=k'.gi.toZ y:=λh=>by
  cases hu:k'.isU with
  |true=>exact Aed hu y
  |false=>rw[hu]at h;simpa [Fu,ou]using h
 cases o<;>simp only[P8,O5,E6,reduceCtorEq]at h hc
 ·split at h
  ·rename_i hk;subst hk;cases h;exact⟨rfl,_,Bin.quo _ _ (hnz hc),rfl⟩
  ·cases h
 ·split at h
  ·rename_i hk;subst hk;have hz:=hnz hc;cases k'<;>simp only[wT,IZ,N7,E6,reduceCtorEq]at h<;>subst h
   ·exact⟨rfl,_,Bin.Aqg _ _ hz,rfl⟩
   ·exact⟨rfl,_,Bin.Ar8 _ _ hz,rfl⟩
   ·exact⟨rfl,_,Bin.Api _ _ hz,rfl⟩
   ·exact⟨rfl,_,Bin.Am2 _ _ hz,rfl⟩
  ·cases h
 ·subst h;exact⟨rfl,_,Bin.shl _ _ (hsh hc),rfl⟩
 ·have h0:=hsh hc;cases k<;>simp only[wY,IZ,N7,E6,reduceCtorEq]at h<;>subst h
  ·exact⟨rfl,_,Bin.An4 _ _ h0,rfl⟩
  ·exact⟨rfl,_,Bin.Asv _ _ h0,rfl⟩
  ·exact⟨rfl,_,Bin.Anl _ _ h0,rfl⟩
  ·exact⟨rfl,_,Bin.An7 _ _ h0,rfl⟩
  ·exact⟨rfl,_,Bin.Aph _ _ h0,rfl⟩
theorem Bs.len{α:Type}{f:α->List Value->Prop}{z:Nat}(h:∀x c,f x c->c.length=z):∀{l:List α} {cs:List Value},Bs f l cs->cs.length=l.length*z
 |[],_,hh=>by rw[show _=[]from hh];simp
 |x::l,_,⟨c1,c2,e,h1,h2⟩=>by
  subst e;rw[C!,h x c1 h1,Bs.len h h2,C3,J9];omega
theorem Aq.len:∀{e:ET} {x:e.T} {cs:List Value},Aq B w e x cs->cs.length=e.size
 | .int k,x,cs,h=>by rw[show cs=_ from h];rfl
 | .bool,x,cs,h=>by rw[show cs=_ from h];rfl
 | .str,x,cs,h=>by rw[show cs=_ from h];rfl
 | .list e,l,cs,⟨v,c0,e1,_,_⟩=>by rw[e1];rfl
 | .vec n e,l,cs,⟨h1,h2⟩=>by rw[h2.len λx c h=>Aq.len h,h1];rfl
 | .cons a r,x,cs,⟨c1,c2,e,h1,h2⟩=>by rw[e,C!,Aq.len h1,Aq.len h2];rfl
 | .nil,_,cs,h=>by rw[show cs=_ from h];rfl
mutual
theorem Au.len:∀{p:PV} {cs:List Value},Au B w L p cs->cs.length=p.size
 | .val e x,cs,h=>Aq.len (show Aq B w e x cs from h)
 | .agg l,cs,h=>Au.wU (show Au.go B w L l cs from h)
 | .tup _,_,h=>h.elim
 | .nils,cs,h=>by rw[show cs=_ from h];rfl
 | .own i,cs,⟨_,_,_,_,_,h⟩=>by rw[h];rfl
 | .ptr i p,cs,⟨_,_,_,_,h⟩=>by rw[h];rfl
 | .rptr v,cs,⟨_,_,h,_⟩=>by rw[h];rfl
 | .wp _,cs,h=>by rcases h with h|⟨_,_,_,_,h⟩<;>rw[h]<;>rfl
 | .fn f caps,cs,⟨_,h,_⟩=>by rw[h];rfl
 | .cap _ _ _,cs,⟨_,_,h,_⟩=>by rw[h];rfl
 | .bfn _ _,cs,⟨_,h,_⟩=>by rw[h];rfl
 | .mp _ _ _,cs,⟨_,_,_,h,_⟩=>by rw[h];rfl
 | .cst v,cs,h=>by rw[show cs=_ from h.1];rfl
 | .any,cs,⟨_,h,_⟩=>by rw[h];rfl
 | .view _ _ _ _ _ _,cs,⟨_,_,_,h,_⟩=>by rw[h];rfl
 | .gd _ _ _,_,h=>h.elim
 | .off,_,h=>h.elim
 | .undef,_,h=>h.elim
theorem Au.wU:∀{l:List PV} {cs:List Value},Au.go B w L l cs->cs.length=PV.size.go l
 |[],cs,h=>by rw[show cs=_ from h];rfl
 |a::r,cs,⟨c1,c2,e,h1,h2⟩=>by rw[e,C!,Au.len h1,Au.wU h2];rfl
end
theorem Au.field:∀{l:List PV} {n:Nat} {f:PV} {cs:List Value},Au.go B w L l cs->l[n]? =some f->∃c1 c2 c3,cs=c1++(c2++c3)/\c1.length=P9 l n/\Au B w L f c2/\
  (∀f' c2',Au B w L f' c2'->Au.go B w L (l.set n f') (c1++(c2'++c3)))
 |[],n,f,cs,_,h=>by simp at h
 |a::r,0,f,cs,⟨c1,c2,e,h1,h2⟩,h=>by
  simp at h;subst h;exact⟨[],c1,c2,by simpa using e,rfl,h1,λf' c2' h'=>⟨c2',c2,F7,h',h2⟩⟩
 |a::r,n+1,f,cs,⟨c1,c2,e,h1,h2⟩,h=>by
  obtain⟨d1,d2,d3,e',h3,h4,h5⟩:=Au.field (n:=n) h2 (by simpa using h);refine⟨c1++d1,d2,d3,by rw[e,e'];simp,by rw[C!,Au.len h1,h3];rfl,h4,λf' c2' h'=>?_⟩;exact⟨c1,d1++(c2'++d3),F7,h1,h5 f' c2' h'⟩
theorem Au.jJ{p:PV}{cs:List Value}(h:Au B w L p cs):p.r? =true:=by
 cases p<;>first|rfl|exact h.elim
theorem uT{p:PV}(h:Fp B w L p v):p.r? =true:=by
 unfold Fp asV at h;split at h
 ·obtain⟨cs,_,h⟩:=h;exact h.jJ
 ·exact h.jJ
theorem Ia{p:PV}(h:Fp B w L p v):p.isV=true/\Dp B w L p v:=⟨PV.e_ (uT h),(PU (uT h)).2 h⟩
theorem Dx.get:∀{l:List PV} {vs:List Value} {i:Nat} {p:PV},Dx B w L l vs->l[i]? =some p->∃v,vs[i]? =some v/\Fp B w L p v
 |[],_,_,_,_,h=>by simp at h
 |a::r,_,0,p,⟨v,vs',e,h1,h2⟩,h=>by simp at h;subst h;subst e;exact⟨v,rfl,h1⟩
 |a::r,_,i+1,p,⟨v,vs',e,h1,h2⟩,h=>by subst e;simpa using Dx.get (i:=i) h2 (by simpa using h)
theorem jK(hm:Ex B w L σ s.sl):∀(l:List Operand),jy (l.map (Ds s.sl))=true->Dx B w L (l.map (Ds s.sl)) (l.map (ev σ))
 |[],_=>rfl
 |x::r,h=>by
  simp only[G9,jy,B_]at h;exact⟨_,_,rfl,(PU h.1).1 (Nc hm x (PV.e_ h.1)),jK hm r h.2⟩
theorem KW(p q:List Step):Ar (p++q)=Ar p+Ar q:=by
 induction p with
 |nil=>simp[Ar]
 |cons a r ih=>simp only[IP,Ar,ih];omega
theorem BF{α:Type}{a:Array α}{l:List α}(h:a.toList=l):a=l.toArray:=by subst h;simp
def OpR(B:Reg)(w:World)(L:List MD)(σ:Env):PV->Value->Prop
 | .undef,_=>True
 | .off,v=>v=Go.undef
 | .gd j want p,v=>∃b,σ j= .bool b/\ (b=want->Dp B w L p v)/\ (b≠want->v=Go.undef)
 |p,v=>Dp B w L p v
theorem OpR.iff{p:PV}(hv:p.isV=true):OpR B w L σ p v↔Dp B w L p v:=by
 cases p<;>first|exact O4|cases hv
theorem XK(hm:Ex B w L σ s.sl)(x:Operand):OpR B w L σ (Ds s.sl x) (ev σ x):=by
 cases hv:(Ds s.sl x).isV with
 |true=>exact(OpR.iff hv).2 (Nc hm x hv)
 |false=>
  cases x with
  |tmp t=>
   have h:=Mb (t:=t) hm
   revert hv
   simp only[Ds,ev];split
   ·intro hv;cases hv
   ·intro hv
    revert h hv
    generalize Wm s.sl t=p;intro h hv;cases p<;>first|exact h|cases hv
  |const v=>
   rcases gI (B:=B) (w:=w) (L:=L) v with h|h
   ·rw[show Ds s.sl (.const v)= .undef from h];exact trivial
   ·have h1:=PV.e_ h.1;simp only[Ds]at hv;rw[h1]at hv;cases hv
  |global g=>exact trivial
  |func f=>cases hv
theorem L9{b:Bool}{p:PV}(ht:σ t= .bool b)(h:OpR B w L σ p v):OpR B w L σ (PZ t b p) v:=by
 unfold PZ;split
 ·rename_i j want q;obtain⟨c,h1,h2,h3⟩:=h;cases hb:(Nat.beq j t&&jR want b)with
  |true=>
   simp only[B_]at hb;have hj:=G6 hb.1;subst hj;have hw:want=b:=by cases want<;>cases b<;>simp_all [jR]
   subst hw;rw[ht]at h1;cases h1;have h4:=h2 rfl;cases hv:q.isV with
   |true=>exact(OpR.iff hv).2 h4
   |false=>
    cases q<;>first
     |exact trivial
     |exact absurd hv Bool.noConfusion
     |(exfalso;exact(show False from h4))
  |false=>exact trivial
 ·exact h
end Go.Rx
namespace Go.Rx
open Go Go.Lv
variable{b:Bool}{e:ET}{x:Operand}{p v:PV}{t:TypeId}
variable {P:Program} {B:Reg} {w w':World} {L L':List MD} {s:S} {σs:List Env} {σ:Env} {Z:Fix} {A A':Reg} {n:Nat}
theorem Bg{a b:Nat}(h:Nat.beq a b=true):a=b:=G6 h
theorem Ao{α:Type}{x:Option α}{r:α}(h:(Bz (b) (x)<|none)=some r):b=true/\x=some r:=by
 cases b with
 |true=>exact⟨rfl,h⟩
 |false=>cases h
theorem n? {a:Bool}(h:jR a b=true):a=b:=by cases a<;>cases b<;>simp_all [jR]
structure OkLoad (P:Program) (t:TypeId) (u:PV):Prop where
 agg:∃d,P.underlying t=some d/\PT d=u.isA
 size:Ho P t u.size
 one:u.isA=false->u.size=1
theorem Ns{u:PV}(h:Ll P t u=true):OkLoad P t u:=by
 unfold Ll at h;split at h
 ·rename_i b hb;simp only[B_]at h;obtain⟨⟨h1,h2⟩,h3⟩:=h;have:=n? h1;subst this;unfold wu at hb;cases hu:P.underlying t with
  |none=>rw[hu]at hb;cases hb
  |some d=>
   rw[hu]at hb;refine⟨⟨d,hu,by simpa using hb⟩,?_,λhz=>?_⟩
   ·split at h2
    ·rename_i i hi;exact⟨i,hi,G6 h2⟩
    ·cases h2
   ·rw[hz]at h3;exact G6 (by simpa using h3)
 ·cases h
theorem A? :∀{e:ET} {x:e.T} {cs:List Value},Au.go B w L (e.pvl x) cs↔Aq B w e x cs
 | .cons a r,(x,y),cs=>by
  have ih1:= @A? a x;have ih2:= @A? r y;have e1:∀c,Au B w L (Bz (a.isS) (.agg (a.pvl x))<| .val a x) c↔Aq B w a x c:=λc=>by
   cases h:a.isS with
   |true=>exact ih1
   |false=>exact O4
  constructor
  ·rintro⟨c1,c2,e,h1,h2⟩;exact⟨c1,c2,e,(e1 c1).1 h1,ih2.1 h2⟩
  ·rintro⟨c1,c2,e,h1,h2⟩;exact⟨c1,c2,e,(e1 c1).2 h1,ih2.2 h2⟩
 | .nil,_,cs=>O4
 | .int k,x,cs=>⟨λ⟨c1,c2,e,h1,h2⟩=>by rw[e,show c2=[]from h2,G5];exact h1,λh=>⟨cs,[],F7,h,rfl⟩⟩
 | .bool,x,cs=>⟨λ⟨c1,c2,e,h1,h2⟩=>by rw[e,show c2=[]from h2,G5];exact h1,λh=>⟨cs,[],F7,h,rfl⟩⟩
 | .str,x,cs=>⟨λ⟨c1,c2,e,h1,h2⟩=>by rw[e,show c2=[]from h2,G5];exact h1,λh=>⟨cs,[],F7,h,rfl⟩⟩
 | .list e,x,cs=>⟨λ⟨c1,c2,e,h1,h2⟩=>by rw[e,show c2=[]from h2,G5];exact h1,λh=>⟨cs,[],F7,h,rfl⟩⟩
 | .vec n e,x,cs=>⟨λ⟨c1,c2,e,h1,h2⟩=>by rw[e,show c2=[]from h2,G5];exact h1,λh=>⟨cs,[],F7,h,rfl⟩⟩
theorem QH{x:e.T}{cs:List Value}:Au B w L (e.pv x) cs↔Aq B w e x cs:=by
 unfold ET.pv;cases h:e.isS with
 |true=>exact A?
 |false=>exact O4
theorem Akt{e':ET}{x:e.T}{y:e'.T}{cs:List Value}(h:VS e e' x=some y)(hx:Aq B w e x cs):Aq B w e' y cs:=by
 unfold VS at h;split at h
 ·rename_i he;subst he;cases h;exact hx
 ·cases h
theorem B!{rec:List PV->Option e.T}(hrec:∀l x cs,rec l=some x->Au.go B w L l cs->Aq B w e x cs){x:e.T}{cs:List Value}(h:R9 e rec p=some x)(hp:Au B w L p cs):Aq B w e x cs:=by
 unfold R9 at h;split at h
 ·exact Akt h hp
 ·exact hrec _ _ _ h hp
 ·cases e<;>simp only[ET.wQ,reduceCtorEq,E6]at h;subst h;exact⟨_,[],show cs=_ from hp,Rd.nil,rfl⟩
 ·cases h
theorem N!:∀{e:ET} {l:List PV} {x:e.T} {cs:List Value},e.ofl l=some x->Au.go B w L l cs->Aq B w e x cs
 | .cons a r,[],x,cs,h,hl=>by simp[ET.ofl]at h
 | .cons a r,p::ps,x,cs,h,⟨c1,c2,e,h1,h2⟩=>by
  simp only[ET.ofl]at h;obtain⟨y,hy,h⟩:=bind_some h;obtain⟨z,hz,h⟩:=bind_some h;cases h;exact⟨c1,c2,e,B! (λl x cs h hl=>N! h hl) hy h1,N! hz h2⟩
 | .nil,[],x,cs,h,hl=>hl
 | .nil,_::_,x,cs,h,hl=>by simp[ET.ofl]at h
 | .int k,l,x,cs,h,hl=>by cases l<;>simp[ET.ofl]at h
 | .bool,l,x,cs,h,hl=>by cases l<;>simp[ET.ofl]at h
 | .str,l,x,cs,h,hl=>by cases l<;>simp[ET.ofl]at h
 | .list e,l,x,cs,h,hl=>by cases l<;>simp[ET.ofl]at h
 | .vec n e,l,x,cs,h,hl=>by cases l<;>simp[ET.ofl]at h
theorem KR{x:e.T}{cs:List Value}(h:e.of p=some x)(hp:Au B w L p cs):Aq B w e x cs:=B! (λ_ _ _ h hl=>N! h hl) h hp
theorem Z_{e:ET}:∀{l:List PV} {x:List e.T} {cs:List Value},u_.go e l=some x->Au.go B w L l cs->Bs (Aq B w e) x cs
 |[],x,cs,hx,hl=>by simp only[u_.go,E6]at hx;subst hx;exact hl
 |a::q,x,cs,hx,⟨c1,c2,e',h1,h2⟩=>by
  simp only[u_.go]at hx;split at hx
  ·rename_i y ys hy hys;cases hx;exact⟨c1,c2,e',KR hy h1,Z_ hys h2⟩
  ·cases hx
theorem Ag2{m:Nat}{l:List PV}{cs:List Value}(h:u_ m e l=some v)(hl:Au.go B w L l cs):Au B w L v cs:=by
 unfold u_ at h;split at h
 ·rename_i x hx;obtain⟨hb,h⟩:=Ao h;cases h;exact⟨Bg hb,Z_ hx hl⟩
 ·cases h
theorem oE{f:TypeId->List Value->Option (PV×List Value)}(hf:∀t cs v q,f t cs=some (v,q)->∃c,cs=c++q/\Au B w L v c):∀{ts:List TypeId} {cs:List Value} {vs:List PV} {q:List Value},wR f ts cs=some (vs,q)->∃c,cs=c++q/\Au.go B w L vs c
 |[],cs,vs,q,h=>by simp only[wR,E6,I1]at h;obtain⟨rfl,rfl⟩:=h;exact⟨[],rfl,rfl⟩
 |t::ts,cs,vs,q,h=>by
  simp only[wR]at h;split at h
  ·rename_i v cs' h1;split at h
   ·rename_i us r' h2;cases h;obtain⟨c1,rfl,h3⟩:=hf _ _ _ _ h1;obtain⟨c2,rfl,h4⟩:=oE hf h2;exact⟨c1++c2,F7,c1,c2,rfl,h3,h4⟩
   ·cases h
  ·cases h
theorem Ahd(c:Value):(ofConst c).isA=false:=by
 unfold ofConst;split
 ·split
  ·rename_i m _ kd _;cases decide (kd.gi.toZ (kd.gi.ofZ m)=m)<;>rfl
  ·rfl
 all_goals rfl
theorem yH{c:Value}(hc:(ofConst c).r? =true):Au B w L (ofConst c) [c]:=by
 rcases gI (B:=B) (w:=w) (L:=L) c with h|⟨_,h⟩
 ·rw[h]at hc;cases hc
 ·unfold Fp at h;rw[Ahd]at h;exact h
theorem TQ:∀(q:Nat) {t:TypeId} {cs:List Value} {v:PV} {r:List Value},parse P q t cs=some (v,r)->∃c,cs=c++r/\Au B w L v c
 |0,_,_,_,_,h=>by simp[parse]at h
 |q+1,t,cs,v,r,h=>by
  simp only[parse]at h;split at h
  ·split at h
   ·rename_i vs r' h1;cases h;obtain⟨c,h2,h3⟩:=oE (λt cs v q' h=>TQ q h) h1;exact⟨c,h2,h3⟩
   ·cases h
  ·split at h
   ·rename_i a vs r' h0 h1;split at h
    ·rename_i u hu;cases h;obtain⟨c,h2,h3⟩:=oE (λt cs v q' h=>TQ q h) h1;exact⟨c,h2,Ag2 hu h3⟩
    ·cases h
   ·cases h
  ·split at h
   ·rename_i c r';obtain⟨hb,h⟩:=Ao h;cases h;exact⟨[c],rfl,yH hb⟩
   ·cases h
  ·cases h
theorem WR{v:Value}(h:dY P t v=some p):Au B w L p v.cells.toList:=by
 unfold dY at h;split at h
 ·rename_i p' h1;cases h;obtain⟨c,h2,h3⟩:=TQ (B:=B) (w:=w) (L:=L) Q h1;rw[G5]at h2;rw[h2];exact h3
 ·cases h
theorem M4{a:PV}{c1 c2 c3:List Value}(ho:OkLoad P t a)(ha:Au B w L a c2):∃v,Fp B w L a v/\∀w0,(part t (c1++(c2++c3)).toArray c1.length).run P w0= .ok v w0:=by
 obtain⟨d,hd,hA⟩:=ho.agg;have hlen:=ha.len;cases hb:a.isA with
 |true=>
  refine⟨.agg c2.toArray,by unfold Fp;rw[hb];exact⟨c2,rfl,ha⟩,λw0=>?_⟩;simp only[part,E5,El hd (hA.trans hb),Bo ho.size,E4,I7,E8];congr 2;apply R';rw[<-hlen];simp[List.take_append,kX]
 |false=>
  rw[ho.one hb]at hlen
  match c2,hlen with
  |[v],_=>
   refine⟨v,by unfold Fp;rw[hb];exact ha,λw0=>?_⟩;simp only[part,E5,El hd (hA.trans hb),E4,C9,H8];simp
theorem t?{rec:TypeId->PV->PV->Option Bool}{q:Nat}(hrec:∀{t:TypeId} {x y:PV} {b:Bool} {v v':Value},rec t x y=some b->Fp B w L x v->Fp B w L y v'->∀w0,(Op.equalIn q t v v').run P w0= .ok b w0):
  ∀{fs:List Field} {l m:List PV} {off:Nat} {b:Bool} {p1 p2 c1 c2:List Value},Q! P rec fs l m off=some b->Au.go B w L l c1->Au.go B w L m c2->p1.length=off->p2.length=off->
   ∀w0,(Op.eqFields q (p1++c1).toArray (p2++c2).toArray fs).run P w0= .ok b w0
 |[],[],[],off,b,p1,p2,c1,c2,h,_,_,_,_,w0=>by
  simp only[Q!,E6]at h;subst h;rfl
 |f::fs,x::l,y::m,off,b,p1,p2,c1,c2,h,⟨d1,e1,hc1,hx,hl⟩,⟨d2,e2,hc2,hy,hm⟩,h1,h2,w0=>by
  subst hc1 hc2;simp only[Q!]at h;cases hc:(f.name== "_"|| !Nat.beq f.offset off|| !Ll P f.type x|| !Ll P f.type y|| !Nat.beq x.size y.size)with
  |true=>rw[hc]at h;cases h
  |false=>
   rw[hc]at h
   try dsimp only[Bz,cond]at h
   simp only[C8,D0]at hc;obtain⟨⟨⟨⟨hn,ho⟩,hlx⟩,F_⟩,hsz⟩:=hc;have hoff:=Bg ho;have hsz':=Bg hsz;split at h
   ·rename_i bx br hbx hbr;cases h;obtain⟨v,hv,hpx⟩:=M4 (c1:=p1) (c3:=e1) (Ns hlx) hx;obtain⟨v',hv',hpy⟩:=M4 (c1:=p2) (c3:=e2) (Ns F_) hy;have hr:=hrec hbx hv hv';have hnm:f.name≠ "_":=by simpa using hn
    have ih:=t? hrec (p1:=p1++d1) (p2:=p2++d2) hbr hl hm (by simp[h1,hx.len]) (by simp[h2,hy.len,hsz']);rw[H?,H?]at ih;rw[h1,<-hoff]at hpx;rw[h2,<-hoff]at hpy;simp only[Op.eqFields,hnm,CB,D4,I7,E5,hpx,hpy,E4,hr];cases bx with
    |true=>simpa using ih w0
    |false=>simp
   ·cases h
 |[],_::_,_,_,_,_,_,_,_,h,_,_,_,_,_=>by simp[Q!]at h
 |[],[],_::_,_,_,_,_,_,_,h,_,_,_,_,_=>by simp[Q!]at h
 |_::_,[],_,_,_,_,_,_,_,h,_,_,_,_,_=>by simp[Q!]at h
 |_::_,_::_,[],_,_,_,_,_,_,h,_,_,_,_,_=>by simp[Q!]at h
theorem O3{te:TypeId}{k:Kd}{d:Nat}(ho:∀x:k.T,OkLoad P te (.val (.int k) x))(hi:XR P te=true):∀{a b:List k.T} {p1 p2 c1 c2:List Value},Bs (Aq B w (.int k)) a c1->Bs (Aq B w (.int k)) b c2->a.length=b.length->p1.length=p2.length->
  ∀w0,(Op.eqItems (d+1) te 1 (p1++c1).toArray (p2++c2).toArray (List.range' p1.length a.length)).run P w0= .ok (RB a b) w0
 |[],[],_,_,_,_,_,_,_,_,w0=>by simp[Op.eqItems,RB]
 |x::a,y::b,p1,p2,c1,c2,⟨d1,e1,hc1,hx,ha⟩,⟨d2,e2,hc2,hy,hb⟩,hl,hp,w0=>by
  subst hc1 hc2;obtain⟨v,hv,hpx⟩:=M4 (B:=B) (w:=w) (L:=[]) (a:= .val (.int k) x) (c1:=p1) (c3:=e1) (ho x) hx;obtain⟨v',hv',hpy⟩:=M4 (B:=B) (w:=w) (L:=[]) (a:= .val (.int k) y) (c1:=p2) (c3:=e2) (ho y) hy;have q1:=FA (show Dp B w [] (.val (.int k) x) v from hv);have q2:=FA (show Dp B w [] (.val (.int k) y) v' from hv');have hk:∃k0,P.underlying te=some (.int k0):=by
   unfold XR at hi;split at hi
   ·exact⟨_,by assumption⟩
   ·cases hi
  obtain⟨k0,hk⟩:=hk;have hr:=run_equalIn_int w0 d te k.k k0 (GI.toZ x) (GI.toZ y) hk;have n1:d1.length=1:=by have:d1=_:=hx;rw[this];rfl
  have n2:d2.length=1:=by have:d2=_:=hy;rw[this];rfl
  have ih:=O3 (d:=d) ho hi (p1:=p1++d1) (p2:=p2++d2) ha hb (by simpa using hl) (by simp[hp,n1,n2]);rw[H?,H?,C!,n1]at ih;simp only[C3,kW,Op.eqItems,E5,T5,hpx,E4];rw[hp,hpy];simp only[E4,q1,q2,iv,hr];rw[<-hp];simp only[RB,geq];cases hz:(GI.toZ x==GI.toZ y)with
  |true=>simpa [hz]using ih w0
  |false=>simp[hz]
 |[],_::_,_,_,_,_,_,_,h,_,_=>by simp at h
 |_::_,[],_,_,_,_,_,_,h,_,_=>by simp at h
theorem uQ:∀(q:Nat) {t:TypeId} {x y:PV} {b:Bool} {v v':Value} (d:Nat),eqV P q t x y=some b->Fp B w L x v->Fp B w L y v'->∀w0,(Op.equalIn (d+q) t v v').run P w0= .ok b w0
 |0,_,_,_,_,_,_,_,h,_,_,_=>by simp[eqV]at h
 |q+1,t,x,y,b,v,v',d,h,hx,hy,w0=>by
  simp only[eqV]at h;split at h
  ·rename_i k0 k a k' c hu;split at h
   ·rename_i hk;subst hk;cases h;have e1:=FA (show Dp B w L (.val (.int k') a) v from hx);have e2:=FA (show Dp B w L (.val (.int k') c) v' from hy);rw[e1,e2];exact run_equalIn_int w0 (d+q) t k'.k k0 _ _ hu
   ·cases h
  ·rename_i a c hu;cases h;rw[DH (show Dp B w L (.val .bool a) v from hx),DH (show Dp B w L (.val .bool c) v' from hy)];exact VI w0 (d+q) t _ _ hu
  ·rename_i a c hu;cases h;rw[rA (show Dp B w L (.val .str a) v from hx),rA (show Dp B w L (.val .str c) v' from hy)];have:=run_equalIn_string w0 (d+q) t ⟨a.toArray⟩ ⟨c.toArray⟩ hu;rw[<-G8];rw[this,iZ,iZ]
  ·rename_i fs l m hu;cases hst:P.stoodInHeld t with
   |true=>rw[hst]at h;cases h
   |false=>
    rw[hst]at h
    try dsimp only[Bz,cond]at h
    obtain⟨c1,rfl,h1⟩:=hx;obtain⟨c2,rfl,h2⟩:=hy;have hf:P.fieldsOf t=fs:=by simp[Program.fieldsOf,hu]
    have:=run_equalIn_struct w0 (d+q) t c1.toArray c2.toArray (by rw[hf];exact hu) hst;rw[<-G8,this,hf];have:=t? (p1:=[]) (p2:=[]) (q:=d+q) (λh hx hy w0=>uQ q d h hx hy w0) h h1 h2 rfl rfl w0;simpa using this
  ·rename_i n te m k a m' k' c hu;obtain⟨hb,h⟩:=Ao h;simp only[B_]at hb;obtain⟨⟨⟨⟨hm,hm'⟩,hq⟩,hl⟩,hi⟩:=hb;split at h
   ·rename_i hk;subst hk;cases h;have hm:=Bg hm;have hm':=Bg hm';subst hm;subst hm';obtain⟨c1,rfl,h1⟩:=hx;obtain⟨c2,rfl,h2⟩:=hy;obtain⟨l1,h1⟩:a.length=m'/\Bs (Aq B w (.int k')) a c1:=h1;obtain⟨l2,h2⟩:c.length=m'/\Bs (Aq B w (.int k')) c c2:=h2;obtain⟨q,rfl⟩:∃p,q=p+1:=⟨q-1,by have:=HZ hq;omega⟩;have ho:=Ns hl;obtain⟨i,g1,g2⟩:=ho.size;have hce:P.cellsOf te=1:=by simp[Program.cellsOf,g1];exact g2
    have:=run_equalIn_array (w:=w0) (d+(q+1)) c1.toArray c2.toArray hu g1;rw[<-G8,this,kQ,hce,<-l1];have:=O3 (p1:=[]) (p2:=[]) (d:=d+q) (λx=>(⟨ho.agg,ho.size,ho.one⟩:OkLoad P te (.val (.int k') x))) hi h1 h2 (l1.trans l2.symm) rfl w0;simpa [G8]using this
   ·cases h
  ·cases h
theorem sG{l:List PV}(hm:Ex B w L σ s.sl)(h:U6 P s t x=some (.agg l)):Fp B w L (.agg l) (ev σ x):=by
 unfold U6 at h;split at h
 ·rename_i cs;have:=WR (B:=B) (w:=w) (L:=L) h;exact⟨cs.toList,by simp[ev],this⟩
 ·have e:Ds s.sl x= .agg l:=G1 h;exact Ct (p:= .agg l) hm e rfl
theorem Aqe{o:BinOp}{t':TypeId}{y:Operand}(hm:Ex B w L σ s.sl)(h:kB P s o t x y=some v):∃b,v= .b b/\∀w',XO P σ w' (.binOp o t x y t') (.bool b):=by
 unfold kB at h;split at h
 ·rename_i q l m hq hl hm';have hx:=sG hm hl;have hy:=sG hm hm';cases hg:P.eqGuardType P.depth t with
  |true=>rw[hg]at h;cases h
  |false=>
   rw[hg]at h;simp only[L7,Qg,Q4]at h;obtain⟨b,hb,rfl⟩:=h;refine⟨_,rfl,λw'=>?_⟩;have he:=uQ Q (10000-Q) hb hx hy;obtain⟨c1,e1,_⟩:=hx;obtain⟨c2,e2,_⟩:=hy;rw[e1,e2]at he;refine X.bin e1 e2 λox oy w0=>?_;have hgd:=run_eqGuard_agg (P:=P) w0 o t ox oy c1.toArray c2.toArray hg;have he':(Op.equalIn 10000 t (.agg c1.toArray) (.agg c2.toArray)).run P w0= .ok b w0:=he w0;cases o<;>simp only[U1,E6,reduceCtorEq]at hq<;>subst hq
   ·simp only[E5,hgd,E4,run_eql_struct,he',cond_true,Rs]
   ·simp only[E5,hgd,E4,run_neq_struct,he',L7,Qg]
 ·cases h
end Go.Rx
namespace Go.Rx
open Go Go.Lv
variable{b:Bool}{f off:Nat}{c x y:Operand}{a a' p v:PV}{t:TypeId}
variable {P:Program} {B:Reg} {w:World} {L:List MD} {s:S} {σs:List Env} {σ:Env}
abbrev Yields(P:Program)(B:Reg)(w:World)(L:List MD)(σ:Env)(W:World->Prop)(o:Op)(v:PV):Prop:=v.isV=true/\∃val,(∀w',W w'->XO P σ w' o val)/\Dp B w L v val
theorem Amm{W:World->Prop}(hc:ev σ c= .bool b)(ha:b=true->OpR B w L σ a (ev σ x))(ha':b=false->OpR B w L σ a' (ev σ y))(h:wA b a a'=some p):
  Yields P B w L σ W (.pick c x y) p:=by
 have key:∀(q:PV) (v:Value),OpR B w L σ q v->known q=some p->p.isV=true/\Dp B w L p v:=λq v hq hp=>by
  obtain⟨rfl,hv⟩:=Z1 hp;exact⟨hv,(OpR.iff hv).1 hq⟩
 cases b with
 |true=>
  obtain⟨h1,h2⟩:=key a _ (ha rfl) h;exact⟨h1,_,λw' _=>X.pick hc rfl rfl rfl,h2⟩
 |false=>
  obtain⟨h1,h2⟩:=key a' _ (ha' rfl) h;exact⟨h1,_,λw' _=>X.pick hc rfl rfl rfl,h2⟩
theorem qS(h:P' x=some b):ev σ x= .bool b:=by
 unfold P' at h;split at h
 ·cases h;rfl
 ·cases h
theorem Ahb{W:World->Prop}{lit:Option Bool}(hc:ev σ c= .bool b)(ha:b=true->OpR B w L σ a (ev σ x))(ha':b=false->OpR B w L σ a' (ev σ y))
  (hl:lit=some true->P' x=some true) (hl':lit=some false->P' y=some false) (h:X5 b lit a a'=some p):
  Yields P B w L σ W (.pick c x y) p:=by
 unfold X5 at h;split at h
 ·rename_i u v;have hu:b=true->ev σ x= .bool u:=λhb=>DH (ha hb);have hv:b=false->ev σ y= .bool v:=λhb=>DH (ha' hb);split at h
  ·have:=qS (σ:=σ) (hl rfl);cases h;refine⟨rfl, .bool (b||v),λw' _=>X.pick hc rfl rfl ?_,rfl⟩;cases b with
   |true=>simpa using this
   |false=>simpa using hv rfl
  ·have:=qS (σ:=σ) (hl' rfl);cases h;refine⟨rfl, .bool (b&&u),λw' _=>X.pick hc rfl rfl ?_,rfl⟩;cases b with
   |true=>simpa using hu rfl
   |false=>simpa using this
  ·cases h;refine⟨rfl, .bool (Bz (b) (u)<|v),λw' _=>X.pick hc rfl rfl ?_,rfl⟩;cases b with
   |true=>simpa using hu rfl
   |false=>simpa using hv rfl
 ·rename_i e u e' v _;split at h
  ·rename_i he;subst he;cases h;refine⟨rfl,if b then ev σ x else ev σ y,λw' _=>X.pick hc rfl rfl rfl,?_⟩;cases b with
   |true=>simpa using(show Dp B w L (.val e' u) (ev σ x)from ha rfl)
   |false=>simpa using(show Dp B w L (.val e' v) (ev σ y)from ha' rfl)
  ·cases h
 ·cases h
theorem Y9{z:Nat}(h:fieldInfo P t f=some (off,z))(hz:Nat.beq z 0=false):jM P t f off:=
 jM.mk h (by intro e;subst e;cases hz)
theorem Ae6{l:List PV}{u:PV}{v:Value}(h:Dp B w L (.rptr (.agg l)) v)(hl:l[f]? =some u)(ho:P9 l f=off):
  ∃b o,v= .pointer (some ⟨b,o,none⟩)/\Dp B w L (.rptr u) (.pointer (some ⟨b,o+off,none⟩)):=by
 obtain⟨c0,⟨b,o,arr,T,fr,rfl,h2,h3,h4⟩,h5⟩:=vC h;obtain⟨c1,c2,c3,e,h6,h7,_⟩:=Au.field (show Au.go B w L l c0 from h5) hl;refine⟨b,o,rfl,_,c2,rfl,⟨b,o+off,arr,T,fr,rfl,h2,h3,λi hi=>?_⟩,h7⟩;have:=h4 (off+i) (by rw[e];simp;omega);rw[G8,this,e,H0 F3,h6,ho];rw[show off+i-off=i by omega,F? hi]
theorem Apj{o:BinOp}{q:Bool}{k k':Kd}{a:k.T}{c:k'.T}(h:jZ o q k a k' c=some v):
  v.isV=true/\∃val,Iz P o t (iv (T:=k.T) (k:=k.k) a) (iv (T:=k'.T) (k:=k'.k) c) val/\Dp B w L v val:=by
 unfold jZ at h;cases hd:xH o with
 |true=>
  rw[hd]at h;cases q with
  |true=>
   try dsimp only[Bz,cond]at h
   split at h
   ·rename_i hc;exact M2 h hc
   ·cases h
  |false=>
   try dsimp only[Bz,cond]at h
   cases hb:(k'.isU&&f? o)with
   |true=>
    rw[hb]at h;simp only[B_]at hb;refine M2 h ?_;have h1:=hb.2;have h2:=hb.1;cases o<;>simp[f?]at h1<;>simp[O5,h2]
   |false=>rw[hb]at h;cases h
 |false=>
  rw[hd]at h
  try dsimp only[Bz,cond]at h
  split at h
  ·rename_i hk;subst hk;exact Akq h
  ·cases h
theorem h!(W:World->Prop)(hm:Ex B w L σ s.sl){o:Op}(h:op0 P s o=some v):Yields P B w L σ W o v:=by
 unfold op0 at h;split at h
 ·
  rename_i x;have hx:=XK hm x;obtain⟨h1,hv⟩:=Z1 (show known (Ds s.sl x)=some v from h);rw[h1]at hx;exact⟨hv,_,λw' _=>X.move rfl,(OpR.iff hv).1 hx⟩
 ·rename_i x;have hx:=XK hm x;obtain⟨h1,hv⟩:=Z1 (show known (Ds s.sl x)=some v from h);rw[h1]at hx;exact⟨hv,_,λw' _=>X.assign rfl,(OpR.iff hv).1 hx⟩
 ·
  rename_i o t x y t';split at h
  ·rename_i k a k' c hx hy;have ex:=Wc hm hx;have ey:=Wc hm hy;obtain⟨hv,val,hb,hr⟩:=Apj (P:=P) (B:=B) (w:=w) (L:=L) (t:=t) h;exact⟨hv,val,λw' _=>X.bin ex ey hb,hr⟩
  ·rename_i a c hx hy;have ex:=sU hm hx;have ey:=sU hm hy;split at h
   ·rename_i hu;split at h
    ·cases h;exact⟨rfl,_,λw' _=>X.bin ex ey (Bin.Alh hu _ _),rfl⟩
    ·cases h;exact⟨rfl,_,λw' _=>X.bin ex ey (Bin.Ame hu _ _),rfl⟩
    ·cases h
   ·cases h
  ·rename_i a c hx hy;have ex:=Oz hm hx;have ey:=Oz hm hy;split at h
   ·cases h;exact⟨rfl,_,λw' _=>X.bin ex ey (Bin.Ap6 _ _),rfl⟩
   ·cases h;exact⟨rfl,_,λw' _=>X.bin ex ey (Bin.Apb _ _),rfl⟩
   ·cases h
  ·obtain⟨b,rfl,hb⟩:=Aqe (t':=t') hm h;exact⟨rfl,_,λw' _=>hb w',rfl⟩
 ·
  rename_i o t x;split at h
  ·rename_i k a hx;have ex:=Wc hm hx;split at h
   ·cases h;exact⟨rfl,_,λw' _=>X.neg ex,rfl⟩
   ·cases h;exact⟨rfl,_,λw' _=>X.At9 ex,rfl⟩
   ·cases h
  ·rename_i a hx;have ex:=sU hm hx;split at h
   ·cases h;exact⟨rfl,_,λw' _=>X.not ex,rfl⟩
   ·cases h
  ·cases h
 ·
  rename_i c a b;split at h
  ·rename_i t x hx;have hs:=Mb (t:=t) hm;rw[hx]at hs;have hc:σ t= .bool x:=by have: [σ t]=[Value.bool x]:=hs.1;simpa using this
   exact Amm hc (λe=>L9 (by rw[hc,e]) (XK hm a)) (λe=>L9 (by rw[hc,e]) (XK hm b)) h
  ·rename_i t x hx;have hs:=Mb (t:=t) hm;rw[hx]at hs;have hc:σ t= .bool x:=DH hs;refine Ahb hc (λe=>L9 (by rw[hc,e]) (XK hm a)) (λe=>L9 (by rw[hc,e]) (XK hm b)) (λe=>?_) (λe=>?_) h
   ·split at e
    ·rename_i hl;exact hl
    ·split at e<;>cases e
   ·split at e
    ·cases e
    ·split at e
     ·rename_i hl;exact hl
     ·cases e
  ·cases h
 ·
  rename_i x i;split at h
  ·rename_i l hx;obtain⟨vs,e1,h1⟩:=Ct hm hx rfl;obtain⟨val,h2,h3⟩:=Dx.get h1 h;obtain⟨h4,h5⟩:=Ia h3;exact⟨h4,val,λw' _=>X.extract e1 h2,h5⟩
  ·cases h
 ·
  rename_i a t x;split at h
  ·rename_i k u k' d hx ht ha;have ex:=Wc hm hx;split at h
   ·rename_i kd hk;have hk':=vP hk;subst hk';cases h;exact⟨rfl,_,λw' _=>X.conv (T':=kd.T) ha ht ex,rfl⟩
   ·cases h
  ·cases h
 ·
  rename_i f fs cs;split at h
  ·rename_i hfs;have hf:=BF hfs;subst hf;cases ha:jy (cs.toList.map (Ds s.sl))with
   |true=>
    rw[ha]at h;cases h;refine⟨rfl,_,λw' _=>?_,⟨_,rfl,jK hm _ ha⟩⟩;have:=X.makeFunc (P:=P) (σ:=σ) (w:=w') (f:=f) (cap:=cs.toList) (vs:=cs.toList.map (ev σ)) rfl;simpa using this
   |false=>rw[ha]at h;cases h
  ·rename_i f1 fr hfs;split at h
   ·rename_i hcs;have hf:=BF hcs;subst hf;obtain⟨ha,h⟩:=Ao h;cases h;have h1:=jK hm _ ha;have hfs':fs=(f1::fr).toArray:=by rw[<-hfs]
    rw[hfs'];exact⟨rfl,_,λw' _ _ _ _ _ _=>by simp[execOp,Instr.makeFunc],⟨_,rfl,h1⟩⟩
   ·cases h
 ·
  rename_i x;split at h
  ·rename_i i p hx;cases h;have hr:=Ct hm hx rfl;obtain⟨md,b,h1,h2,h3⟩:=Us hr;exact⟨rfl,_,λw' _=>X.nilCheck h3,EZ h1 h2⟩
  ·rename_i u hx;cases h;have hr:=Ct hm hx rfl;obtain⟨c0,⟨b,off,arr,T,fr,h1,h2⟩,h3⟩:=vC hr;exact⟨rfl,_,λw' _=>X.nilCheck h1,by rw[<-h1];exact hr⟩
  ·cases h
 ·
  rename_i t x f;split at h
  ·rename_i i p off z hx hf;cases hz:Nat.beq z 0 with
   |true=>rw[hz]at h;cases h
   |false=>
    rw[hz]at h;cases h;obtain⟨md,b,h1,h2,h3⟩:=Us (Ct hm hx rfl);refine⟨rfl,_,λw' _=>X.fieldAddr (off':=Ar (p++[.fld f off])) (Y9 hf hz) h3 ?_,EZ h1 h2⟩;rw[KW];rfl
  ·rename_i l off z hx hf;split at h
   ·rename_i u hl;cases hz:(!Nat.beq z 0&&Nat.beq (P9 l f) off)with
    |true=>
     rw[hz]at h;cases h;simp only[B_,C6]at hz;obtain⟨b,o,h1,h2⟩:=Ae6 (Ct hm hx rfl) hl (G6 hz.2);exact⟨rfl,_,λw' _=>X.fieldAddr (Y9 hf hz.1) h1 rfl,h2⟩
    |false=>rw[hz]at h;cases h
   ·cases h
  ·cases h
 ·
  rename_i as ts;split at h
  ·rename_i x y ha;have:=BF ha;subst this;split at h
   ·rename_i k a k' c hx hy;split at h
    ·rename_i hk;subst hk;cases h;exact⟨rfl,_,λw' _=>X.min (Wc hm hx) (Wc hm hy),rfl⟩
    ·cases h
   ·cases h
  ·cases h
 ·rename_i as ts;split at h
  ·rename_i x y ha;have:=BF ha;subst this;split at h
   ·rename_i k a k' c hx hy;split at h
    ·rename_i hk;subst hk;cases h;exact⟨rfl,_,λw' _=>X.max (Wc hm hx) (Wc hm hy),rfl⟩
    ·cases h
   ·cases h
  ·cases h
 ·cases h
end Go.Rx
namespace Go.Rx
open Go Go.Lv
variable{e:ET}{i z:Nat}{x:Operand}{u:PV}{E t:TypeId}{v:Value}
variable {P:Program} {B:Reg} {w:World} {L:List MD} {s:S} {σs:List Env} {σ:Env} {Z:Fix} {A:Reg}
theorem oS:∀{it:List Item} {i:Nat} {a:Item},Ca it i=a->a≠ .dead->it[i]? =some a
 |[],_,a,h,hd=>absurd h.symm (by simpa [Ca]using hd)
 |b::r,0,a,h,_=>by simpa [Ca]using h
 |b::r,i+1,a,h,hd=>by simpa using oS (it:=r) (by simpa [Ca]using h) hd
theorem MemR.item(hm:MemR B w L s σs σ){a:Item}(h:Ca s.it i=a)(hd:a≠ .dead):∃md,L[i]? =some md/\Vj B w L a md:=by
 have h1:=oS h hd;have hl:i<L.length:=by rw[<-hm.it.1];exact(List.getElem?_eq_some_iff.1 h1).1
 exact⟨L[i],by simp[hl],hm.it.2 i a _ h1 (by simp[hl])⟩
theorem MemR.box(hm:MemR B w L s σs σ){i:Nat}{T:TypeId}{v:PV}(h:Ca s.it i= .box T v):∃b cells,L[i]? =some (.box b cells T)/\Au B w L v cells:=by
 obtain⟨md,h1,h2⟩:=hm.item h (by intro e;cases e);cases md with
 |dead=>exact h2.elim
 |box b cells T'=>obtain⟨rfl,h3⟩:=h2;exact⟨b,cells,h1,h3⟩
 |own _ _ _ _=>exact h2.elim
theorem MemR.arr(hm:MemR B w L s σs σ){l:List e.T}(h:Ca s.it i= .arr E e l):∃v cs,L[i]? =some (.own e.size E v cs)/\Bs (Aq B w e) l cs:=by
 obtain⟨md,h1,h2⟩:=hm.item h (by intro e;cases e);cases md with
 |dead=>exact h2.elim
 |box b cells T'=>exact h2.elim
 |own z E' v cs=>obtain⟨rfl,rfl,h3⟩:=h2;exact⟨v,cs,h1,h3⟩
theorem Rel.Eh(hr:Rel Z s σs A L σ w){md:MD}(h:L[i]? =some md):(L.map MD.Eh)[i]? =some md.Eh:=by simp[h]
structure Ext (Z:Fix) (s:S) (σs:List Env) (A:Reg) (L:List MD) (σ:Env) (w w':World):Prop where
 ex:∃(A':Reg) (L':List MD) (it':List Item),(∀b,A b->A' b)/\Rel Z ⟨s.sl,s.it++it',s.st⟩ σs A' (L++L') σ w'
 same:Same A w w'
theorem Ext.refl(hr:Rel Z s σs A L σ w):Ext Z s σs A L σ w w:=⟨⟨A,[],[],λ_ h=>h,by simpa using hr⟩,λ_ _=>rfl⟩
theorem sM{c1 c2 c3:List Value}{o:Nat}(h:c1.length=o):((c1++(c2++c3)).drop o).take c2.length=c2:=by
 subst h;simp
theorem YU:∀{p:List Step} {v u:PV} {cs:List Value},J3 v p=some u->Au B w L v cs->∃c1 c2 c3,cs=c1++(c2++c3)/\c1.length=Ar p/\Au B w L u c2
 |[],v,u,cs,h,hv=>by simp only[J3,E6]at h;subst h;exact⟨[],cs,[],F7,rfl,hv⟩
 | .fld n off::r,v,u,cs,h,hv=>by
  cases v<;>simp only[J3,reduceCtorEq]at h;rename_i l;split at h
  ·rename_i f hf;cases hb:Nat.beq (P9 l n) off with
   |false=>rw[hb]at h;cases h
   |true=>
    rw[hb]at h;obtain⟨c1,c2,c3,e,h1,h2,_⟩:=Au.field (show Au.go B w L l cs from hv) hf;obtain⟨d1,d2,d3,e',h3,h4⟩:=YU h h2;refine⟨c1++d1,d2,d3++c3,by rw[e,e'];simp,?_,h4⟩;rw[C!,h1,h3,G6 hb];rfl
  ·cases h
 | .idx j z::r,v,u,cs,h,hv=>by cases v<;>simp[J3]at h
theorem Al6{T:TypeId}{b:Nat}{c1 c2 c3:List Value}{F:List Fact}{LL:List Mob}{w':World}(h:OkLoad P t u)(hu:Au B w L u c2):
  ∃val,Fp B w L u val/\∀(A':Reg) (F:List Fact) (LL:List Mob) (w':World) (i:Nat),St A' w' F LL->LL[i]? =some (.box b (c1++(c2++c3)) T)->ev σ x= .pointer (some ⟨b,c1.length,none⟩)->XO P σ w' (.load t x) val:=by
 obtain⟨d,hd,ha⟩:=h.agg;have hlen:=hu.len;cases hA:u.isA with
 |true=>
  refine⟨.agg c2.toArray,by unfold Fp;rw[hA];exact⟨c2,rfl,hu⟩,λA' F LL w' i hs hL hx=>?_⟩;exact X.Aij hs hL ⟨d,hd,ha.trans hA⟩ h.size hx (by rw[<-hlen];exact sM rfl) hlen
 |false=>
  have h1:=h.one hA;rw[h1]at hlen
  match c2,hlen with
  |[v],_=>
   refine⟨v,by unfold Fp;rw[hA];exact hu,λA' F LL w' i hs hL hx=>?_⟩;exact X.Akj hs hL ⟨d,hd,ha.trans hA⟩ hx F7
theorem Aoj{c2:List Value}(h:OkLoad P t u)(hu:Au B w L u c2)(hp:O! B w v c2)(hx:ev σ x=v):
  ∃val,Fp B w L u val/\∀w',Same B w w'->XO P σ w' (.load t x) val:=by
 obtain⟨d,hd,ha⟩:=h.agg;have hlen:=hu.len;obtain⟨b,off,arr,T,fr,rfl,hB,hb,hc⟩:=hp;have hcell:∀w',Same B w w'->∀k,k<c2.length->w'.cell? ⟨b,off+k,none⟩=c2[k]? :=λw' hs k hk=>by
  rw[cell_of ((hs b hB).trans hb)];exact hc k hk
 cases hA:u.isA with
 |true=>
  refine⟨.agg c2.toArray,by unfold Fp;rw[hA];exact⟨c2,rfl,hu⟩,λw' hs _ _ _ _ _=>?_⟩;have h1:=Kl (P:=P) (w:=w') (b:=b) (off:=off) c2 (hcell w' hs);rw[hlen]at h1;simp only[execOp,hx,Instr.loadAt,Instr.sureAddr,E5,E8,E4,loadVar,El hd (ha.trans hA),I7,Bo h.size,h1]
 |false=>
  have h1:=h.one hA;rw[h1]at hlen
  match c2,hlen with
  |[v],_=>
   refine⟨v,by unfold Fp;rw[hA];exact hu,λw' hs _ _ _ _ _=>?_⟩;have h2:w'.cell? ⟨b,off,none⟩=some v:=by simpa using hcell w' hs 0 F7
   simp only[execOp,hx,Instr.loadAt,Instr.sureAddr,E5,E8,E4,loadVar,El hd (ha.trans hA),C9,H8,EE h2]
theorem Bs.BH{k:Kd}:∀{l:List k.T} {cs:List Value},Bs (Aq B w (.int k)) l cs->cs=Go.Lv.BH (k:=k.k) l
 |[],_,h=>h
 |x::l,_,⟨c1,c2,e,h1,h2⟩=>by rw[e,show c1=_ from h1,Bs.BH h2];rfl
theorem Bs.nil{α:Type}{f:α->List Value->Prop}:Bs f [] []:=rfl
theorem Bs.take{α:Type}{f:α->List Value->Prop}{z:Nat}(hz:∀x c,f x c->c.length=z):∀{l:List α} {cs:List Value} (k:Nat),Bs f l cs->Bs f (l.take k) (cs.take (k*z))
 |[],cs,k,h=>by rw[show cs=[]from h];simp[Bs]
 |a::l,cs,0,_=>by simp[Bs]
 |a::l,cs,k+1,⟨c1,c2,e,h1,h2⟩=>by
  subst e;refine⟨c1,c2.take (k*z),?_,h1,Bs.take hz k h2⟩;have:(k+1)*z=c1.length+k*z:=by rw[hz _ _ h1,J9];omega
  rw[this,xP]
theorem Bs.drop{α:Type}{f:α->List Value->Prop}{z:Nat}(hz:∀x c,f x c->c.length=z):∀{l:List α} {cs:List Value} (k:Nat),Bs f l cs->Bs f (l.drop k) (cs.drop (k*z))
 |[],cs,k,h=>by rw[show cs=[]from h];simp[Bs]
 |a::l,cs,0,h=>by simpa using h
 |a::l,cs,k+1,⟨c1,c2,e,h1,h2⟩=>by
  subst e;have:(k+1)*z=c1.length+k*z:=by rw[hz _ _ h1,J9];omega
  have h3:(c1++c2).drop (c1.length+k*z)=c2.drop (k*z):=by simp[kX]
  rw[this,h3];exact Bs.drop hz k h2
theorem Rd.part{u:Value}{cs:List Value}{p:List Step}{lo n:Int}(hv:R6 true (.own z E u cs) p z lo n v)(h:Rd B w z u cs):Rd B w z v ((cs.drop (lo.toNat*z)).take (n.toNat*z)):=by
 obtain⟨h1,h2,⟨pt,cap,rfl,h4,h5,h6⟩,h7,_⟩:=hv;obtain⟨s',E',q,len,cap0,c0,e0,rfl,g2,g3,_⟩:=h7 rfl;cases e0;obtain⟨q',len',cap',e1,k1,k2,k3,k4⟩:=h;cases e1;have k5:=g3 _ _ _ rfl;have e5:lo.toNat*z+n.toNat*z<=len*z:=by rw[<-FE];exact E9 z g2
 refine⟨pt,n.toNat,cap,rfl,?_,h4,h5,λhc=>?_⟩
 ·rw[C5,D',k1];omega
 ·obtain⟨b,e2,e3⟩:=h6 hc;obtain⟨b',off,arr,T,fr,e4,m1,m2,m3,m4⟩:=k4 F3;subst e4;have e6:b'=b/\off=0:=by
   unfold MD.base at e2;split at e2
   ·rename_i heq;cases heq
   ·rename_i heq;cases heq;cases e2;exact⟨rfl,rfl⟩
   ·cases e2
  obtain⟨rfl,rfl⟩:=e6;refine⟨b',lo.toNat*z,arr,T,fr,by rw[e3];simp[Ar],m1,m2,?_,λi hi=>?_⟩
  ·have:lo.toNat*z+cap*z<=cap0*z:=by rw[<-FE];exact E9 z k5
   omega
  ·have:=m4 (lo.toNat*z+i) F3;rw[H2]at this;rw[this,H7,BA hi,J6]
theorem SN{p:PV}{l:List e.T}(hm:MemR B w L s σs σ)(h:elems s e p=some l)(hv:Dp B w L p v):
  ∃c0,Bs (Aq B w e) l c0/\ ((Rd B w e.size v c0)\/ (∃i E u cs,i∈owns p/\L[i]? =some (.own e.size E u cs)/\∀(B:Reg) (w:World),Rd B w e.size u cs->Rd B w e.size v c0)):=by
 unfold elems at h;split at h
 ·rename_i e' x;split at h
  ·rename_i a l';split at h
   ·rename_i ha;subst ha;cases h;obtain⟨c0,h1,h2⟩:=Xh hv;exact⟨c0,h2, .inl h1⟩
   ·cases h
  ·cases h
 ·cases h;rw[CU hv];exact⟨[],rfl, .inl Rd.nil⟩
 ·rename_i a l' c;split at h
  ·rename_i ha;subst ha;cases h;obtain⟨v',c0,h1,h2,h3,_⟩:=hv;cases h1;exact⟨c0,h3, .inl h2⟩
  ·cases h
 ·rename_i i;split at h
  ·rename_i E a l' hi;split at h
   ·rename_i ha;subst ha;cases h;obtain⟨v',cs,h1,h2⟩:=hm.arr hi;obtain⟨z,E',c',h3⟩:=FB hv;rw[h1]at h3;cases h3;exact⟨cs,h2, .inr ⟨i,E,_,cs, .head _,h1,λ_ _ h=>h⟩⟩
   ·cases h
  ·cases h
 ·rename_i i p e1 lo n;split at h
  ·rename_i E a l' hi;split at h
   ·rename_i ha;subst ha;cases he:decide (e1=a)with
    |false=>rw[he]at h;cases h
    |true=>
     rw[he]at h;cases h;have:=I3 he;subst this;obtain⟨v',cs,h1,h2⟩:=hm.arr hi;obtain⟨md,v1,h3,h4,h5⟩:=hv;rw[h1]at h3;cases h3;have h6:v=v1:=by simpa using h4
     subst h6;exact⟨_,Bs.take (λx c h=>Aq.len h) _ (Bs.drop (λx c h=>Aq.len h) _ h2), .inr ⟨i,E,v',cs, .head _,h1,λ_ _ h=>Rd.part h5 h⟩⟩
   ·cases h
  ·cases h
 ·cases h
theorem Rd.slice{cs:List Value}(h:Rd B w z v cs)(hz:0<z):∃p len cap,v= .slice p len cap/\cs.length=len*z:=by
 obtain⟨p,len,cap,h1,h2,_⟩:=h;exact⟨p,len,cap,h1,h2⟩
theorem v!{e':TypeId}{p:Option Addr}{len cap:Nat}{l:List e.T}{cs:List Value}(ht:P.underlying t=some (.slice e'))(hz:Nat.beq e.size 0=false)(hc:Bs (Aq B w e) l cs)
  (hl:cs.length=len*e.size) (hx:ev σ x= .slice p len cap):∀w',XO P σ w' (.call ⟨.builtin .len, #[x], #[t]⟩) (iv (Aa l)):=by
 have h1:=hc.len λx c h=>Aq.len h;have hp:0<e.size:=by
  rcases V8 e.size with h|h
  ·rw[h]at hz;cases hz
  ·exact h
 have:len=l.length:=H4 hp (hl.symm.trans h1);subst this;intro w';exact X.wH ht hx
theorem Rel.Nj(hr:Rel Z s σs A L σ w){i z:Nat}{E:TypeId}{v:Value}{cs:List Value}(h:L[i]? =some (.own z E v cs)):Rd (λ_=>True) w z v cs:=
 St.Nj (E:=E) hr (j:=i) (hr.Eh h)
theorem Z4(hr:Rel Z s σs A L σ w){o:Op}{v:PV}(h:op1 P s o=some v):Yields P (λb=>A b/\Z.R b) w L σ (Ext Z s σs A L σ w) o v:=by
 have hm:=hr.mem;have hS:∀w',Ext Z s σs A L σ w w'->Same (λb=>A b/\Z.R b) w w':=λw' he b hb=>he.same b hb.1;unfold op1 at h;split at h
 ·
  rename_i t x;split at h
  ·rename_i i p hx;obtain⟨md,b,h1,h2,h3⟩:=Us (Ct hm.sl hx rfl);split at h
   ·rename_i T v0 hi;split at h
    ·rename_i u hu;cases hk:Ll P t u with
     |false=>rw[hk]at h;cases h
     |true=>
      rw[hk]at h;cases h;obtain⟨b',cells,h4,h5⟩:=hm.box hi;rw[h4]at h1;cases h1;cases h2;obtain⟨c1,c2,c3,e,h6,h7⟩:=YU hu h5;obtain⟨val,h8,h9⟩:=Al6 (σ:=σ) (x:=x) (b:=b) (T:=T) (c1:=c1) (c3:=c3) (F:=[]) (LL:=[]) (w':=w) (Ns hk) h7;obtain⟨hv,hv'⟩:=Ia h8;refine⟨hv,val,λw' he=>?_,hv'⟩;obtain⟨A',L',it',ha,hr'⟩:=he.ex;have h10:(L++L')[i]? =some (.box b cells T):=by rw[F? (List.getElem?_eq_some_iff.1 h4).1];exact h4
      exact h9 A' _ _ w' i hr' (by rw[hr'.Eh h10,<-e];rfl) (by rw[h3,h6])
    ·cases h
   ·cases h
  ·rename_i u hx;cases hk:Ll P t u with
   |false=>rw[hk]at h;cases h
   |true=>
    rw[hk]at h;cases h;obtain⟨c0,h1,h2⟩:=vC (Ct hm.sl hx rfl);obtain⟨val,h3,h4⟩:=Aoj (P:=P) (Ns hk) h2 h1 rfl;obtain⟨hv,hv'⟩:=Ia h3;exact⟨hv,val,λw' he=>h4 w' (hS w' he),hv'⟩
  ·cases h
 ·
  rename_i a t x;split at h
  ·rename_i ht;split at h
   ·rename_i e ha;split at h
    ·rename_i he;cases hel:elems s (.int .u8) (Ds s.sl x)with
     |none=>rw[hel]at h;cases h
     |some l=>
      rw[hel]at h;cases h;have hx:=XK hm.sl x;have hV:(Ds s.sl x).isV=true:=by
       cases hq:(Ds s.sl x).isV with
       |true=>rfl
       |false=>rcases Tc hq with h|h|⟨_,_,_,h⟩<;>rw[h]at hel<;>cases hel
      obtain⟨c0,h1,h2⟩:=SN hm hel ((OpR.iff hV).1 hx);have h3:=Bs.BH (k:= .u8) h1;subst h3;refine⟨rfl,sv l,λw' hext=>?_,rfl⟩;rcases h2 with h2|⟨i,E,u,cs,_,h2,hpart⟩
      ·exact X.b2s (l:=l) ha he ht (h2.step (λ_ h=>h) (hS w' hext)) rfl
      ·obtain⟨A',L',it',ha',hr'⟩:=hext.ex;have h4:(L++L')[i]? =some (.own 1 E u cs):=by rw[F? (List.getElem?_eq_some_iff.1 h2).1];exact h2
       exact X.b2s (l:=l) ha he ht (hpart _ _ (hr'.Nj h4)) rfl
    ·cases h
   ·cases h
  ·cases h
 ·
  rename_i as ts;split at h
  ·rename_i x t has hts;have h1:=BF has;have h2:=BF hts;subst h1 h2;split at h
   ·rename_i ht;split at h
    ·rename_i l hx;cases h;exact⟨rfl,_,λw' _=>X.Apr ht (Oz hm.sl hx),rfl⟩
    ·cases h
   ·rename_i e' ht;split at h
    ·rename_i e l hx;cases hz:Nat.beq e.size 0 with
     |true=>rw[hz]at h;cases h
     |false=>
      rw[hz]at h;cases h;obtain⟨c0,h3,h4⟩:=Xh (Ct hm.sl hx rfl);obtain⟨p,len,cap,h5,h6,_⟩:=h3;exact⟨rfl,_,λw' _=>v! ht hz h4 h6 h5 w',rfl⟩
    ·rename_i hx;cases h;have h3:=CU (Ct hm.sl hx rfl);exact⟨rfl,_,λw' _=>X.wH ht h3,rfl⟩
    ·rename_i o i p e n lo hx;cases h;obtain⟨md,v1,h3,h4,h5⟩:=Ct hm.sl hx rfl;obtain⟨k1,k2,⟨pt,cap,k3,_⟩,_⟩:=h5;have h6:ev σ x=v1:=by simpa using h4
     refine⟨rfl,_,λw' _=>X.wH ht (h6.trans k3),?_⟩
     show [_]=[_];simp[iv,GI.toZ,Int.toNat_of_nonneg k2]
    ·rename_i i hx;split at h
     ·rename_i E e l hi;cases hz:Nat.beq e.size 0 with
      |true=>rw[hz]at h;cases h
      |false=>
       rw[hz]at h;cases h;obtain⟨v',cs,h3,h4⟩:=hm.arr hi;obtain⟨z,E',c',h5⟩:=FB (Ct hm.sl hx rfl);rw[h3]at h5;cases h5;obtain⟨p,len,cap,h6,h7,_⟩:=hr.Nj h3;exact⟨rfl,_,λw' _=>v! ht hz h4 h7 h6 w',rfl⟩
     ·cases h
    ·cases h
   ·rename_i n _ ht;cases h;exact⟨rfl,_,λw' _=>X.Aox ht rfl,rfl⟩
   ·cases h
  ·cases h
 ·cases h
end Go.Rx
namespace Go.Rx
open Go Go.Lv
variable{a:Item}{p:PV}{sl:Slots}{v:Value}
variable {P:Program} {B:Reg} {w w':World} {L L':List MD} {s:S} {σs:List Env} {σ:Env} {Z:Fix} {A A':Reg} {n:Nat}
theorem VF:∀{sl:Slots} {d t:Nat} {p:PV},(t,p)∈zD d sl-> (t,p)∈sl/\t≠d/\∀j w q,p= .gd j w q->j≠d
 |[],_,_,_,h=>by simp[zD]at h
 |(q,v)::r,d,t,p,h=>by
  have key:∀{j:Nat},Nat.beq j d=false->j≠d:=λh e=>by subst e;simp at h
  simp only[zD]at h;cases hq:Nat.beq q d with
  |true=>rw[hq]at h;obtain⟨h1,h2⟩:=VF h;exact⟨.tail _ h1,h2⟩
  |false=>
   rw[hq]at h;dsimp only[Bz,cond]at h;split at h
   ·rename_i j w u;cases hj:Nat.beq j d with
    |true=>rw[hj]at h;obtain⟨h1,h2⟩:=VF h;exact⟨.tail _ h1,h2⟩
    |false=>
     rw[hj]at h;rcases List.mem_cons.1 h with h|h
     ·cases h;exact⟨.head _,key hq,λj' w' q' e=>by cases e;exact key hj⟩
     ·obtain⟨h1,h2⟩:=VF h;exact⟨.tail _ h1,h2⟩
   ·rename_i hg;rcases List.mem_cons.1 h with h|h
    ·cases h;exact⟨.head _,key hq,λj' w' q' e=>(hg _ _ _ e).elim⟩
    ·obtain⟨h1,h2⟩:=VF h;exact⟨.tail _ h1,h2⟩
theorem Fy.other{d t:Nat}(h:Fy B w L σ t p)(ht:t≠d)(hg:∀j w q,p= .gd j w q->j≠d):Fy B w L (Lq σ d v) t p:=by
 cases hv:p.isV with
 |true=>
  refine(Fy.iff hv).2 ?_;rw[YP _ _ ht];exact(Fy.iff hv).1 h
 |false=>
  rcases Tc hv with rfl|rfl|⟨j,w,q,rfl⟩
  ·exact trivial
  ·show Go.Lv.Lq σ d v t=_;rw[YP _ _ ht];exact h
  ·obtain⟨b,h1,h2,h3⟩:=h;have hj:=hg _ _ _ rfl;exact⟨b,by rw[YP _ _ hj];exact h1,by rw[YP _ _ ht];exact h2,by rw[YP _ _ ht];exact h3⟩
theorem Ex.set{d:Nat}(h:Ex B w L σ sl)(hp:Fy B w L (Lq σ d v) d p):Ex B w L (Lq σ d v) (i! sl d p):=by
 rintro⟨t,q⟩ hq;rcases List.mem_cons.1 hq with hq|hq
 ·cases hq;exact hp
 ·obtain⟨h1,h2,h3⟩:=VF hq;exact(h _ h1).other h2 h3
theorem Rel.U_{s':S}{σ':Env}(hr:Rel Z s σs A L σ w)(hi:s'.it=s.it)(ht:s'.st=s.st)(h:Ex (λb=>A b/\Z.R b) w L σ' s'.sl):Rel Z s' σs A L σ' w:=
 Rel.as hr (i:=1) rfl ⟨by rw[hi];exact hr.mem.it,h,by rw[ht];exact hr.mem.stk⟩ rfl
theorem Fy.put{d:Nat}(hv:p.isV=true)(h:Dp B w L p v):Fy B w L (Lq σ d v) d p:=by
 refine(Fy.iff hv).2 ?_;rw[Vo];exact h
theorem Rel.set{d:Nat}{p:PV}{v:Value}(hr:Rel Z s σs A L σ w)(h:Fy (λb=>A b/\Z.R b) w L (Lq σ d v) d p):Rel Z (s.set d p) σs A L (Lq σ d v) w:=
 hr.U_ rfl rfl (hr.mem.sl.set h)
def PQ(σ:Env)(d:Option Nat)(v:Value):Env:=match d with|some d=>Lq σ d v|none=>σ
theorem Rel.Fh{d:Option Nat}(hr:Rel Z s σs A L σ w)(hv:p.isV=true)(h:Dp (λb=>A b/\Z.R b) w L p v):Rel Z (s.Fh d p) σs A L (PQ σ d v) w:=by
 cases d with
 |none=>exact hr
 |some d=>exact hr.set (.put hv h)
theorem Rel.Am7{d:Option Nat}(hr:Rel Z s σs A L σ w):Rel Z (s.Fh d .off) σs A L (PQ σ d Go.undef) w:=by
 cases d with
 |none=>exact hr
 |some d=>exact hr.set (show Lq σ d Go.undef d=Go.undef from Vo _ _ _)
theorem om:∀{sl:Slots} {t q:Nat} {b:Bool} {p:PV},(q,p)∈P6 t b sl-> (q=t/\p= .cst (.bool b))\/ (∃p0,(q,p0)∈sl/\ (p=p0\/∃want u,p0= .gd t want u/\p=(Bz (jR want b) (u)<| .off)))
 |[],_,_,_,_,h=>by simp[P6]at h
 |(q',v)::r,t,q,b,p,h=>by
  simp only[P6]at h;rcases List.mem_cons.1 h with g|g
  ·clear h;cases hq:Nat.beq q' t with
   |true=>
    rw[hq]at g;simp only[cond_true,Rs,I1]at g;exact .inl ⟨g.1.trans (G6 hq),g.2⟩
   |false=>
    rw[hq]at g;dsimp only[Bz,cond]at g;split at g
    ·rename_i j want u;cases hj:Nat.beq j t with
     |true=>
      rw[hj]at g;simp only[cond_true,Rs,I1]at g;have:=G6 hj;subst this;exact .inr ⟨_,by rw[g.1];exact .head _, .inr ⟨want,u,rfl,g.2⟩⟩
     |false=>
      rw[hj]at g;cases g;exact .inr ⟨_, .head _, .inl rfl⟩
    ·cases g;exact .inr ⟨_, .head _, .inl rfl⟩
  ·rcases om g with h|⟨p0,h1,h2⟩
   ·exact .inl h
   ·exact .inr ⟨p0, .tail _ h1,h2⟩
theorem Ex.res{t:Nat}{b:Bool}(h:Ex B w L σ sl)(ht:σ t= .bool b):Ex B w L σ (P6 t b sl):=by
 rintro⟨q,p⟩ hp;rcases om hp with⟨h1,h2⟩|⟨p0,h1,h2⟩
 ·subst h1;subst h2;exact⟨show [σ q]=[_] by rw[ht],rfl⟩
 ·have h3:=h _ h1;rcases h2 with rfl|⟨want,u,rfl,rfl⟩
  ·exact h3
  ·obtain⟨c,h4,h5,h6⟩:=h3;rw[ht]at h4;cases h4;cases hw:jR want b with
   |true=>
    have hb:=n? hw;subst hb;have h7:=h5 rfl;cases hv:u.isV with
    |true=>exact(Fy.iff hv).2 h7
    |false=>
     rcases Tc hv with rfl|rfl|⟨j,w',q',rfl⟩
     ·exact trivial
     ·exact(show False from h7).elim
     ·exact(show False from h7).elim
   |false=>
    show σ q=_;refine h6 λe=>?_;subst e;cases b<;>cases hw
theorem Rel.res{t:Nat}{b:Bool}(hr:Rel Z s σs A L σ w)(ht:σ t= .bool b):Rel Z (s.res t b) σs A L σ w:=hr.U_ rfl rfl (hr.mem.sl.res ht)
structure Grow (A:Reg) (L:List MD) (it:List Item) (w:World) (A':Reg) (L':List MD) (it':List Item) (w':World):Prop where
 reg:∀b,A b->A' b
 same:Same A w w'
 md:∃M,L'=L++M
 it:∃m,it'=it++m
theorem Grow.refl{it:List Item}:Grow A L it w A L it w:=⟨λ_ h=>h,λ_ _=>rfl,⟨[],F7⟩,⟨[],F7⟩⟩
theorem Grow.trans{A'':Reg}{L'':List MD}{it it' it'':List Item}{w'':World}(h:Grow A L it w A' L' it' w')(h':Grow A' L' it' w' A'' L'' it'' w''):Grow A L it w A'' L'' it'' w'':=by
 obtain⟨M,e1⟩:=h.md;obtain⟨m,e2⟩:=h.it;obtain⟨M',e3⟩:=h'.md;obtain⟨m',e4⟩:=h'.it;exact⟨λb hb=>h'.reg b (h.reg b hb),λb hb=>(h'.same b (h.reg b hb)).trans (h.same b hb),⟨M++M',by rw[e3,e1,H?]⟩,⟨m++m',by rw[e4,e2,H?]⟩⟩
theorem Grow.ext{s':S}{σ':Env}(hg:Grow A L s.it w A' L' s'.it w')(hr:Rel Z s σs A L σ w)(hr':Rel Z s' σs A' L' σ' w'):Ext Z s σs A L σ w w':=by
 obtain⟨M,e1⟩:=hg.md;obtain⟨m,e2⟩:=hg.it;refine⟨⟨A',M,m,hg.reg,?_⟩,hg.same⟩;rw[<-e1];have hl:NF L L':=by rw[e1];exact NF.append _ _
 exact Rel.as hr' (i:=1) rfl ⟨by rw[<-e2];exact hr'.mem.it,hr.mem.sl.step (λb hb=>⟨hg.reg b hb.1,hb.2⟩) (λb hb=>hg.same b hb.1) hl,
  hr.mem.stk.step (λb hb=>⟨hg.reg b hb.1,hb.2⟩) (λb hb=>hg.same b hb.1) hl⟩ rfl
theorem Cc.jY{F:List Fact}{LL LL':List Mob}(h:St A w F LL)(hp:LL.Perm LL'):St A w F LL':=⟨h.lt,h.facts,h.mobs.perm hp⟩
theorem Rel.push{md:MD}(h:St A' w' [vD Z.R L s σs σ, .old Z.M Z.w0] (md.Eh::L.map MD.Eh))(ha:Vj (λb=>A' b/\Z.R b) w' (L++[md]) a md):
  Rel Z (s.add a) σs A' (L++[md]) σ w':=by
 have hm:MemR (λb=>A' b/\Z.R b) w' L s σs σ:=h.fact 0 rfl;have hl:=NF.append L [md];refine Rel.as (h:=Cc.jY h ?_) (i:=1) rfl ⟨⟨?_,?_⟩,hm.sl.step (λ_ h=>h) (λ_ _=>rfl) hl,hm.stk.step (λ_ h=>h) (λ_ _=>rfl) hl⟩ rfl
 ·rw[N9];exact(UC (l₁:=[md.Eh]) (l₂:=L.map MD.Eh))
 ·simp[S.add,hm.it.1]
 ·intro i a' m h1 h2;simp only[S.add]at h1;rcases I4 i s.it.length with hi|hi
  ·rw[F? hi]at h1;rw[F? (by rw[<-hm.it.1];exact hi)]at h2;exact(hm.it.2 i a' m h1 h2).step (λ_ h=>h) (λ_ _=>rfl) hl
  ·rw[H0 hi]at h1;rw[H0 (by rw[<-hm.it.1];exact hi)]at h2;rw[hm.it.1]at h1;cases hq:i-L.length with
   |zero=>rw[hq]at h1 h2;simp at h1 h2;subst h1 h2;exact ha
   |succ q=>rw[hq]at h1;simp at h1
theorem IC:∀{it:List Item} {i j:Nat} {a b:Item},(AP it i a)[j]? =some b-> (j=i/\b=a)\/ (j≠i/\it[j]? =some b)
 |[],_,_,_,_,h=>by simp[AP]at h
 |c::r,0,0,a,b,h=>by simp[AP]at h;exact .inl ⟨rfl,h.symm⟩
 |c::r,0,j+1,a,b,h=>by simp[AP]at h;exact .inr ⟨F3,by simpa using h⟩
 |c::r,i+1,0,a,b,h=>by simp[AP]at h;exact .inr ⟨F3,by simpa using h⟩
 |c::r,i+1,j+1,a,b,h=>by
  simp[AP]at h;rcases IC h with⟨h1,h2⟩|⟨h1,h2⟩
  ·exact .inl ⟨F3,h2⟩
  ·exact .inr ⟨F3,by simpa using h2⟩
theorem ID:∀{it:List Item} {i:Nat} {a:Item},(AP it i a).length=it.length
 |[],_,_=>rfl
 |_::_,0,_=>rfl
 |_::r,i+1,a=>by simp[AP,ID]
theorem Rel.change{i:Nat}{md md':MD}(h:St A' w' [vD Z.R L s σs σ, .old Z.M Z.w0] ((L.map MD.Eh).set i md'.Eh))(hi:L[i]? =some md)
  (hle:NF L (L.set i md')) (ha:Vj (λb=>A' b/\Z.R b) w' (L.set i md') a md'):Rel Z (s.Lq i a) σs A' (L.set i md') σ w':=by
 have hm:MemR (λb=>A' b/\Z.R b) w' L s σs σ:=h.fact 0 rfl;refine Rel.as h (i:=1) rfl ⟨⟨?_,?_⟩,hm.sl.step (λ_ h=>h) (λ_ _=>rfl) hle,hm.stk.step (λ_ h=>h) (λ_ _=>rfl) hle⟩ (by rw[J'])
 ·simp[S.Lq,ID,hm.it.1]
 ·intro j b m h1 h2;simp only[S.Lq]at h1;rcases IC h1 with⟨rfl,rfl⟩|⟨h3,h4⟩
  ·rw[I0 (List.getElem?_eq_some_iff.1 hi).1]at h2;cases h2;exact ha
  ·rw[H5 (G? h3)]at h2;exact(hm.it.2 j b m h4 h2).step (λ_ h=>h) (λ_ _=>rfl) hle
theorem NF.set{i:Nat}{md md':MD}(hi:L[i]? =some md)(h1:∀s E v c,md= .own s E v c->∃s' E' c',md'= .own s' E' v c')(h2:∀b,md.base=some b->md'.base=some b):NF L (L.set i md'):=by
 have hl:=(List.getElem?_eq_some_iff.1 hi).1;refine⟨λj s E v c h=>?_,λj m b h h'=>?_⟩
 ·by_cases hj:j=i
  ·subst hj;rw[hi]at h;cases h;obtain⟨s',E',c',rfl⟩:=h1 _ _ _ _ rfl;exact⟨s',E',c',by rw[I0 hl]⟩
  ·exact⟨s,E,c,by rw[H5 (G? hj)];exact h⟩
 ·by_cases hj:j=i
  ·subst hj;rw[hi]at h;cases h;exact⟨md',by rw[I0 hl],h2 b h'⟩
  ·exact⟨m,by rw[H5 (G? hj)];exact h,h'⟩
end Go.Rx
namespace Go.Rx
open Go Go.Lv
variable{a:Item}{R:Type}
variable {P:Program} {B:Reg} {w w':World} {L L':List MD} {s:S} {σs:List Env} {σ:Env} {Z:Fix} {A A':Reg} {n:Nat}
theorem Bs.get{α:Type}{f:α->List Value->Prop}{z:Nat}(hz:∀x c,f x c->c.length=z):∀{l:List α} {i:Nat} {x:α} {cs:List Value},Bs f l cs->l[i]? =some x->
  ∃c1 c2 c3,cs=c1++(c2++c3)/\c1.length=i*z/\f x c2/\∀y c2',f y c2'->Bs f (l.set i y) (c1++(c2'++c3))
 |[],_,_,_,_,h=>by simp at h
 |a::l,0,x,cs,⟨c1,c2,e,h1,h2⟩,h=>by
  simp at h;subst h;exact⟨[],c1,c2,by simpa using e,F7,h1,λy c2' hy=>⟨c2',c2,F7,hy,h2⟩⟩
 |a::l,i+1,x,cs,⟨c1,c2,e,h1,h2⟩,h=>by
  obtain⟨d1,d2,d3,e',h3,h4,h5⟩:=Bs.get hz (i:=i) h2 (by simpa using h);refine⟨c1++d1,d2,d3,by rw[e,e'];simp,by rw[C!,hz _ _ h1,h3,J9];omega,h4,λy c2' hy=>?_⟩;exact⟨c1,d1++(c2'++d3),F7,h1,h5 y c2' hy⟩
theorem Bs.append{α:Type}{f:α->List Value->Prop}:∀{l m:List α} {cs ds:List Value},Bs f l cs->Bs f m ds->Bs f (l++m) (cs++ds)
 |[],m,cs,ds,h,h'=>by rw[show cs=[]from h];exact h'
 |a::l,m,cs,ds,⟨c1,c2,e,h1,h2⟩,h'=>⟨c1,c2++ds,by rw[e];simp,h1,Bs.append h2 h'⟩
theorem Aq.one:∀{e:ET} {x:e.T} {cs:List Value},Aq B w e x cs->∀v∈cs,v.oneCell'=true
 | .int k,x,cs,h,v,hv=>by rw[show cs=_ from h]at hv;simp at hv;subst hv;rfl
 | .bool,x,cs,h,v,hv=>by rw[show cs=_ from h]at hv;simp at hv;subst hv;rfl
 | .str,x,cs,h,v,hv=>by rw[show cs=_ from h]at hv;simp at hv;subst hv;rfl
 | .list e,l,cs,⟨u,c0,e1,h,_⟩,v,hv=>by
  rw[e1]at hv;simp at hv;subst hv;obtain⟨p,len,cap,rfl,_⟩:=h;rfl
 | .vec n e,l,cs,⟨_,h⟩,v,hv=>by
  have key:∀(l:List e.T) (cs:List Value),Bs (Aq B w e) l cs->v∈cs->v.oneCell'=true:=by
   intro l
   induction l with
   |nil=>intro cs h hv;rw[show cs=[]from h]at hv;simp at hv
   |cons a l ih=>
    rintro cs ⟨c1,c2,e',h1,h2⟩ hv;subst e';rcases List.mem_append.1 hv with hv|hv
    ·exact Aq.one h1 v hv
    ·exact ih _ h2 hv
  exact key l cs h hv
 | .cons a r,x,cs,⟨c1,c2,e,h1,h2⟩,v,hv=>by
  subst e;rcases List.mem_append.1 hv with hv|hv
  ·exact Aq.one h1 v hv
  ·exact Aq.one h2 v hv
 | .nil,_,cs,h,v,hv=>by rw[show cs=[]from h]at hv;simp at hv
theorem Bs.one{e:ET}:∀{l:List e.T} {cs:List Value},Bs (Aq B w e) l cs->∀v∈cs,v.oneCell'=true
 |[],cs,h,v,hv=>by rw[show cs=[]from h]at hv;simp at hv
 |a::l,cs,⟨c1,c2,e',h1,h2⟩,v,hv=>by
  subst e';rcases List.mem_append.1 hv with hv|hv
  ·exact h1.one v hv
  ·exact Bs.one h2 v hv
theorem Bs.O? {e:ET}{l:List e.T}{cs:List Value}(h:Bs (Aq B w e) l cs):cs.all (·.oneCell')=true:=List.all_eq_true.2 h.one
theorem M0{R:Type}{k:PV->Option R}{r:R}:∀{p:List Step} {v:PV} {cs:List Value},K3 v p k=some r->Au B w L v cs->
  ∃u c1 c2 c3,k u=some r/\cs=c1++(c2++c3)/\c1.length=Ar p/\Au B w L u c2
 |[],v,cs,h,hv=>⟨v,[],cs,[],by simpa [K3]using h,F7,rfl,hv⟩
 | .fld m off::p,v,cs,h,hv=>by
  cases v<;>simp only[K3,reduceCtorEq]at h;rename_i l;split at h
  ·rename_i f hf;obtain⟨hb,h⟩:=Ao h;obtain⟨c1,c2,c3,e,h1,h2,_⟩:=Au.field (show Au.go B w L l cs from hv) hf;obtain⟨u,d1,d2,d3,hk,e',h3,h4⟩:=M0 h h2;refine⟨u,c1++d1,d2,d3++c3,hk,by rw[e,e'];simp,?_,h4⟩;rw[C!,h1,h3,Bg hb];rfl
  ·cases h
 | .idx j z::p,v,cs,h,hv=>by
  cases v<;>simp only[K3,reduceCtorEq]at h;rename_i e x;split at h
  ·rename_i m a l;obtain⟨hb,h⟩:=Ao h;obtain⟨y,hy,h⟩:=bind_some h;obtain⟨hj,_,hl⟩:=Hw hy;obtain⟨c1,c2,c3,e,h1,h2,_⟩:=Bs.get (λx c h=>Aq.len h) (show Bs (Aq B w a) l cs from hv.2) hl;obtain⟨u,d1,d2,d3,hk,e',h3,h4⟩:=M0 h (QH.2 h2);refine⟨u,c1++d1,d2,d3++c3,hk,by rw[e,e'];simp,?_,h4⟩;rw[C!,h1,h3,Bg hb];rfl
  ·cases h
def mK(B:Reg)(w:World)(L:List MD):Item->List Value->Prop
 | .box _ v,cs=>Au B w L v cs
 | .arr _ e l,cs=>Bs (Aq B w e) l cs
 | .dead,_=>False
theorem qy{k:PV->Option R}{r:R}{p:List Step}{cs:List Value}(h:getRoot a p k=some r)(hv:mK B w L a cs):
  ∃u c1 c2 c3,k u=some r/\cs=c1++(c2++c3)/\c1.length=Ar p/\Au B w L u c2:=by
 unfold getRoot at h;split at h
 ·exact M0 h hv
 ·rename_i E e l j z p;obtain⟨hb,h⟩:=Ao h;obtain⟨y,hy,h⟩:=bind_some h;obtain⟨hj,_,hl⟩:=Hw hy;obtain⟨c1,c2,c3,e',h1,h2,_⟩:=Bs.get (λx c h=>Aq.len h) (show Bs (Aq B w e) l cs from hv) hl;obtain⟨u,d1,d2,d3,hk,e'',h3,h4⟩:=M0 h (QH.2 h2);refine⟨u,c1++d1,d2,d3++c3,hk,by rw[e',e''];simp,?_,h4⟩;rw[C!,h1,h3,Bg hb];rfl
 ·cases h
theorem XH{c1 c2 c3 ns:List Value}(h:ns.length=c2.length):Bd (c1++(c2++c3)) c1.length ns=c1++(ns++c3):=by
 unfold Bd;rw[List.take_left,h,<-mT,QU,QU]
theorem QR{c1 c2 c3 ns:List Value}{o:Nat}(hc:c1.length=o)(off:Nat)(h:off+ns.length<=c2.length):Bd (c1++(c2++c3)) (o+off) ns=c1++(Bd c2 off ns++c3):=by
 subst hc;unfold Bd;rw[xP,kH F3,G8,<-mT,QU,List.drop_append_of_le_length F3];simp
theorem qD{R:Type}{new:PV}{ns:List Value}(hn:Au B w L new ns){r:R}:∀{p:List Step} {v:PV} {cs:List Value} {k:PV->Option R},u! new v p k=some r->Au B w L v cs->
  ∃v',k v'=some r/\Ar p+ns.length<=cs.length/\Au B w L v' (Bd cs (Ar p) ns)
 |[],v,cs,k,h,hv=>by
  simp only[u!]at h;obtain⟨hb,h⟩:=Ao h;have h1:=hn.len;have h2:=hv.len;have h3:=Bg hb;refine⟨new,h,by simp[Ar];omega,?_⟩;have:Bd cs 0 ns=ns:=by
   unfold Bd;rw[O',J7,Q7 F3,G5]
  rw[show Ar []=0 from rfl,this];exact hn
 | .fld m off::p,v,cs,k,h,hv=>by
  cases v<;>simp only[u!,reduceCtorEq]at h;rename_i l;split at h
  ·rename_i f hf;obtain⟨hb,h⟩:=Ao h;obtain⟨c1,c2,c3,e,h1,h2,h3⟩:=Au.field (show Au.go B w L l cs from hv) hf;obtain⟨f',hk,h4,h5⟩:=qD hn h h2;have ho:Ar (.fld m off::p)=c1.length+Ar p:=by rw[h1,Bg hb];rfl
   refine⟨_,hk,by rw[ho,e];simp;omega,?_⟩;rw[ho,e,QR rfl _ h4];exact h3 f' _ h5
  ·cases h
 | .idx j z::p,v,cs,k,h,hv=>by
  cases v<;>simp only[u!,reduceCtorEq]at h;rename_i e x;split at h
  ·rename_i m a l;obtain⟨hb,h⟩:=Ao h;have hz:=Bg hb;have key:∀(y y':a.T) (l':List a.T) (f:List Value->List Value),Ae l j=some y->Mh l j y'=some l'-> (∀c2,Aq B w a y c2->Ar p+ns.length<=c2.length/\Aq B w a y' (Bd c2 (Ar p) ns))->
     Ar (.idx j z::p)+ns.length<=cs.length/\Au B w L (.val (.vec m a) l') (Bd cs (Ar (.idx j z::p)) ns):=by
    intro y y' l' f hy hs hyp;obtain⟨hj,hlt,hl⟩:=Hw hy;obtain⟨_,_,rfl⟩:=TY hs;obtain⟨c1,c2,c3,e,h1,h2,h3⟩:=Bs.get (λx c h=>Aq.len h) (show Bs (Aq B w a) l cs from hv.2) hl;obtain⟨h4,h5⟩:=hyp c2 h2;have ho:Ar (.idx j z::p)=c1.length+Ar p:=by rw[h1,hz];rfl
    refine⟨by rw[ho,e];simp;omega,?_⟩;rw[ho,e,QR rfl _ h4];exact⟨by rw[D1];exact hv.1,h3 y' _ h5⟩
   split at h
   ·split at h
    ·rename_i y' hy';obtain⟨l',hs,h⟩:=bind_some h;obtain⟨hj,hlt,_⟩:=TY hs;have hg:Ae l j=some l[j.toNat]:=by
      unfold Ae;rw[BA F3];simp[hlt]
     obtain⟨h1,h2⟩:=key _ y' l' id hg hs (λc2 hc2=>by
      have e1:=(KR hy' hn).len;have e2:=hc2.len;refine⟨by simp[Ar];omega,?_⟩;have:Bd c2 0 ns=ns:=by
       unfold Bd;rw[O',J7,Q7 F3,G5]
      rw[show Ar []=0 from rfl,this];exact KR hy' hn)
     exact⟨_,h,h1,h2⟩
    ·cases h
   ·obtain⟨y,hy,h⟩:=bind_some h;obtain⟨hj,hlt,hl⟩:=Hw hy;obtain⟨c1,c2,c3,e,h1,h2,h3⟩:=Bs.get (λx c h=>Aq.len h) (show Bs (Aq B w a) l cs from hv.2) hl;obtain⟨q,hk,h4,h5⟩:=qD hn h (QH.2 h2);split at hk
    ·rename_i y' hy';obtain⟨l',hs,hk⟩:=bind_some hk;obtain⟨_,_,rfl⟩:=TY hs;have ho:Ar (.idx j z::p)=c1.length+Ar p:=by rw[h1,hz];rfl
     refine⟨_,hk,by rw[ho,e];simp;omega,?_⟩;rw[ho,e,QR rfl _ h4];exact⟨by rw[D1];exact hv.1,h3 y' _ (KR hy' h5)⟩
    ·cases hk
  ·cases h
def sameKind:Item->Item->Prop| .box T _, .box T' _=>T'=T| .arr E e _, .arr E' e' _=>E'=E/\e'=e|_,_=>False
theorem Aej{new:PV}{ns:List Value}(hn:Au B w L new ns){r:R}{p:List Step}{cs:List Value}{k:Item->Option R}(h:M3 new a p k=some r)(hv:mK B w L a cs):
  ∃a',k a'=some r/\Ar p+ns.length<=cs.length/\mK B w L a' (Bd cs (Ar p) ns)/\sameKind a a':=by
 unfold M3 at h;split at h
 ·obtain⟨v',hk,h1,h2⟩:=qD hn h hv;exact⟨_,hk,h1,h2,rfl⟩
 ·rename_i E a l j z p;obtain⟨hb,h⟩:=Ao h;have hz:=Bg hb;split at h
  ·split at h
   ·rename_i y' hy';obtain⟨l',hs,h⟩:=bind_some h;obtain⟨hj,hlt,rfl⟩:=TY hs;have hl:l[j.toNat]? =some l[j.toNat]:=by simp[hlt]
    obtain⟨c1,c2,c3,e,h1,h2,h3⟩:=Bs.get (λx c h=>Aq.len h) (show Bs (Aq B w a) l cs from hv) hl;have e1:=(KR hy' hn).len;have e2:=h2.len;have ho:Ar [.idx j z]=c1.length:=by rw[h1,hz];rfl
    refine⟨_,h,by rw[ho,e];simp;omega,?_,rfl,rfl⟩;rw[ho,e,XH F3];exact h3 y' _ (KR hy' hn)
   ·cases h
  ·obtain⟨y,hy,h⟩:=bind_some h;obtain⟨hj,hlt,hl⟩:=Hw hy;obtain⟨c1,c2,c3,e,h1,h2,h3⟩:=Bs.get (λx c h=>Aq.len h) (show Bs (Aq B w a) l cs from hv) hl;obtain⟨q,hk,h4,h5⟩:=qD hn h (QH.2 h2);split at hk
   ·rename_i y' hy';obtain⟨l',hs,hk⟩:=bind_some hk;obtain⟨_,_,rfl⟩:=TY hs;have ho:Ar (.idx j z::p)=c1.length+Ar p:=by rw[h1,hz];rfl
    refine⟨_,hk,by rw[ho,e];simp;omega,?_,rfl,rfl⟩;rw[ho,e,QR rfl _ h4];exact h3 y' _ (KR hy' h5)
   ·cases hk
 ·cases h
end Go.Rx
