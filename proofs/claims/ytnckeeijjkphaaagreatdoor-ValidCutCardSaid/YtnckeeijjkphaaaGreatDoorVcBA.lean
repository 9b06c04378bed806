/- A part of a proof (see the text that ends in Proof). No conditions. -/
import Derived.Tactics
import Derived.OrdersHeld
import Derived.Below
import Derived.LoopNIn
import Derived.OrdersIn
import Derived.TacticsIn
import Derived.RangeFuncCalls
import GoSem.Core.View
import Derived.Laws.Entries
import Derived.Laws.Strings
import Derived.Laws.Append
import Derived.Laws.IdiomStrings
import Derived.StillTail
import Derived.WalkKit
import Derived.OpenShut
import Derived.Laws.StructEq
import Derived.ChangeKeysEq
set_option linter.unusedVariables false
set_option linter.unusedSimpArgs false
namespace Go
theorem Aba:type_of%@if_neg:=@if_neg
theorem Abb:type_of%@if_pos:=@if_pos
theorem Abk:type_of%@Nat.mod_eq_of_lt:=@Nat.mod_eq_of_lt
theorem Aby:type_of%@List.length_append:=@List.length_append
theorem Abz:type_of%@Bool.and_eq_true:=@Bool.and_eq_true
theorem Ab2:type_of%@decide_eq_true_eq:=@decide_eq_true_eq
theorem Ab3:type_of%@Go.Result.andThen_ok:=@Go.Result.andThen_ok
theorem Ab4:type_of%@Nat.mul_le_mul_right:=@Nat.mul_le_mul_right
theorem Adn:type_of%@List.append_assoc:=@List.append_assoc
theorem Aeb:type_of%@Nat.pow_le_pow_right:=@Nat.pow_le_pow_right
theorem Afc:type_of%@Go.run_underlying:=@Go.run_underlying
theorem Afw:type_of%@List.length_take:=@List.length_take
theorem Aiq:type_of%@Int.toNat_natCast:=@Int.toNat_natCast
theorem Ajt:type_of%@UInt64.toNat_ofNat':=@UInt64.toNat_ofNat'
theorem Ajx:type_of%@Option.some.injEq:=@Option.some.injEq
theorem Ajz:type_of%@UInt32.toNat_ofNat':=@UInt32.toNat_ofNat'
theorem Aj0:type_of%@Nat.le_refl:=@Nat.le_refl
theorem Aj1:type_of%@List.length_cons:=@List.length_cons
theorem Aj2:type_of%@List.mem_cons_of_mem:=@List.mem_cons_of_mem
theorem Aj3:type_of%@Go.Sem.run_bind:=@Go.Sem.run_bind
theorem Aj4:type_of%@Nat.lt_of_lt_of_le:=@Nat.lt_of_lt_of_le
theorem Ake:type_of%@Int.eq_ofNat_of_zero_le:=@Int.eq_ofNat_of_zero_le
theorem An0:type_of%@Bool.eq_iff_iff:=@Bool.eq_iff_iff
theorem An9:type_of%@UInt8.toNat_ofNat':=@UInt8.toNat_ofNat'
theorem Aoi:type_of%@Nat.mul_comm:=@Nat.mul_comm
theorem Aoj:type_of%@Nat.eq_of_mul_eq_mul_right:=@Nat.eq_of_mul_eq_mul_right
theorem Aoy:type_of%@List.take_of_length_le:=@List.take_of_length_le
theorem Ao4:type_of%@Bool.false_eq_true:=@Bool.false_eq_true
theorem Aph:type_of%@Go.Sem.run_pure:=@Go.Sem.run_pure
theorem Asa:type_of%@List.eq_nil_of_length_eq_zero:=@List.eq_nil_of_length_eq_zero
theorem Ash:type_of%@List.length_replicate:=@List.length_replicate
theorem Asn:type_of%@List.length_drop:=@List.length_drop
theorem Asr:type_of%@Int.fdiv_eq_ediv_of_nonneg:=@Int.fdiv_eq_ediv_of_nonneg
theorem Ast:type_of%@Nat.eq_of_beq_eq_true:=@Nat.eq_of_beq_eq_true
theorem Asv:type_of%@Nat.div_le_self:=@Nat.div_le_self
theorem Atw:type_of%@Nat.pow_succ:=@Nat.pow_succ
theorem At5:type_of%@Option.some.inj:=@Option.some.inj
theorem At9:type_of%@List.mem_cons_self:=@List.mem_cons_self
theorem Aun:type_of%@List.append_nil:=@List.append_nil
theorem Auu:type_of%@Prod.mk.injEq:=@Prod.mk.injEq
theorem Aux:type_of%@Nat.add_mul:=@Nat.add_mul
theorem Auz:type_of%@Nat.add_assoc:=@Nat.add_assoc
theorem Au1:type_of%@Nat.zero_add:=@Nat.zero_add
theorem Au2:type_of%@List.sum_cons:=@List.sum_cons
theorem Au3:type_of%@Bool.not_eq_true':=@Bool.not_eq_true'
theorem Au4:type_of%@Nat.le_of_ble_eq_true:=@Nat.le_of_ble_eq_true
theorem Au5:type_of%@List.ext_getElem:=@List.ext_getElem
theorem Au6:type_of%@Nat.min_eq_left:=@Nat.min_eq_left
theorem Au7:type_of%@Int32.ofInt_toInt:=@Int32.ofInt_toInt
theorem Au9:type_of%@List.getElem_mem:=@List.getElem_mem
theorem Avj:type_of%@List.nil_append:=@List.nil_append
theorem Avl:type_of%@List.size_toArray:=@List.size_toArray
theorem Avo:type_of%@Nat.xor_lt_two_pow:=@Nat.xor_lt_two_pow
theorem Avq:type_of%@List.replicate_succ:=@List.replicate_succ
theorem Avw:type_of%@Nat.two_pow_add_eq_or_of_lt:=@Nat.two_pow_add_eq_or_of_lt
theorem Avz:type_of%@Int.tdiv_eq_ediv_of_nonneg:=@Int.tdiv_eq_ediv_of_nonneg
theorem Av6:type_of%@List.take_append_of_le_length:=@List.take_append_of_le_length
theorem Av7:type_of%@Nat.add_sub_cancel_left:=@Nat.add_sub_cancel_left
theorem Awf:type_of%@Bool.or_eq_true:=@Bool.or_eq_true
theorem Awl:type_of%@BitVec.toNat_ofInt:=@BitVec.toNat_ofInt
theorem Awn:type_of%@Eq.trans:=@Eq.trans
theorem Awr:type_of%@Nat.and_two_pow_sub_one_eq_mod:=@Nat.and_two_pow_sub_one_eq_mod
theorem Awu:type_of%@List.take_append_drop:=@List.take_append_drop
theorem Awv:type_of%@Go.World.putObj_heap_other:=@Go.World.putObj_heap_other
theorem Aww:type_of%@decide_eq_false_iff_not:=@decide_eq_false_iff_not
theorem Awx:type_of%@Int.natCast_mul:=@Int.natCast_mul
theorem Aw1:type_of%@Nat.div_eq_of_lt:=@Nat.div_eq_of_lt
theorem Aw3:type_of%@Nat.mod_lt:=@Nat.mod_lt
theorem Aw6:type_of%@Nat.add_zero:=@Nat.add_zero
theorem Aw7:type_of%@List.map_cons:=@List.map_cons
theorem Aw8:type_of%@Nat.lt_of_le_of_lt:=@Nat.lt_of_le_of_lt
theorem Aw9:type_of%@Nat.xor_assoc:=@Nat.xor_assoc
theorem Axa:type_of%@List.length_set:=@List.length_set
theorem Axb:type_of%@Nat.div_mul_le_self:=@Nat.div_mul_le_self
theorem Axc:type_of%@List.take_length:=@List.take_length
theorem Axd:type_of%@beq_iff_eq:=@beq_iff_eq
theorem Axe:type_of%@Nat.pow_pos:=@Nat.pow_pos
theorem Axj:type_of%@if_false:=@if_false
theorem Axk:type_of%@Nat.div_div_eq_div_mul:=@Nat.div_div_eq_div_mul
theorem Axm:type_of%@List.take_zero:=@List.take_zero
theorem Axn:type_of%@List.take_take:=@List.take_take
theorem Axs:type_of%@List.cons_append:=@List.cons_append
theorem Axv:type_of%@Nat.mul_mod_left:=@Nat.mul_mod_left
theorem Axw:type_of%@List.drop_length:=@List.drop_length
theorem Axy:type_of%@List.drop_left:=@List.drop_left
theorem Ax0:type_of%@List.drop_zero:=@List.drop_zero
theorem Ax1:type_of%@List.getElem_range:=@List.getElem_range
theorem Ax3:type_of%@Nat.not_lt_zero:=@Nat.not_lt_zero
theorem Ax8:type_of%@Nat.min_eq_right:=@Nat.min_eq_right
theorem Aya:type_of%@List.getElem_map:=@List.getElem_map
theorem Ayd:type_of%@Int.tmod_eq_emod_of_nonneg:=@Int.tmod_eq_emod_of_nonneg
theorem Ayn:type_of%@Go.wpIn_mono:=@Go.wpIn_mono
theorem Ayt:type_of%@Option.map_eq_some_iff:=@Option.map_eq_some_iff
theorem Ayu:type_of%@Int32.toInt_ofInt:=@Int32.toInt_ofInt
theorem Ay0:type_of%@List.flatten_cons:=@List.flatten_cons
theorem Ay1:type_of%@of_decide_eq_true:=@of_decide_eq_true
theorem Ay2:type_of%@Nat.mul_assoc:=@Nat.mul_assoc
theorem Ay3:type_of%@Classical.byContradiction:=@Classical.byContradiction
theorem Ay4:type_of%@decide_eq_false:=@decide_eq_false
theorem Ay5:type_of%@BitVec.eq_of_toNat_eq:=@BitVec.eq_of_toNat_eq
theorem Ay6:type_of%@Int.natCast_nonneg:=@Int.natCast_nonneg
theorem Ay7:type_of%@UInt64.toNat_inj:=@UInt64.toNat_inj
theorem Ay8:type_of%@Nat.lt_or_ge:=@Nat.lt_or_ge
theorem Ay9:type_of%@Nat.add_comm:=@Nat.add_comm
theorem Aza:type_of%@Nat.succ_mul:=@Nat.succ_mul
theorem Azb:type_of%@List.drop_drop:=@List.drop_drop
theorem Azc:type_of%@Nat.div_add_mod:=@Nat.div_add_mod
theorem Azd:type_of%@Bool.true_and:=@Bool.true_and
theorem Aze:type_of%@Bool.not_true:=@Bool.not_true
theorem Azf:type_of%@Int.add_assoc:=@Int.add_assoc
theorem Azg:type_of%@Nat.mul_le_mul:=@Nat.mul_le_mul
theorem Azh:type_of%@Nat.mul_one:=@Nat.mul_one
theorem Azi:type_of%@List.mem_of_mem_drop:=@List.mem_of_mem_drop
theorem Azj:type_of%@Option.map_none:=@Option.map_none
theorem Azk:type_of%@Option.map_some:=@Option.map_some
theorem Azl:type_of%@Nat.add_mod_right:=@Nat.add_mod_right
theorem Azm:type_of%@Nat.exists_eq_add_of_le:=@Nat.exists_eq_add_of_le
theorem Azn:type_of%@Nat.pow_add:=@Nat.pow_add
theorem Azo:type_of%@List.flatten_append:=@List.flatten_append
theorem Azp:type_of%@UInt32.toNat_xor:=@UInt32.toNat_xor
theorem Azq:type_of%@UInt64.toNat_div:=@UInt64.toNat_div
theorem Azr:type_of%@List.getElem_set:=@List.getElem_set
theorem Azs:type_of%@Bool.false_and:=@Bool.false_and
theorem Azt:type_of%@List.drop_of_length_le:=@List.drop_of_length_le
theorem Azu:type_of%@Nat.le_trans:=@Nat.le_trans
theorem Azv:type_of%@Nat.le_total:=@Nat.le_total
theorem Azw:type_of%@List.map_set:=@List.map_set
theorem Azx:type_of%@Int.bmod_eq_of_le:=@Int.bmod_eq_of_le
theorem Azy:type_of%@Int.toNat_zero:=@Int.toNat_zero
theorem Azz:type_of%@BitVec.toNat_and:=@BitVec.toNat_and
theorem Az0:type_of%@Nat.sub_mul:=@Nat.sub_mul
theorem Az1:type_of%@bne_iff_ne:=@bne_iff_ne
theorem Az2:type_of%@Nat.xor_comm:=@Nat.xor_comm
theorem Az3:type_of%@if_true:=@if_true
theorem Az4:type_of%@Ne.symm:=@Ne.symm
theorem Az5:type_of%@cond_false:=@cond_false
end Go
namespace Go.Lv
abbrev Env:=Nat->Value
def Ub(σ:Env)(d:Nat)(v:Value):Env:=λt=>match Nat.beq t d with|true=>v|false=>σ t
def ev(σ:Env):Operand->Value
 | .tmp t=>σ t
 | .const v=>v
 | .global g=> .pointer (some ⟨g,0,none⟩)
 | .func f=> .func (.func f) #[] #[]
structure Fits (ds:List Deferred) (n:Nat) (a:Act) (σ:Env):Prop where
 size:a.tmps.size=n
 defers:a.defers=ds
 get:∀t,a.tmps.getD t undef=σ t
theorem Fits.eval{ds:List Deferred}{n:Nat}{a:Act}{σ:Env}(h:Fits ds n a σ):a.eval=ev σ:=by
 funext x;cases x<;>simp only[Act.eval,ev,h.get]
theorem SG(σ:Env)(d:Nat)(v:Value):Ub σ d v d=v:=by simp[Ub]
theorem oD(σ:Env){d t:Nat}(v:Value)(h:t≠d):Ub σ d v t=σ t:=by
 unfold Ub;have:Nat.beq t d=false:=by
  cases hb:Nat.beq t d with
  |false=>rfl
  |true=>exact absurd (Ast hb) h
 rw[this]
theorem Fits.put{ds:List Deferred}{n:Nat}{a:Act}{σ:Env}(h:Fits ds n a σ){d:Nat}(hd:Nat.blt d n=true)(v:Value):Fits ds n (a.put (some d) v) (Ub σ d v):=by
 have hd':d<n:=by simpa [Nat.blt_eq]using hd
 refine⟨by simp[Act.put,h.size],h.defers,λt=>?_⟩;by_cases ht:t=d
 ·subst ht;rw[SG];simp[Act.put,Array.getD,h.size,hd']
 ·rw[oD _ _ ht,<-h.get t];simp[Act.put,Array.getD_eq_getD_getElem?,Array.getElem?_setIfInBounds_ne (Az4 ht)]
theorem Fits.zV{ds:List Deferred}{n:Nat}{a:Act}{σ:Env}(h:Fits ds n a σ)(v:Value):Fits ds n (a.put none v) σ:=h
variable {P:Program} {n:Nat}
def wr(ro:Option Nat):Fence:={Fence.wide with round:=ro}
theorem At6{ro:Option Nat}{m:Nat}{f:FuncId}{args:Array Value}{w:World}{R:Ending->World->Prop}(h:Calls P f args w R):CallsIn (wr ro) m P f args w R:=callsIn_wide.2 h
theorem Ao1{ro:Option Nat}{m:Nat}{o:Oper}{a:Act}{next:Act->World->Prop}{Q:Exit->Act->World->Prop}{r:Result Next}(h:o.upon P a next Q r):o.uponIn (wr ro) m P a next Q r:=by
 cases r with
 |ok x w'=>
  cases x<;>first
   |exact h
   |exact⟨(λh=>by simp[wr,Fence.wide]at h),At6 h⟩
   |exact⟨(λh=>by simp[wr,Fence.wide]at h),λc cs _=>let⟨v,w',r,s⟩:=h c cs;⟨v,w',r,stepsIn_wide.2 s⟩⟩
   |exact h.elim
 |halt x w'=>cases x<;>first|exact h|exact h.elim
def mF:List Oper->Bool
 |[]=>true
 |o::r=>(match o.op with| .defer _=>false|_=>true)&&mF r
theorem xK{l:List Oper}(h:mF l=true):∀o∈l,∀c,o.op≠ .defer c:=by
 induction l with
 |nil=>intro o ho;cases ho
 |cons o l ih=>
  simp only[mF,Abz]at h;intro o' ho' c hc;rcases List.mem_cons.1 ho' with rfl|ho'
  ·rw[hc]at h;cases h.1
  ·exact ih h.2 o' ho' c hc
theorem Asf{ro:Option Nat}{m:Nat}{o:Oper}{a:Act}{w:World}{next:Act->World->Prop}{Q:Exit->Act->World->Prop}(hd:∀c,o.op≠ .defer c)(h:o.wp P a w next Q):o.wpIn (wr ro) m P a w next Q:=
 ⟨λ_ _=>trivial,by rw[Oper.semAt_eq _ _ _ hd];exact Ao1 h⟩
def Nrm(Z:Act->World->Prop):Exit->Act->World->Prop:=λe a w=>e= .normal/\Z a w
theorem jk{Z:Act->World->Prop}(h:LetsOut (Nrm Z)):False:=by
 obtain⟨_,_,h,_⟩:=h;cases h
theorem rZ{ro:Option Nat}{m:Nat}{ops:Array Oper}{Z:Act->World->Prop}:∀{l:List Oper} {a:Act} {w:World},(∀o∈l,∀c,o.op≠ .defer c)->wpList P ops (Nrm Z) l a w->wpListIn (wr ro) m P ops (Nrm Z) l a w
 |[],_,_,_,h=>h
 |o::l,a,w,hd,h=>by
  have hn:∀a w,wpList P ops (Nrm Z) l a w->wpListIn (wr ro) m P ops (Nrm Z) l a w:=λa w=>rZ (λo ho=>hd o (Aj2 _ ho));simp only[wpList]at h;simp only[wpListIn];split
  ·rename_i hw;rw[Abb hw]at h;rcases h with h|⟨_,h⟩
   ·exact Oper.wpIn_mono hn (Asf (hd o At9) h)
   ·exact(jk h).elim
  ·rename_i hw;rw[Aba hw]at h;exact⟨λ_ _=>trivial,hn _ _ h⟩
theorem Aq6{ro:Option Nat}{m:Nat}{ops:Array Oper}{Z:Act->World->Prop}{i:Nat}{K:Act->World->Prop}{a:Act}{w:World}(hd:∀o∈ops.toList,∀c,o.op≠ .defer c)(h:wpOp P ops (Nrm Z) i K a w):wpOpIn (wr ro) m P ops (Nrm Z) i K a w:=by
 unfold wpOp at h;unfold wpOpIn;split
 ·rename_i ho;rw[ho]at h;exact h
 ·rename_i o ho;rw[ho]at h;simp only at h;split
  ·rename_i hw;rw[Abb hw]at h;rcases h with h|⟨_,h⟩
   ·exact Asf (hd o (by rw[<-Array.getElem?_toList]at ho;exact List.mem_of_getElem? ho)) h
   ·exact(jk h).elim
  ·rename_i hw;rw[Aba hw]at h;exact⟨λ_ _=>trivial,h⟩
theorem qg{ro:Option Nat}{m:Nat}{md:Region.Mode}{ops:Array Oper}{Z:Act->World->Prop}(hd:∀o∈ops.toList,∀c,o.op≠ .defer c):∀{fuel:Nat} {listed:Array Bool} {a:Act} {w:World},wpAny P md ops (Nrm Z) fuel listed a w->wpAnyIn (wr ro) m P md ops (Nrm Z) fuel listed a w
 |0,_,_,_,h=>h
 |_+1,_,_,_,h=>⟨h.1,λi hi=>wpOpIn_mono (λ_ _ h=>qg hd h) (Aq6 hd (h.2 i hi))⟩
def W(P:Program)(n:Nat)(c:Code)(Q:Exit->Env->World->Prop)(σ:Env)(w:World):Prop:=
 ∀(ro:Option Nat) (m:Nat) (ds:List Deferred) (a:Act),Fits ds n a σ->c.wpIn (wr ro) m P (λe a' w'=>∃σ',Fits ds n a' σ'/\Q e σ' w') a w
theorem W.wp{c:Code}{Q:Exit->Env->World->Prop}{σ:Env}{w:World}(h:W P n c Q σ w){a:Act}(ha:Fits [] n a σ):c.wp P (λe a' w'=>∃σ',Fits [] n a' σ'/\Q e σ' w') a w:=wpIn_wide.1 (h none 0 [] a ha)
def Avk(K:Env->World->Prop)(Q:Exit->Env->World->Prop):Exit->Env->World->Prop
 | .normal,σ,w=>K σ w
 |e,σ,w=>Q e σ w
def X0(id:Nat)(Q:Exit->Env->World->Prop):Exit->Env->World->Prop
 | .exit id',σ,w=>if id'=id then Q .normal σ w else Q (.exit id') σ w
 |e,σ,w=>Q e σ w
variable {Q:Exit->Env->World->Prop} {σ:Env} {w:World}
theorem W.mono{c:Code}{Q':Exit->Env->World->Prop}(h:W P n c Q σ w)(hq:∀e σ w,Q e σ w->Q' e σ w):W P n c Q' σ w:=
 λro m ds a ha=>Ayn (h ro m ds a ha) λ_ _ _ ⟨σ',hf,hh⟩=>⟨σ',hf,hq _ _ _ hh⟩
theorem W.seq{x y:Code}(h:W P n x (Avk (W P n y Q) Q) σ w):W P n (.seq x y) Q σ w:=by
 intro ro m ds a ha;refine wpIn_seq (Ayn (h ro m ds a ha) ?_);rintro e a' w' ⟨σ',hf,hh⟩;cases e<;>first|exact hh ro m ds a' hf|exact⟨σ',hf,hh⟩
theorem W.skip(h:Q .normal σ w):W P n .skip Q σ w:=λ_ _ _ _ ha=>wpIn_skip ⟨σ,ha,h⟩
theorem W.ret(h:Q .ret σ w):W P n .ret Q σ w:=λ_ _ _ _ ha=>wpIn_ret ⟨σ,ha,h⟩
theorem W.exit{id:Nat}(h:Q (.exit id) σ w):W P n (.exit id) Q σ w:=λ_ _ _ _ ha=>wpIn_exit ⟨σ,ha,h⟩
theorem W.block{id:Nat}{c:Code}(h:W P n c (X0 id Q) σ w):W P n (.block id c) Q σ w:=by
 intro ro m ds a ha;refine wpIn_block (Ayn (h ro m ds a ha) ?_);rintro e a' w' ⟨σ',hf,hh⟩;cases e with
 |exit id'=>
  simp only[X0]at hh;simp only[Exit.inBlock];split
  ·rename_i he;simp only[he,Az3]at hh;exact⟨σ',hf,hh⟩
  ·rename_i he;simp only[he,Axj]at hh;exact⟨σ',hf,hh⟩
 |_=>exact⟨σ',hf,hh⟩
theorem W.cond{c:Operand}{x y:Code}{t:Bool}(hc:ev σ c= .bool t)(ht:t=true->W P n x Q σ w)(hf:t=false->W P n y Q σ w):
  W P n (.cond c x y) Q σ w:=by
 intro ro m ds a ha;exact wpIn_cond_split (by rw[ha.eval];exact hc) (λh=>ht h ro m ds a ha) (λh=>hf h ro m ds a ha)
theorem W.loop{c:Code}(I:Nat->Env->World->Prop)(m:Nat)(h0:I m σ w)
  (round:∀k σ w,I k σ w->W P n c (Avk (λσ' w'=>∃j,j<k/\I j σ' w') Q) σ w):W P n (.loop c) Q σ w:=by
 intro ro d ds a ha;have key:∀(q k:Nat) (σ:Env) (w:World) (a:Act),k<q->I k σ w->Fits ds n a σ->Code.roundsIn (wr ro) d P c (λe a' w'=>∃σ',Fits ds n a' σ'/\Q e σ' w') q a w:=by
  intro q
  induction q with
  |zero=>intro k σ w a hk;omega
  |succ q ih=>
   intro k σ w a hk hI ha;rw[roundsIn_succ];refine Ayn (round k σ w hI ro d ds a ha) ?_;rintro e a' w' ⟨σ',hf,hh⟩;cases e with
   |normal=>
    obtain⟨j,hj,hI'⟩:=hh;exact ih j σ' w' a' (by omega) hI' hf
   |_=>exact⟨σ',hf,hh⟩
 exact wpIn_loop_rounds (m+1) (key (m+1) m σ w a (Nat.lt_succ_self _) h0 ha)
theorem Oper.Acr{o:Oper}{a:Act}{w:World}{next next':Act->World->Prop}{Z:Act->World->Prop}{R:Exit->Act->World->Prop}
  (h:o.wp P a w next (λe a w=>e=Exit.normal/\Z a w)) (hn:∀a w,next a w->next' a w):o.wp P a w next' R:=by
 unfold Oper.wp at*
 generalize(execOp a.eval o).run P w=r at*
 cases r with
 |ok x w'=>
  cases x<;>simp only[Oper.upon]at h⊢<;>first
   |exact hn _ _ h
   |exact Rows.mono h λ_ _ hh=>hn _ _ hh
   |skip
  refine Calls.mono h ?_;intro e w'' hh;cases e with
  |returned v=>exact hn _ _ hh
  |panicked c=>exact absurd hh.1 (by simp)
  |outgrown=>obtain⟨_,_,hh,_⟩:=hh;exact absurd hh (by simp)
 |halt x w'=>
  cases x<;>simp only[Oper.upon]at h⊢;exact absurd h.1 (by simp)
theorem Adl{ops:Array Oper}{Z:Act->World->Prop}{R:Exit->Act->World->Prop}{l:List Oper}(h2:∀a w,Z a w->wpList P ops R l a w):
  ∀(l1:List Oper) (a:Act) (w:World),wpList P ops (λe a w=>e=Exit.normal/\Z a w) l1 a w->wpList P ops R (l1++l) a w:=by
 intro l1
 induction l1 with
 |nil=>intro a w h;exact h2 _ _ h.2
 |cons o l1 ih=>
  intro a w h;simp only[wpList,Axs]at h⊢;split
  ·rename_i hw;rw[Abb hw]at h;rcases h with h|⟨_,_,_,hh,_⟩
   ·exact .inl (Oper.Acr h ih)
   ·exact absurd hh (by simp)
  ·rename_i hw;rw[Aba hw]at h;exact ih _ _ h
def WL(P:Program)(n:Nat)(ops:Array Oper)(l:List Oper)(K:Env->World->Prop)(σ:Env)(w:World):Prop:=
 ∀(ds:List Deferred) (a:Act),Fits ds n a σ->wpList P ops (λe a' w'=>e=Exit.normal/\∃σ',Fits ds n a' σ'/\K σ' w') l a w
theorem W.region{id:Nat}{l:List Oper}(hd:mF l=true)(h:WL P n l.toArray l (λσ' w'=>Q .normal σ' w') σ w):W P n (.region id l.toArray false) Q σ w:=by
 intro ro m ds a ha;refine Ayn (wpIn_region_lit (rZ (Z:=λa' w'=>∃σ',Fits ds n a' σ'/\Q .normal σ' w') (xK hd) (h ds a ha))) ?_;rintro e a' w' ⟨rfl,h⟩;exact h
variable {ops:Array Oper} {rest:List Oper} {K:Env->World->Prop}
theorem WL.nil(h:K σ w):WL P n ops [] K σ w:=λ_ _ ha=>⟨rfl,σ,ha,h⟩
theorem WL.cut(J:Env->World->Prop)(l1:List Oper)(h1:WL P n ops l1 J σ w)(h2:∀σ w,J σ w->WL P n ops rest K σ w):WL P n ops (l1++rest) K σ w:=
 λds a ha=>Adl (λa' w' ⟨σ',hf,hj⟩=>h2 σ' w' hj ds a' hf) l1 a w (h1 ds a ha)
theorem WL.val{o:Oper}{d:Nat}{v:Value}{w':World}(hg:o.guard=none)(hd:o.dst=some d)(hdn:Nat.blt d n=true)
  (hx:(execOp (ev σ) o).run P w= .ok (.value v) w') (h:WL P n ops rest K (Ub σ d v) w'):WL P n ops (o::rest) K σ w:=by
 intro ds a ha;refine wpList_plain hg λK' hK'=>?_;unfold Oper.wp;rw[ha.eval,hx];exact hK' _ _ (by rw[hd];exact h _ _ (ha.put hdn v))
theorem WL.unit{o:Oper}{w':World}(hg:o.guard=none)(hd:o.dst=none)
  (hx:(execOp (ev σ) o).run P w= .ok .skip w') (h:WL P n ops rest K σ w'):WL P n ops (o::rest) K σ w:=by
 intro ds a ha;refine wpList_plain hg λK' hK'=>?_;unfold Oper.wp;rw[ha.eval,hx];exact hK' _ _ (by rw[hd];exact h _ _ ha)
theorem WL.enter{o:Oper}{d:Nat}{f:FuncId}{args:Array Value}{w1:World}{R1:Ending->World->Prop}(hg:o.guard=none)(hd:o.dst=some d)(hdn:Nat.blt d n=true)
  (hx:(execOp (ev σ) o).run P w= .ok (.enter f args) w1) (hc:Calls P f args w1 R1)
  (hr:∀e w',R1 e w'->∃r,e= .returned r/\WL P n ops rest K (Ub σ d r) w'):WL P n ops (o::rest) K σ w:=by
 intro ds a ha;refine wpList_plain hg λK' hK'=>?_;unfold Oper.wp;rw[ha.eval,hx];simp only[Oper.upon];refine hc.mono ?_;intro e w' h;obtain⟨r,rfl,hh⟩:=hr e w' h;exact hK' _ _ (by rw[hd];exact hh _ _ (ha.put hdn r))
theorem SA{ds:List Deferred}{a:Act}(ha:Fits ds n a σ){j t:Nat}{b:Bool}(hj:(ops[j]?).bind (·.dst)=some t)(hb:σ t= .bool b):yielded ops a.tmps j=some b:=by
 unfold yielded;rw[hj];have h1:=ha.get t;rw[hb]at h1;have h2:a.tmps[t]? =some (.bool b):=by
  cases h:a.tmps[t]? with
  |none=>rw[Array.getD_eq_getD_getElem?,h]at h1;simp[undef]at h1
  |some v=>rw[Array.getD_eq_getD_getElem?,h]at h1;simpa using h1
 simp[h2]
theorem WL.off{o:Oper}{d j t:Nat}{want b:Bool}(hg:o.guard=some (j,want))(hj:(ops[j]?).bind (·.dst)=some t)(hb:σ t= .bool b)(hne:(b==want)=false)
  (hd:o.dst=some d) (hdn:Nat.blt d n=true) (h:WL P n ops rest K (Ub σ d undef) w):WL P n ops (o::rest) K σ w:=by
 intro ds a ha;refine wpList_step λK' hK'=>?_;have hw:Region.wanted o (yielded ops a.tmps)=false:=by
  simp only[Region.wanted,hg,SA ha hj hb];cases b<;>cases want<;>simp_all
 rw[Aba (by rw[hw];simp)];exact hK' _ _ (by rw[hd];exact h _ _ (ha.put hdn _))
theorem WL.on{o:Oper}{j t:Nat}{want b:Bool}(hg:o.guard=some (j,want))(hj:(ops[j]?).bind (·.dst)=some t)(hb:σ t= .bool b)(hne:(b==want)=true)
  (h:WL P n ops (({o with guard:=none}:Oper)::rest) K σ w):WL P n ops (o::rest) K σ w:=by
 intro ds a ha;have h1:=h ds a ha;have hw:Region.wanted o (yielded ops a.tmps)=true:=by
  simp only[Region.wanted,hg,SA ha hj hb];cases b<;>cases want<;>simp_all
 have hw':Region.wanted ({o with guard:=none}:Oper) (yielded ops a.tmps)=true:=rfl;unfold wpList at h1⊢;rw[Abb hw']at h1;rw[Abb hw];exact h1
end Go.Lv
namespace Go.Lv
abbrev Reg:=Nat->Prop
def Same(A:Reg)(w w':World):Prop:=∀b,A b->w'.heap[b]? =w.heap[b]?
structure Gr (w w':World):Prop where
 le:w.heap.size<=w'.heap.size
 os:w'.os=w.os
 tape:w'.tape=w.tape
 output:w'.output=w.output
theorem Gr.refl(w:World):Gr w w:=⟨Aj0 _,rfl,rfl,rfl⟩
theorem Gr.trans{a b c:World}(h:Gr a b)(h':Gr b c):Gr a c:=⟨Azu h.le h'.le,h'.os.trans h.os,h'.tape.trans h.tape,h'.output.trans h.output⟩
structure Keep (w w':World):Prop where
 same:∀b,b<w.heap.size->w'.heap[b]? =w.heap[b]?
 gr:Gr w w'
theorem Keep.le{w w':World}(h:Keep w w'):w.heap.size<=w'.heap.size:=h.gr.le
theorem Keep.refl(w:World):Keep w w:=⟨λ_ _=>rfl, .refl _⟩
theorem Keep.trans{a b c:World}(h:Keep a b)(h':Keep b c):Keep a c:=
 ⟨λi hi=>(h'.same i (Aj4 hi h.le)).trans (h.same i hi),h.gr.trans h'.gr⟩
theorem lt_of_heap{w:World}{b:Nat}{o:Obj}(h:w.heap[b]? =some o):b<w.heap.size:=by
 rcases Ay8 b w.heap.size with h'|h'
 ·exact h'
 ·rw[Array.getElem?_eq_none h']at h;cases h
def Rd(A:Reg)(w:World)(s:Nat)(v:Value)(cs:List Value):Prop:=
 ∃(p:Option Addr) (len cap:Nat),v= .slice p len cap/\cs.length=len*s/\len<=cap/\ (p=none->cap=0)/\
  (0<cap->∃b off arr T fr,p=some ⟨b,off,none⟩/\A b/\w.heap[b]? =some (.cells arr T fr)/\off+cap*s<=arr.size/\∀i,i<len*s->arr[off+i]? =cs[i]?)
theorem Rd.step{A A':Reg}{w w':World}{s:Nat}{v:Value}{cs:List Value}(h:Rd A w s v cs)(ha:∀b,A b->A' b)(hs:Same A w w'):Rd A' w' s v cs:=by
 obtain⟨p,len,cap,h1,h2,h3,h4,h5⟩:=h;refine⟨p,len,cap,h1,h2,h3,h4,λhc=>?_⟩;obtain⟨b,off,arr,T,fr,e1,e2,e3,e4⟩:=h5 hc;exact⟨b,off,arr,T,fr,e1,ha _ e2,(hs b e2).trans e3,e4⟩
theorem Rd.nil{A:Reg}{w:World}{s:Nat}:Rd A w s (.slice none 0 0) []:=⟨none,0,0,rfl,by simp,Aj0 _,λ_=>rfl,λh=>absurd h (by simp)⟩
structure Fact where
 holds:Reg->World->Prop
 step:∀{A A':Reg} {w w':World},holds A w-> (∀b,A b->A' b)->Same A w w'->Gr w w'->holds A' w'
def Fact.rd(R:Reg)(s:Nat)(v:Value)(cs:List Value):Fact where
 holds A w:=Rd (λb=>A b/\R b) w s v cs
 step h ha hs _:=h.step (λb ⟨h1,h2⟩=>⟨ha b h1,h2⟩) (λb ⟨h1,_⟩=>hs b h1)
def Fact.box(R:Reg)(b:Nat)(cells:List Value)(T:TypeId):Fact where
 holds A w:=A b/\R b/\∃fr,w.heap[b]? =some (.cells cells.toArray T fr)
 step h ha hs _:=⟨ha _ h.1,h.2.1,h.2.2.imp λ_ e=>(hs _ h.1).trans e⟩
def Fact.old(M:Reg)(w0:World):Fact where
 holds A w:=Gr w0 w/\∀b,b<w0.heap.size-> ¬M b->A b/\w.heap[b]? =w0.heap[b]?
 step:=λh ha hs hsz=>⟨h.1.trans hsz,λb hb hM=>⟨ha b (h.2 b hb hM).1,(hs b (h.2 b hb hM).1).trans (h.2 b hb hM).2⟩⟩
structure Mob where
 holds:Option Nat->World->Prop
 step:∀{o:Option Nat} {w w':World},holds o w-> (∀b,o=some b->w'.heap[b]? =w.heap[b]?)->holds o w'
def Mob.box(b:Nat)(cells:List Value)(T:TypeId):Mob where
 holds o w:=o=some b/\w.heap[b]? =some (.cells cells.toArray T (0,0))
 step h hs:=⟨h.1,(hs _ h.1).trans h.2⟩
def Mob.own(s:Nat)(E:TypeId)(v:Value)(cs:List Value):Mob where
 holds o w:=∃(p:Option Addr) (len cap:Nat),v= .slice p len cap/\cs.length=len*s/\len<=cap/\ (p=none->cap=0)/\
  (o=none->cap=0)/\∀b,o=some b->∃arr fr,p=some ⟨b,0,none⟩/\w.heap[b]? =some (.cells arr E fr)/\arr.size=cap*s/\
   (fr.1=fr.2\/arr.size<=fr.1)/\∀i,i<len*s->arr[i]? =cs[i]?
 step:=by
  rintro o w w' ⟨p,len,cap,h1,h2,h3,h4,h5,h6⟩ hs;refine⟨p,len,cap,h1,h2,h3,h4,h5,λb hb=>?_⟩;obtain⟨arr,fr,e1,e2,e3⟩:=h6 b hb;exact⟨arr,fr,e1,(hs b hb).trans e2,e3⟩
def Ct(w:World):Reg->List Mob->Prop
 |_,[]=>True
 |A,m::L=>∃o,m.holds o w/\ (∀b,o=some b-> ¬A b/\b<w.heap.size)/\Ct w (λb=>A b\/o=some b) L
theorem Ct.Xo{w:World}:∀{L:List Mob} {A A':Reg},Ct w A L-> (∀b,A' b->A b)->Ct w A' L
 |[],_,_,_,_=>trivial
 |m::L,A,A',⟨o,h1,h2,h3⟩,ha=>⟨o,h1,λb hb=>⟨λh=>(h2 b hb).1 (ha b h),(h2 b hb).2⟩,h3.Xo (λb hb=>hb.imp (ha b) id)⟩
theorem Ct.step{w w':World}(hsz:w.heap.size<=w'.heap.size):∀{L:List Mob} {A:Reg},Ct w A L-> (∀b,b<w.heap.size-> ¬A b->w'.heap[b]? =w.heap[b]?)->Ct w' A L
 |[],_,_,_=>trivial
 |m::L,A,⟨o,h1,h2,h3⟩,hs=>⟨o,m.step h1 (λb hb=>hs b (h2 b hb).2 (h2 b hb).1),λb hb=>⟨(h2 b hb).1,Aj4 (h2 b hb).2 hsz⟩,
   h3.step hsz (λb hb hA=>hs b hb (λh=>hA (.inl h)))⟩
theorem Ct.lt{w:World}:∀{L:List Mob} {A:Reg},Ct w A L->Ct w (λb=>A b\/w.heap.size<=b) L
 |[],_,_=>trivial
 |m::L,A,⟨o,h1,h2,h3⟩=>⟨o,h1,λb hb=>⟨λh=>h.elim (h2 b hb).1 (λh=>absurd (h2 b hb).2 (Nat.not_lt.2 h)),(h2 b hb).2⟩,
   h3.lt.Xo (λb hb=>by rcases hb with(h|h)|h<;>simp[h])⟩
theorem Ct.swap{w:World}{A:Reg}{m1 m2:Mob}{L:List Mob}:Ct w A (m1::m2::L)->Ct w A (m2::m1::L):=by
 rintro⟨o1,h1,h2,o2,h3,h4,h5⟩;refine⟨o2,h3,λb hb=>⟨λh=>(h4 b hb).1 (.inl h),(h4 b hb).2⟩,o1,h1,λb hb=>⟨?_,(h2 b hb).2⟩,h5.Xo ?_⟩
 ·rintro(h|h)
  ·exact(h2 b hb).1 h
  ·exact(h4 b h).1 (.inr hb)
 ·rintro b ((h|h)|h)<;>simp[h]
theorem Ct.perm{w:World}{L L':List Mob}(hp:L.Perm L'):∀{A:Reg},Ct w A L->Ct w A L':=by
 induction hp with
 |nil=>exact λh=>h
 |cons m _ ih=>exact λ⟨o,h1,h2,h3⟩=>⟨o,h1,h2,ih h3⟩
 |swap m1 m2 L=>exact Ct.swap
 |trans _ _ ih1 ih2=>exact λh=>ih2 (ih1 h)
theorem Ct.drop{w:World}{m:Mob}{L:List Mob}{A:Reg}:Ct w A (m::L)->Ct w A L
 |⟨_,_,_,h3⟩=>h3.Xo (λ_ h=> .inl h)
structure St (A:Reg) (w:World) (F:List Fact) (L:List Mob):Prop where
 lt:∀b,A b->b<w.heap.size
 facts:∀f∈F,f.holds A w
 mobs:Ct w A L
theorem St.fact{A:Reg}{w:World}{F:List Fact}{L:List Mob}(h:St A w F L)(i:Nat){f:Fact}(hi:F[i]? =some f):f.holds A w:=
 h.facts f (List.mem_of_getElem? hi)
theorem nQ{α:Type}{l:List α}{i:Nat}{m:α}(h:l[i]? =some m):(m::l.eraseIdx i).Perm l:=by
 induction l generalizing i with
 |nil=>simp at h
 |cons x l ih=>
  cases i with
  |zero=>simp at h;subst h;exact .refl _
  |succ i=>
   simp at h;exact(List.Perm.swap x m _).trans ((ih h).cons x)
theorem RB{α:Type}{l:List α}{i:Nat}{m m':α}(h:l[i]? =some m):(m'::l.eraseIdx i).Perm (l.set i m'):=by
 induction l generalizing i with
 |nil=>simp at h
 |cons x l ih=>
  cases i with
  |zero=>simp
  |succ i=>
   simp at h;exact(List.Perm.swap x m' _).trans ((ih h).cons x)
theorem St.front{A:Reg}{w:World}{F:List Fact}{L:List Mob}(h:St A w F L){i:Nat}{m:Mob}(hi:L[i]? =some m):St A w F (m::L.eraseIdx i):=
 ⟨h.lt,h.facts,h.mobs.perm (nQ hi).symm⟩
theorem St.back{A:Reg}{w:World}{F:List Fact}{L:List Mob}{i:Nat}{m m':Mob}(hi:L[i]? =some m)(h:St A w F (m'::L.eraseIdx i)):St A w F (L.set i m'):=
 ⟨h.lt,h.facts,h.mobs.perm (RB hi)⟩
theorem St.Au8{A:Reg}{w:World}{F:List Fact}{L:List Mob}{m:Mob}(h:St A w F (m::L)):St A w F L:=⟨h.lt,h.facts,h.mobs.drop⟩
theorem St.uT{A:Reg}{w:World}{F:List Fact}{L:List Mob}{f:Fact}(h:St A w (f::F) L):St A w F L:=⟨h.lt,λg hg=>h.facts g (.tail _ hg),h.mobs⟩
theorem St.qC{A:Reg}{w:World}{F:List Fact}{L:List Mob}{f:Fact}(h:St A w F L)(hf:f.holds A w):St A w (f::F) L:=
 ⟨h.lt,λg hg=>by cases hg with|head=>exact hf|tail _ hg=>exact h.facts g hg,h.mobs⟩
theorem St.keep{A:Reg}{w w':World}{F:List Fact}{L:List Mob}(h:St A w F L)(hk:Keep w w'):St A w' F L:=
 ⟨λb hb=>Aj4 (h.lt b hb) hk.le,λf hf=>f.step (h.facts f hf) (λ_ h=>h) (λb hb=>hk.same b (h.lt b hb)) hk.gr,
  h.mobs.step hk.le (λb hb _=>hk.same b hb)⟩
structure Fr (w w':World) (F1:List Fact) (L1:List Mob):Prop where
 keep:Keep w w'
 own:∃A1:Reg,(∀b,A1 b->w.heap.size<=b/\b<w'.heap.size)/\ (∀f∈F1,f.holds A1 w')/\Ct w' (λb=>A1 b\/b<w.heap.size) L1
theorem Fr.nil{w w':World}(h:Keep w w'):Fr w w' [] []:=⟨h,λ_=>False,λ_ h=>h.elim,λ_ h=>(by cases h),trivial⟩
theorem Ct.append{w:World}:∀{L1 L2:List Mob} {A:Reg} (B:Reg),(∀b,B b->b<w.heap.size)->Ct w (λb=>A b\/B b) L1->Ct w (λb=>A b\/ ¬B b) L2->Ct w A (L1++L2)
 |[],L2,A,B,_,_,h2=>h2.Xo (λ_ h=> .inl h)
 |m::L1,L2,A,B,hB,⟨o,h1,h2,h3⟩,h4=>by
  refine⟨o,h1,λb hb=>⟨λh=>(h2 b hb).1 (.inl h),(h2 b hb).2⟩,?_⟩;refine Ct.append B hB (h3.Xo ?_) (h4.Xo ?_)
  ·rintro b ((h|h)|h)<;>simp[h]
  ·rintro b ((h|h)|h)
   ·exact .inl h
   ·exact .inr (λhb=>(h2 b h).1 (.inr hb))
   ·exact .inr h
theorem St.call{A:Reg}{w w':World}{F F1:List Fact}{L L1:List Mob}(h:St A w F L)(hf:Fr w w' F1 L1):∃A',St A' w' (F1++F) (L1++L):=by
 have hk:=h.keep hf.keep;obtain⟨A1,h1,h2,h3⟩:=hf.own;refine⟨λb=>A b\/A1 b,λb hb=>hb.elim (hk.lt b) (λh=>(h1 b h).2),λf hf'=>?_,?_⟩
 ·rcases List.mem_append.1 hf' with hf'|hf'
  ·exact f.step (h2 f hf') (λ_ h=> .inr h) (λ_ _=>rfl) (.refl _)
  ·exact f.step (hk.facts f hf') (λ_ h=> .inl h) (λ_ _=>rfl) (.refl _)
 ·refine Ct.append (λb=>b<w.heap.size) (λb hb=>Aj4 hb hf.keep.le) (h3.Xo ?_) ?_
  ·rintro b ((h'|h')|h')
   ·exact .inr (h.lt b h')
   ·exact .inl h'
   ·exact .inr h'
  ·refine(h.mobs.lt.step hf.keep.le λb hb _=>hf.keep.same b hb).Xo ?_;rintro b ((h'|h')|h')
   ·exact .inl h'
   ·exact .inr (h1 b h').1
   ·exact .inr (by simpa using h')
class GI (T:Type) (k:outParam IntKind)where
 toZ:T->Int
 ofZ:Int->T
 toZ_ofZ:∀n,toZ (ofZ n)=k.wrap n
def wrap64(n:Int):Int:=IntKind.i64.wrap n
theorem Ajr(n:Int):wrap64 n=if n %18446744073709551616>=9223372036854775808 then n %18446744073709551616-18446744073709551616 else n %18446744073709551616:=by
 unfold wrap64 IntKind.wrap;simp only[IntKind.bits,IntKind.signed,Azd];change (if decide (n %18446744073709551616>=9223372036854775808)=true then n %18446744073709551616-18446744073709551616 else n %18446744073709551616)=_;by_cases h:n %18446744073709551616>=9223372036854775808<;>simp[h]
theorem Bp{n:Int}(h: -9223372036854775808<=n)(h':n<=9223372036854775807):wrap64 n=n:=by
 rw[Ajr];split<;>omega
instance:GI Int .i64 where
 toZ x:=x
 ofZ n:=wrap64 n
 toZ_ofZ _:=rfl
instance:GI UInt8 .u8 where
 toZ x:=(x.toNat:Int)
 ofZ n:=UInt8.ofNat (n %256).toNat
 toZ_ofZ n:=by
  simp only[IntKind.wrap,IntKind.bits,IntKind.signed,Azs,Ao4,Axj,An9];show((n %256).toNat %256:Nat)=n %256;omega
instance:GI UInt32 .u32 where
 toZ x:=(x.toNat:Int)
 ofZ n:=UInt32.ofNat (n %4294967296).toNat
 toZ_ofZ n:=by
  simp only[IntKind.wrap,IntKind.bits,IntKind.signed,Azs,Ao4,Axj,Ajz];show((n %4294967296).toNat %4294967296:Nat)=n %4294967296;omega
instance:GI UInt64 .u64 where
 toZ x:=(x.toNat:Int)
 ofZ n:=UInt64.ofNat (n %18446744073709551616).toNat
 toZ_ofZ n:=by
  simp only[IntKind.wrap,IntKind.bits,IntKind.signed,Azs,Ao4,Axj,Ajt];show((n %18446744073709551616).toNat %18446744073709551616:Nat)=n %18446744073709551616;omega
instance:GI Int32 .i32 where
 toZ x:=x.toInt
 ofZ n:=Int32.ofInt n
 toZ_ofZ n:=by
  rw[Ayu,Int.bmod_def];simp only[IntKind.wrap,IntKind.bits,IntKind.signed,Azd];change (if n %4294967296<(4294967296+1)/2 then n %4294967296 else n %4294967296-4294967296)=if decide (n %4294967296>=2147483648)=true then n %4294967296-4294967296 else n %4294967296;by_cases h:n %4294967296>=2147483648
  ·rw[Aba (by omega),Abb (by simpa using h)]
  ·rw[Abb (by omega),Aba (by simpa using h)]
instance:GI Int8 .i8 where
 toZ x:=x.toInt
 ofZ n:=Int8.ofInt n
 toZ_ofZ n:=by
  rw[Int8.toInt_ofInt,Int.bmod_def];simp only[IntKind.wrap,IntKind.bits,IntKind.signed,Azd];change (if n %256<(256+1)/2 then n %256 else n %256-256)=if decide (n %256>=128)=true then n %256-256 else n %256;by_cases h:n %256>=128
  ·rw[Aba (by omega),Abb (by simpa using h)]
  ·rw[Abb (by omega),Aba (by simpa using h)]
section
variable {T:Type} {k:IntKind} [GI T k]
open GI
def Ae(a b:T):T:=ofZ (toZ a+toZ b)
def Ah(a b:T):T:=ofZ (toZ a-toZ b)
def Bd(a b:T):T:=ofZ (toZ a*toZ b)
def Bz(a b:T):T:=ofZ ((toZ a).tdiv (toZ b))
def AR(a b:T):T:=ofZ ((toZ a).tmod (toZ b))
def Di(a b:T):T:=ofZ (BitVec.ofInt k.bits (toZ a)&&&BitVec.ofInt k.bits (toZ b)).toNat
def sY(a b:T):T:=ofZ (BitVec.ofInt k.bits (toZ a)|||BitVec.ofInt k.bits (toZ b)).toNat
def Rk(a b:T):T:=ofZ (BitVec.ofInt k.bits (toZ a)^^^BitVec.ofInt k.bits (toZ b)).toNat
def C4(a:T):T:=ofZ (BitVec.ofInt k.bits (if k.signed then -1 else k.max)^^^BitVec.ofInt k.bits (toZ a)).toNat
def oU(a:T):T:=ofZ (0-toZ a)
def Cw(a:T)(n:Nat):T:=ofZ (toZ a*2^(min n k.bits))
def Bt(a:T)(n:Nat):T:=ofZ ((toZ a).fdiv (2^(min n k.bits)))
def geq(a b:T):Bool:=toZ a==toZ b
def Bm(a b:T):Bool:=toZ a !=toZ b
def Cc(a b:T):Bool:=decide (toZ a<toZ b)
def yj(a b:T):Bool:=decide (toZ a<=toZ b)
def Eu(a b:T):Bool:=decide (toZ a>toZ b)
def Ll(a b:T):Bool:=decide (toZ a>=toZ b)
def Akl:List T->List T->Bool
 |x::a,y::b=>geq x y&&Akl a b
 |_,_=>true
def Du(a b:T):T:=if toZ b<toZ a then b else a
def lC(a b:T):T:=if toZ b>toZ a then b else a
def Ad{T':Type}{k':IntKind} [GI T' k'](a:T):T':=ofZ (toZ a)
end
def Gc(a b:Int):Int:=a.tmod b
def Y4(a:Int)(n:Nat):Int:=a.fdiv (2^(min n 64))
def Aj{α:Type}(l:List α)(i:Int):Option α:=if 0<=i then l[i.toNat]? else none
def Je{α:Type}(l:List α)(i:Int)(x:α):Option (List α):=if 0<=i/\i<l.length then some (l.set i.toNat x)else none
def Bw{α:Type}(l:List α)(lo hi:Int):Option (List α):=if 0<=lo/\lo<=hi/\hi<=l.length then some ((l.take hi.toNat).drop lo.toNat)else none
def ko:Nat:=2^34
def Db{α:Type}(l m:List α):Option (List α):=if l.length+m.length<=ko then some (l++m)else none
def mkI{α:Type}(n:Int)(z:α):Option (List α):=if 0<=n/\n<=ko then some (List.replicate n.toNat z)else none
def Ik(b:Bool):Option Unit:=if b=true then some ()else none
def Ac{α:Type}(l:List α):Int:=(l.length:Int)
def SL{α:Type}(l:List α)(lo n:Int):List α:=(l.drop lo.toNat).take n.toNat
def cG(m a b:Int):Option Unit:=Ik (decide (0<=a/\a<=b/\b<=m))
def G8{α:Type}(l m:List α):List α:=m.take l.length++l.drop m.length
def Sr{α:Type}(l:List α)(lo n:Int)(m:List α):List α:=l.take lo.toNat++(m.take n.toNat++l.drop (lo.toNat+(m.take n.toNat).length))
def RA(n:Int)(m:Nat):Int:=if(m:Int)<n then(m:Int)else n
def Ar:Nat:=2^65
end Go.Lv
namespace Go.Lv
section
variable {T:Type} {k:IntKind} [GI T k]
@[reducible] def iv (x:T):Value:= .int k (GI.toZ x)
@[reducible] def sv (l:List UInt8):Value:= .string ⟨l.toArray⟩
variable {P:Program}
def Jq(P:Program)(b:BinOp)(t:TypeId)(x y v:Value):Prop:=
 ∀(ox oy:Operand) (w:World),(do eqGuard b t ox oy x y;binOp b t x y:Sem Value).run P w= .ok v w
theorem Pb(n:Int):(.int k (k.wrap n):Value)=iv (GI.ofZ n:T):=by rw[iv,GI.toZ_ofZ]
theorem Bin.add{t:TypeId}(a b:T):Jq P .add t (iv a) (iv b) (iv (Ae a b)):=λ_ _ w=>by
 simp[eqGuard,binOp,Op.intArith,Ae,<-Pb]
theorem Bin.sub{t:TypeId}(a b:T):Jq P .sub t (iv a) (iv b) (iv (Ah a b)):=λ_ _ w=>by
 simp[eqGuard,binOp,Op.intArith,Ah,<-Pb]
theorem Bin.mul{t:TypeId}(a b:T):Jq P .mul t (iv a) (iv b) (iv (Bd a b)):=λ_ _ w=>by
 simp[eqGuard,binOp,Op.intArith,Bd,<-Pb]
theorem Bin.quo{t:TypeId}(a b:T)(h:GI.toZ b≠0):Jq P .quo t (iv a) (iv b) (iv (Bz a b)):=λ_ _ w=>by
 simp[eqGuard,binOp,Op.intDiv,Bz,<-Pb,h]
theorem Bin.and{t:TypeId}(a b:T):Jq P .and t (iv a) (iv b) (iv (Di a b)):=λ_ _ w=>by
 simp[eqGuard,binOp,Op.intBits,Di,<-Pb]
theorem Bin.or{t:TypeId}(a b:T):Jq P .or t (iv a) (iv b) (iv (sY a b)):=λ_ _ w=>by
 simp[eqGuard,binOp,Op.intBits,sY,<-Pb]
theorem Bin.xor{t:TypeId}(a b:T):Jq P .xor t (iv a) (iv b) (iv (Rk a b)):=λ_ _ w=>by
 simp[eqGuard,binOp,Op.intBits,Rk,<-Pb]
theorem Bin.eql{t:TypeId}(a b:T):Jq P .eql t (iv a) (iv b) (.bool (geq a b)):=λ_ _ w=>by
 simp[eqGuard,binOp,Op.intCmp,geq]
theorem Bin.neq{t:TypeId}(a b:T):Jq P .neq t (iv a) (iv b) (.bool (Bm a b)):=λ_ _ w=>by
 simp[eqGuard,binOp,Op.intCmp,Bm]
theorem Bin.lss{t:TypeId}(a b:T):Jq P .lss t (iv a) (iv b) (.bool (Cc a b)):=λ_ _ w=>by
 simp[eqGuard,binOp,Op.intCmp,Cc]
theorem Bin.leq{t:TypeId}(a b:T):Jq P .leq t (iv a) (iv b) (.bool (yj a b)):=λ_ _ w=>by
 simp[eqGuard,binOp,Op.intCmp,yj]
theorem Bin.gtr{t:TypeId}(a b:T):Jq P .gtr t (iv a) (iv b) (.bool (Eu a b)):=λ_ _ w=>by
 simp[eqGuard,binOp,Op.intCmp,Eu]
theorem Bin.geq{t:TypeId}(a b:T):Jq P .geq t (iv a) (iv b) (.bool (Ll a b)):=λ_ _ w=>by
 simp[eqGuard,binOp,Op.intCmp,Ll]
variable {T':Type} {k':IntKind} [GI T' k']
theorem Bin.shl{t:TypeId}(a:T)(b:T')(h:0<=GI.toZ b):Jq P .shl t (iv a) (iv b) (iv (Cw a (GI.toZ b).toNat)):=λ_ _ w=>by
 have:¬GI.toZ b<0:=by omega
 simp[eqGuard,binOp,Op.shift,Cw,<-Pb,this]
theorem Bin.shr{t:TypeId}(a:T)(b:T')(h:0<=GI.toZ b)(hr:k.wrap ((GI.toZ a).fdiv (2^(min (GI.toZ b).toNat k.bits)))=(GI.toZ a).fdiv (2^(min (GI.toZ b).toNat k.bits))):
  Jq P .shr t (iv a) (iv b) (iv (Bt a (GI.toZ b).toNat)):=λ_ _ w=>by
 have:¬GI.toZ b<0:=by omega
 simp[eqGuard,binOp,Op.shift,Bt,<-Pb,this,hr]
theorem run_equalIn_bool{t:TypeId}(hu:P.underlying t=some .bool)(d:Nat)(a b:Bool)(w:World):(Op.equalIn (d+1) t (.bool a) (.bool b)).run P w= .ok (a==b) w:=by
 simp[Op.equalIn,Afc hu]
theorem Bin.Amp{t:TypeId}(hu:P.underlying t=some .bool)(a b:Bool):Jq P .eql t (.bool a) (.bool b) (.bool (a==b)):=λ_ _ w=>by
 have h:=run_equalIn_bool hu 9999 a b w;simp only[eqGuard,binOp,Op.equal,Op.maxDepth];simp[h]
theorem Bin.Anm{t:TypeId}(hu:P.underlying t=some .bool)(a b:Bool):Jq P .neq t (.bool a) (.bool b) (.bool (a !=b)):=λ_ _ w=>by
 have h:=run_equalIn_bool hu 9999 a b w;simp only[eqGuard,binOp,Op.equal,Op.maxDepth];simp[h,bne]
theorem jP(a:List UInt8):(⟨a.toArray⟩:ByteArray).toList=a:=by rw[ByteArray.toList_eq]
theorem Bin.Arm{t:TypeId}(a b:List UInt8):Jq P .eql t (sv a) (sv b) (.bool (a==b)):=λ_ _ w=>by
 simp[eqGuard,binOp,Op.stringOp,jP]
theorem Bin.Aqw{t:TypeId}(a b:List UInt8):Jq P .neq t (sv a) (sv b) (.bool (a !=b)):=λ_ _ w=>by
 simp[eqGuard,binOp,Op.stringOp,bne,jP]
theorem Ai4(a b:List UInt8):(⟨a.toArray⟩:ByteArray)++⟨b.toArray⟩=⟨(a++b).toArray⟩:=by
 simp[ByteArray.ext_iff]
theorem Bin.Ap4{t:TypeId}(a b:List UInt8)(h:(a.length:Int)+b.length<=9223372036854775807):Jq P .add t (sv a) (sv b) (sv (a++b)):=λ_ _ w=>by
 have h1:¬(9223372036854775807<(a.length:Int)+b.length):=by omega
 have h2:∀l:List UInt8,(⟨l.toArray⟩:ByteArray).size=l.length:=λl=>by simp[ByteArray.size]
 simp only[eqGuard,binOp,Op.stringOp];simp[h2,h1,Ai4]
end
variable {P:Program} {n:Nat} {ops:Array Oper} {rest:List Oper} {K:Env->World->Prop} {σ:Env} {w:World}
variable {d:Nat} {ty:TypeId} {pos:String} {after:Array Edge}
def XO(P:Program)(σ:Env)(w:World)(op:Op)(v:Value):Prop:=
 ∀(d:Option Tmp) (ty:TypeId) (pos:String) (after:Array Edge) (g:Option (Nat×Bool)),(execOp (ev σ) ⟨d,op,ty,pos,after,g⟩).run P w= .ok (.value v) w
theorem WL.x{op:Op}{v:Value}(hd:Nat.blt d n=true)(hx:XO P σ w op v)(h:WL P n ops rest K (Ub σ d v) w):WL P n ops (⟨some d,op,ty,pos,after,none⟩::rest) K σ w:=
 .val rfl rfl hd (hx _ _ _ _ _) h
def gv(b want:Bool)(v:Value):Value:=if b==want then v else undef
theorem xZ{b want:Bool}{v:Value}(h:(b==want)=true):gv b want v=v:=by unfold gv;rw[Abb h]
theorem WL.gx{op:Op}{v:Value}{j t:Nat}{want b:Bool}(hj:(ops[j]?).bind (·.dst)=some t)(hb:σ t= .bool b)(hd:Nat.blt d n=true)
  (hx:(b==want)=true->XO P σ w op v) (h:WL P n ops rest K (Ub σ d (gv b want v)) w):
  WL P n ops (⟨some d,op,ty,pos,after,some (j,want)⟩::rest) K σ w:=by
 by_cases hbw:(b==want)=true
 ·refine WL.on rfl hj hb hbw (WL.val rfl rfl hd (hx hbw _ _ _ _ _) ?_);rw[xZ hbw]at h;exact h
 ·have hbw':(b==want)=false:=by simpa using hbw
  refine WL.off rfl hj hb hbw' rfl hd ?_;have:gv b want v=undef:=by unfold gv;rw[hbw'];simp
  rw[this]at h;exact h
section
variable {x y c:Operand}
theorem X.move{v:Value}(hx:ev σ x=v):XO P σ w (.move x) v:=λ_ _ _ _ _=>by simp[execOp,hx]
theorem X.assign{v:Value}(hx:ev σ x=v):XO P σ w (.assign x) v:=λ_ _ _ _ _=>by simp[execOp,hx]
theorem X.bin{b:BinOp}{t t':TypeId}{vx vy v:Value}(hx:ev σ x=vx)(hy:ev σ y=vy)(hr:Jq P b t vx vy v):XO P σ w (.binOp b t x y t') v:=λ_ _ _ _ _=>by
 have:=hr x y w;simp only[execOp,hx,hy,Aj3,this,Ab3];simp
theorem X.not{t:TypeId}{b:Bool}(hx:ev σ x= .bool b):XO P σ w (.unOp .not t x) (.bool (!b)):=λ_ _ _ _ _=>by simp[execOp,hx,Op.unary]
theorem X.neg{T:Type}{k:IntKind} [GI T k]{t:TypeId}{a:T}(hx:ev σ x=iv a):XO P σ w (.unOp .neg t x) (iv (oU a)):=λ_ _ _ _ _=>by
 simp[execOp,hx,Op.unary,Op.intArith,oU,<-Pb]
theorem X.Av2{T:Type}{k:IntKind} [GI T k]{t:TypeId}{a:T}(hx:ev σ x=iv a):XO P σ w (.unOp .xor t x) (iv (C4 a)):=λ_ _ _ _ _=>by
 simp[execOp,hx,Op.unary,Op.intBits,C4,<-Pb]
theorem X.pick{b:Bool}{vx vy v:Value}(hc:ev σ c= .bool b)(hx:ev σ x=vx)(hy:ev σ y=vy)(hv:(if b then vx else vy)=v):XO P σ w (.pick c x y) v:=λ_ _ _ _ _=>by
 simp[execOp,hc,hx,hy,asBool];cases b<;>simp at hv<;>simp[hv]
theorem X.extract{i:Nat}{vs:List Value}{v:Value}(hx:ev σ x= .tuple vs.toArray)(hi:vs[i]? =some v):XO P σ w (.extract x i) v:=λ_ _ _ _ _=>by
 simp[execOp,hx,Instr.extract,hi]
theorem X.conv{T T':Type}{k k':IntKind} [GI T k] [GI T' k']{s t:TypeId}{a:T}{u:TypeDesc}(hs:P.underlying s=some u)(ht:P.underlying t=some (.int k'))
  (hx:ev σ x=iv a):XO P σ w (.convert s t x) (iv (Ad a:T')):=λ_ _ _ _ _=>by
 simp[execOp,hx,convert,Afc hs,Afc ht,Conv.intToInt,Ad,<-Pb]
theorem X.sH{t e:TypeId}{p:Option Addr}{len cap:Nat}(ht:P.underlying t=some (.slice e))(hx:ev σ x= .slice p len cap):
  XO P σ w (.call ⟨.builtin .len, #[x], #[t]⟩) (iv (len:Int)):=λ_ _ _ _ _=>by
 simp[execOp,resolve,invoke,builtin,Builtin.len_,hx,Afc ht,goInt,iv,GI.toZ]
theorem X.Are{t:TypeId}{l:List UInt8}(ht:P.underlying t=some .string)(hx:ev σ x=sv l):XO P σ w (.call ⟨.builtin .len, #[x], #[t]⟩) (iv (Ac l)):=λ_ _ _ _ _=>by
 have h2:(⟨l.toArray⟩:ByteArray).size=l.length:=by simp[ByteArray.size]
 simp[execOp,resolve,invoke,builtin,Builtin.len_,hx,Afc ht,goInt,iv,GI.toZ,Ac,h2]
theorem X.Aqi{t e:TypeId}{m:Nat}{v:Value}(ht:P.underlying t=some (.array m e))(hx:ev σ x=v):XO P σ w (.call ⟨.builtin .len, #[x], #[t]⟩) (iv (m:Int)):=λ_ _ _ _ _=>by
 simp[execOp,resolve,invoke,builtin,Builtin.len_,hx,Afc ht,goInt,iv,GI.toZ]
theorem X.min{T:Type}{k:IntKind} [GI T k]{ts:Array TypeId}{a b:T}(hx:ev σ x=iv a)(hy:ev σ y=iv b):XO P σ w (.call ⟨.builtin .min, #[x,y],ts⟩) (iv (Du a b)):=λ_ _ _ _ _=>by
 simp[execOp,resolve,invoke,builtin,Builtin.min_,Builtin.min2,hx,hy,Du];split<;>rfl
theorem X.max{T:Type}{k:IntKind} [GI T k]{ts:Array TypeId}{a b:T}(hx:ev σ x=iv a)(hy:ev σ y=iv b):XO P σ w (.call ⟨.builtin .max, #[x,y],ts⟩) (iv (lC a b)):=λ_ _ _ _ _=>by
 simp[execOp,resolve,invoke,builtin,Builtin.max_,Builtin.max2,hx,hy,lC];split<;>rfl
theorem X.makeFunc{f:FuncId}{cap:List Operand}{vs:List Value}(hc:cap.map (ev σ)=vs):XO P σ w (.makeFunc (.func f) #[] cap.toArray) (.func (.func f) #[] vs.toArray):=λ_ _ _ _ _=>by
 simp[execOp,Instr.makeFunc,hc]
theorem X.nilCheck{a:Addr}(hx:ev σ x= .pointer (some a)):XO P σ w (.nilCheck x) (.pointer (some a)):=λ_ _ _ _ _=>by simp[execOp,hx]
end
def Ent(P:Program)(f:FuncId):Prop:=∀(args:Array Value) (w:World),(callFunc f args).run P w= .ok (.enter f args) w
theorem Ent.mk{f:FuncId}{fn:Func}{c:Code}(hf:P.funcs[f]? =some fn)(hn:(fn.name== "runtime.NumGoroutine")=false)(hb:fn.body=some c):Ent P f:=fun args w=>by
 have hn':¬fn.name= "runtime.NumGoroutine":=by simpa using hn
 unfold callFunc
 show Sem.run P (Sem.bind (Sem.program Sem.pure) _) w=_;simp only[Sem.bind,Sem.run,hf];simp[hn',hb]
def XE(P:Program)(σ:Env)(w:World)(op:Op)(f:FuncId)(vs:Array Value):Prop:=
 ∀(d:Option Tmp) (ty:TypeId) (pos:String) (after:Array Edge) (g:Option (Nat×Bool)),(execOp (ev σ) ⟨d,op,ty,pos,after,g⟩).run P w= .ok (.enter f vs) w
theorem X.call{f:FuncId}{args:List Operand}{ts:Array TypeId}{vs:List Value}(he:Ent P f)(ha:args.map (ev σ)=vs):XE P σ w (.call ⟨.value (.func f),args.toArray,ts⟩) f vs.toArray:=λ_ _ _ _ _=>by
 have:=he vs.toArray w;simp[execOp,resolve,ev,Deferred.ofValue,invoke,ha,this]
theorem X.Avx{f:FuncId}{g:Operand}{args:List Operand}{ts:Array TypeId}{vs cs:List Value}(he:Ent P f)(hg:ev σ g= .func (.func f) #[] cs.toArray) (ha:args.map (ev σ)=vs):
  XE P σ w (.call ⟨.value g,args.toArray,ts⟩) f (vs++cs).toArray:=λ_ _ _ _ _=>by
 have:=he (vs++cs).toArray w;simp[execOp,resolve,hg,Deferred.ofValue,invoke,ha,this]
theorem WL.e{op:Op}{f:FuncId}{vs:Array Value}{R1:Ending->World->Prop}(hd:Nat.blt d n=true)(hx:XE P σ w op f vs)(hc:Calls P f vs w R1)
  (hr:∀e w',R1 e w'->∃r,e= .returned r/\WL P n ops rest K (Ub σ d r) w'):WL P n ops (⟨some d,op,ty,pos,after,none⟩::rest) K σ w:=
 .enter rfl rfl hd (hx _ _ _ _ _) hc hr
end Go.Lv
namespace Go.Lv
variable {P:Program} {n:Nat} {ops:Array Oper} {rest:List Oper} {K:Env->World->Prop} {σ:Env} {w:World}
variable {d:Nat} {ty:TypeId} {pos:String} {after:Array Edge} {A:Reg} {F:List Fact} {L:List Mob}
def Aio:TypeDesc->Bool
 | .struct _| .array _ _=>true
 |_=>false
def Plain(P:Program)(t:TypeId):Prop:=∃u,P.underlying t=some u/\Aio u=false
def As6(P:Program)(t:TypeId):Prop:=∃u,P.underlying t=some u/\Aio u=true
def Ic(P:Program)(t:TypeId)(s:Nat):Prop:=∃i,P.info? t=some i/\i.size=s
theorem Ev{t:TypeId}{u:TypeDesc}{b:Bool}(h:P.underlying t=some u)(hb:Aio u=b)(w:World):(isAgg t).run P w= .ok b w:=by
 unfold isAgg;rw[Aj3,Afc h,Ab3];subst hb;cases u<;>rfl
theorem Bk{t:TypeId}{s:Nat}(h:Ic P t s)(w:World):(sizeOf t).run P w= .ok s w:=by
 obtain⟨i,hi,rfl⟩:=h;simp[sizeOf,typeInfo,hi]
theorem cell_of{b off:Nat}{arr:Array Value}{T:TypeId}{fr:Nat×Nat}(h:w.heap[b]? =some (.cells arr T fr)):w.cell? ⟨b,off,none⟩=arr[off]? :=by
 simp[World.cell?,h]
theorem HU{b off:Nat}{v:Value}(h:w.cell? ⟨b,off,none⟩=some v):(load ⟨b,off,none⟩).run P w= .ok v w:=by
 simp[load,Sem.run,h]
theorem Mm(b off k:Nat):(⟨b,off,none⟩:Addr).add k=⟨b,off+k,none⟩:=by
 unfold Addr.add;split<;>simp_all
theorem Lh{b off:Nat}(cs:List Value)(h:∀i,i<cs.length->w.cell? ⟨b,off+i,none⟩=cs[i]?):(loadCells ⟨b,off,none⟩ cs.length).run P w= .ok cs.toArray w:=
 run_loadCells_list (P:=P) (w:=w) ⟨b,off,none⟩ cs (λj v hj=>by
  have hlt:j<cs.length:=(List.getElem?_eq_some_iff.1 hj).1;rw[Mm,h j hlt,hj])
theorem Ct.mem{A:Reg}:∀{L:List Mob} {A:Reg} {m:Mob} {i:Nat},Ct w A L->L[i]? =some m->∃o,m.holds o w
 |[],_,_,_,_,h=>by simp at h
 |_::_,_,_,0,⟨o,h1,_,_⟩,h=>⟨o,by simp at h;exact h▸h1⟩
 |_::_,_,_,_+1,⟨_,_,_,h3⟩,h=>Ct.mem (A:=A) h3 (by simpa using h)
theorem St.box(hs:St A w F L){i b:Nat}{cells:List Value}{T:TypeId}(hL:L[i]? =some (.box b cells T)):w.heap[b]? =some (.cells cells.toArray T (0,0)):=by
 obtain⟨o,h1,h2⟩:=Ct.mem (A:=A) hs.mobs hL;exact h2
def Ft(w:World)(b:Nat)(o:Obj):World:={w with heap:=w.heap.setIfInBounds b o}
theorem St.Al7(hs:St A w F L){i b:Nat}{cells cells':List Value}{T:TypeId}(hL:L[i]? =some (.box b cells T)):
  St A (Ft w b (.cells cells'.toArray T (0,0))) F (L.set i (.box b cells' T)):=by
 have hb:=lt_of_heap (hs.box hL);have h1:=hs.front hL;refine St.back hL ?_;obtain⟨o,⟨rfl,_⟩,h3,h4⟩:=h1.mobs;have hsz:(Ft w b (.cells cells'.toArray T (0,0))).heap.size=w.heap.size:=by simp[Ft]
 have hne:∀c,c≠b-> (Ft w b (.cells cells'.toArray T (0,0))).heap[c]? =w.heap[c]? :=λc hc=>by
  simp[Ft,Array.getElem?_setIfInBounds_ne (Az4 hc)]
 have hnA:=(h3 b rfl).1;refine⟨λc hc=>by rw[hsz];exact hs.lt c hc,λf hf=>f.step (hs.facts f hf) (λ_ h=>h) (λc hc=>hne c (λe=>hnA (e▸hc))) ⟨by rw[hsz];exact Aj0 _,rfl,rfl,rfl⟩,some b,⟨rfl,?_⟩,λc hc=>⟨(h3 c hc).1,by rw[hsz];exact(h3 c hc).2⟩,?_⟩
 ·simp[Ft,hb]
 ·refine h4.step (by rw[hsz];exact Aj0 _) (λc _ hc=>hne c (λe=>hc (.inr (by rw[e]))))
def Kc(w:World)(o:Obj):World:={w with heap:=w.heap.push o}
theorem uM(w:World)(o:Obj):(Kc w o).heap.size=w.heap.size+1:=by simp only[Kc,Array.size_push]
theorem Ady{w:World}{o:Obj}{b:Nat}(hb:b<w.heap.size):(Kc w o).heap[b]? =w.heap[b]? :=by
 simp only[Kc];rw[Array.getElem?_push_lt hb,Array.getElem?_eq_getElem hb]
theorem GZ(w:World)(o:Obj):(Kc w o).heap[w.heap.size]? =some o:=by
 simp only[Kc,Array.getElem?_push_size]
theorem ou(w:World)(o:Obj):Keep w (Kc w o):=⟨λb hb=>Ady hb,by rw[uM];omega,rfl,rfl,rfl⟩
theorem St.D8(hs:St A w F L)(o:Obj)(m:Mob)(hm:m.holds (some w.heap.size) (Kc w o)):St A (Kc w o) F (m::L):=by
 have hk:=ou w o;have h1:=hs.keep hk;refine⟨h1.lt,h1.facts,some w.heap.size,hm,λb hb=>⟨λh=>?_,?_⟩,?_⟩
 ·cases hb;exact Nat.lt_irrefl _ (hs.lt _ h)
 ·cases hb;rw[uM];omega
 ·refine(hs.mobs.lt.step hk.le λb hb _=>hk.same b hb).Xo ?_;rintro b (h|h)
  ·exact .inl h
  ·cases h;exact .inr (Aj0 _)
theorem St.Akb(hs:St A w F L)(cells:List Value)(T:TypeId):St A (Kc w (.cells cells.toArray T)) F (.box w.heap.size cells T::L):=
 hs.D8 _ _ ⟨rfl,GZ _ _⟩
theorem X.Ala{x:Operand}{t T:TypeId}{i b off:Nat}{cells:List Value}{v:Value}(hs:St A w F L)(hL:L[i]? =some (.box b cells T))(ht:Plain P t)
  (hx:ev σ x= .pointer (some ⟨b,off,none⟩)) (hv:cells[off]? =some v):XO P σ w (.load t x) v:=λ_ _ _ _ _=>by
 obtain⟨u,hu,hp⟩:=ht;have hc:w.cell? ⟨b,off,none⟩=some v:=by rw[cell_of (hs.box hL)];simpa using hv
 simp only[execOp,hx,Instr.loadAt,Instr.sureAddr,Aj3,Aph,Ab3,loadVar,Ev hu hp,Ao4,Axj,HU hc]
theorem X.Air{x:Operand}{t T:TypeId}{i b off s:Nat}{cells vs:List Value}(hs:St A w F L)(hL:L[i]? =some (.box b cells T))(ht:As6 P t)(hsz:Ic P t s)
  (hx:ev σ x= .pointer (some ⟨b,off,none⟩)) (hv:(cells.drop off).take s=vs) (hl:vs.length=s):XO P σ w (.load t x) (.agg vs.toArray):=λ_ _ _ _ _=>by
 obtain⟨u,hu,hp⟩:=ht;have hc:=Lh (P:=P) (w:=w) (b:=b) (off:=off) vs (λj hj=>by
  rw[cell_of (hs.box hL)];subst hv;rw[Afw]at hj;simp[List.getElem?_take,List.getElem?_drop];omega)
 rw[hl]at hc;simp only[execOp,hx,Instr.loadAt,Instr.sureAddr,Aj3,Aph,Ab3,loadVar,Ev hu hp,Az3,Bk hsz,hc]
def Bb(cells:List Value)(off:Nat)(vs:List Value):List Value:=cells.take off++(vs++cells.drop (off+vs.length))
theorem Fo{cells:List Value}{off:Nat}{vs:List Value}(h:off+vs.length<=cells.length):(Bb cells off vs).length=cells.length:=by
 simp[Bb];omega
theorem uP{cells:List Value}{off:Nat}{v:Value}{vs:List Value}(h:off+(v::vs).length<=cells.length):
  Bb (cells.set off v) (off+1) vs=Bb cells off (v::vs):=by
 simp at h;have e1:(cells.set off v).take (off+1)=cells.take off++[v]:=by
  rw[List.take_succ_eq_append_getElem (by simp;omega)];have e0:(cells.set off v).take off=cells.take off:=by
   apply List.ext_getElem?;intro i;rw[List.getElem?_take,List.getElem?_take];by_cases hi:i<off
   ·rw[Abb hi,Abb hi,List.getElem?_set_ne (by omega)]
   ·rw[Aba hi,Aba hi]
  rw[e0];simp
 have e2:(cells.set off v).drop (off+1+vs.length)=cells.drop (off+(v::vs).length):=by
  rw[List.drop_set_of_lt (by omega)];simp[Ay9,Nat.add_left_comm]
 simp only[Bb,e1,e2,Adn,Axs,Avj]
theorem Gs(b:Nat)(T:TypeId)(fr:Nat×Nat):∀(vs:List Value) (off:Nat) (i:Nat) (cells:List Value) (w:World),w.heap[b]? =some (.cells cells.toArray T fr)->
  off+i+vs.length<=cells.length-> (fr.2<=off+i\/cells.length<=fr.1\/fr.2<=fr.1)-> (∀v∈vs,v.oneCell'=true)->
  (storeCells ⟨b,off,none⟩ vs i).run P w= .ok () (Ft w b (.cells (Bb cells (off+i) vs).toArray T fr))
 |[],off,i,cells,w,h,hl,hf,h1=>by
  have hb:=lt_of_heap h;have:Ft w b (.cells (Bb cells (off+i) []).toArray T fr)=w:=by
   have e:Bb cells (off+i) []=cells:=by simp[Bb]
   rw[e];cases w with
   |mk heap tape drawn os output=>
    simp only[Ft,World.mk.injEq,and_true,true_and];apply Array.ext_getElem?;intro j;by_cases hj:j=b
    ·subst hj;simp at hb h⊢;rw[Array.getElem?_setIfInBounds_self_of_lt hb];exact h.symm
    ·simp[Array.getElem?_setIfInBounds_ne (Az4 hj)]
  rw[this];rfl
 |v::vs,off,i,cells,w,h,hl,hf,h1=>by
  have hb:=lt_of_heap h;have hlt:off+i<cells.length:=by simp at hl;omega
  unfold storeCells;rw[Aj3,run_store P w _ v _ (h1 v (.head _)),Mm];have hc:w.cell? ⟨b,off+i,none⟩=some cells[off+i]:=by rw[cell_of h];simp[hlt]
  have hfz:w.frozen? ⟨b,off+i,none⟩=false:=by
   simp only[World.frozen?,h];simp;omega
  rw[hc];simp only[hfz,Ao4,Axj,Ab3];have hw:w.setCell ⟨b,off+i,none⟩ v=Ft w b (.cells (cells.set (off+i) v).toArray T fr):=by
   simp only[World.setCell,Ft,World.mk.injEq,and_true,true_and];apply Array.ext_getElem?;intro j;rw[Array.getElem?_modify];by_cases hj:j=b
   ·subst hj;simp only[Az3,h];rw[Array.getElem?_setIfInBounds_self_of_lt hb];simp
   ·rw[Aba (Az4 hj),Array.getElem?_setIfInBounds_ne (Az4 hj)]
  rw[hw];have hr:=Gs b T fr vs off (i+1) (cells.set (off+i) v) (Ft w b (.cells (cells.set (off+i) v).toArray T fr)) (by simp[Ft,hb])
   (by simp at hl⊢;omega) (by simp;omega) (λu hu=>h1 u (.tail _ hu))
  rw[hr];have hsp:Bb (cells.set (off+i) v) (off+(i+1)) vs=Bb cells (off+i) (v::vs):=by
   rw[<-Auz];exact uP (by simpa using hl)
  rw[hsp];congr 1;simp[Ft]
theorem WL.Ahs{a x:Operand}{t T:TypeId}{i b off s:Nat}{cells cells' vs:List Value}{v:Value}{L':List Mob}(hs:St A w F L)(hL:L[i]? =some (.box b cells T))(hsz:Ic P t s)
  (ha:ev σ a= .pointer (some ⟨b,off,none⟩)) (hx:ev σ x=v) (hv:v.cells=vs.toArray) (hl:vs.length=s) (h1:vs.all (·.oneCell')=true) (hle:Nat.ble (off+s) cells.length=true)
  (hc:Bb cells off vs=cells') (hL':L.set i (.box b cells' T)=L') (h:∀w',St A w' F L'->WL P n ops rest K σ w'):
  WL P n ops (⟨none, .store t a x,ty,pos,after,none⟩::rest) K σ w:=by
 have hle':off+s<=cells.length:=by simpa using hle
 have hr:=Gs (P:=P) b T (0,0) vs off 0 cells w (hs.box hL) (by omega) (.inr (.inr (Aj0 _))) (λv hv=>by simpa using List.all_eq_true.1 h1 v hv);simp only[Aw6,hc]at hr;refine .unit rfl rfl (w':=Ft w b (.cells cells'.toArray T (0,0))) ?_ (h _ (hL'▸hs.Al7 hL));simp[execOp,ha,hx,Instr.storeAt,Instr.sureAddr,storeVar,Bk hsz,hv,hl,hr]
theorem wV(e:TypeId)(v:Value)(cells:List Value)(hv:v.cells=cells.toArray):(newVar e v).run P w= .ok ⟨w.heap.size,0,none⟩ (Kc w (.cells cells.toArray e)):=by
 unfold newVar;rw[hv];rfl
theorem WL.box{x:Operand}{e:TypeId}{v:Value}{cells:List Value}(hs:St A w F L)(hd:Nat.blt d n=true)(hx:ev σ x=v)(hv:v.cells=cells.toArray)
  (h:∀b w',St A w' F (.box b cells e::L)->WL P n ops rest K (Ub σ d (.pointer (some ⟨b,0,none⟩))) w'):
  WL P n ops (⟨some d, .box e x,ty,pos,after,none⟩::rest) K σ w:=by
 refine .val rfl rfl hd (w':=Kc w (.cells cells.toArray e)) (v:= .pointer (some ⟨w.heap.size,0,none⟩)) ?_ (h _ _ (hs.Akb cells e));simp only[execOp,hx,Instr.box,Aj3,wV e v cells hv,Ab3,Aph]
theorem WL.alloc{e:TypeId}{z:Value}{cells:List Value}(hs:St A w F L)(hd:Nat.blt d n=true)(hz:∃i,P.info? e=some i/\i.zero=some z)(hv:z.cells=cells.toArray)
  (h:∀b w',St A w' F (.box b cells e::L)->WL P n ops rest K (Ub σ d (.pointer (some ⟨b,0,none⟩))) w'):
  WL P n ops (⟨some d, .alloc e,ty,pos,after,none⟩::rest) K σ w:=by
 obtain⟨i,hi,hz⟩:=hz;have hz':(zeroValue e).run P w= .ok z w:=by simp[zeroValue,typeInfo,hi,hz]
 refine .val rfl rfl hd (w':=Kc w (.cells cells.toArray e)) (v:= .pointer (some ⟨w.heap.size,0,none⟩)) ?_ (h _ _ (hs.Akb cells e));simp only[execOp,Instr.alloc,Aj3,hz',wV e z cells hv,Ab3,Aph]
end Go.Lv
namespace Go.Lv
variable {P:Program} {n:Nat} {ops:Array Oper} {rest:List Oper} {K:Env->World->Prop} {σ:Env} {w:World}
variable {d:Nat} {ty:TypeId} {pos:String} {after:Array Edge} {A:Reg} {F:List Fact} {L:List Mob}
def kI(P:Program)(t:TypeId)(f k:Nat):Prop:=∃fs fd i,P.underlying t=some (.struct fs)/\fs[f]? =some fd/\fd.offset=k/\P.info? fd.type=some i/\i.size≠0
theorem zo{t:TypeId}{f k b off:Nat}(h:kI P t f k):(Instr.fieldAt t (.pointer (some ⟨b,off,none⟩)) f).run P w= .ok (.pointer (some ⟨b,off+k,none⟩)) w:=by
 obtain⟨fs,fd,i,h1,h2,h3,h4,h5⟩:=h;have h6:=Bk (P:=P) ⟨i,h4,rfl⟩ w;simp only[Instr.fieldAt,Aj3,Afc h1,Ab3,h2,Instr.sureAddr,Aph,fieldPlace,h6,h5,Axj,Mm,h3]
theorem X.fieldAddr{t:TypeId}{x:Operand}{f k b off off':Nat}(hf:kI P t f k)(hx:ev σ x= .pointer (some ⟨b,off,none⟩))(ho:off+k=off'):
  XO P σ w (.fieldAddr t x f) (.pointer (some ⟨b,off',none⟩)):=λ_ _ _ _ _=>by
 simp only[execOp,hx,Aj3,zo hf,Ab3,Aph,ho]
theorem X.field{t u:TypeId}{x:Operand}{f k s:Nat}{cells:List Value}{v:Value}(hf:∃fs fd,P.underlying t=some (.struct fs)/\fs[f]? =some fd/\fd.offset=k/\fd.type=u)
  (hu:(Plain P u/\cells[k]? =some v)\/ (As6 P u/\Ic P u s/\ .agg ((cells.drop k).take s).toArray=v)) (hx:ev σ x= .agg cells.toArray):XO P σ w (.field t x f) v:=λ_ _ _ _ _=>by
 obtain⟨fs,fd,h1,h2,rfl,rfl⟩:=hf;rcases hu with⟨⟨u,hu,hp⟩,hv⟩|⟨⟨u,hu,hp⟩,hsz,hv⟩
 ·simp only[execOp,hx,Instr.field,Aj3,Afc h1,Ab3,h2,asAgg,Aph,part,Ev hu hp,Ao4,Axj];simp[hv]
 ·simp only[execOp,hx,Instr.field,Aj3,Afc h1,Ab3,h2,asAgg,Aph,part,Ev hu hp,Az3,Bk hsz];rw[<-hv];simp[List.extract_eq_take_drop]
def Fact.ptr(R:Reg)(pv:Value)(cs:List Value):Fact where
 holds A w:=∃b off arr T fr,pv= .pointer (some ⟨b,off,none⟩)/\ (A b/\R b)/\w.heap[b]? =some (.cells arr T fr)/\∀i,i<cs.length->arr[off+i]? =cs[i]?
 step:=by
  rintro A A' w w' ⟨b,off,arr,T,fr,h1,⟨h2,h3⟩,h4,h5⟩ ha hs _;exact⟨b,off,arr,T,fr,h1,⟨ha _ h2,h3⟩,(hs _ h2).trans h4,h5⟩
theorem O5{t e:TypeId}{s len cap lo hi:Nat}{p:Option Addr}{vlo vhi:Option Value}(ht:P.underlying t=some (.slice e))(hsz:Ic P e s)(h1:lo<=hi)(h2:hi<=len)(h3:len<=cap)
  (hlo:(∃q,vlo=some (.int q lo))\/ (vlo=none/\lo=0)) (hhi:(∃q,vhi=some (.int q hi))\/ (vhi=none/\hi=len)):
  (Instr.slice t (.slice p len cap) vlo vhi none).run P w= .ok (.slice (if cap=lo then p else p.map (·.add (lo*s))) (hi-lo) (cap-lo)) w:=by
 have e4:hi<=cap:=by omega
 rcases hlo with⟨q,rfl⟩|⟨rfl,rfl⟩<;>rcases hhi with⟨q',rfl⟩|⟨rfl,rfl⟩<;>
  simp[Instr.slice,Afc ht,Instr.sliceBounds,Instr.sliceBound,asIntOf,Bk hsz,h1,e4]
 all_goals (try (intro h;omega))
theorem X.Aak{t e:TypeId}{R:Reg}{s j m l k:Nat}{v:Value}{cs:List Value}(ht:P.underlying t=some (.slice e))(hsz:Ic P e s)(hs:St A w F L)
  (hF:F[j]? =some (.rd R s v cs)) (hl:cs.length=m*s) (hp:0<s) (hlk:l<=k) (hkm:k<=m):
  ∃p' l' c',(∀(σ:Env) (w:World) (x:Operand) (lo hi:Option Operand),ev σ x=v-> ((∃q,lo.map (ev σ)=some (.int q (l:Int)))\/ (lo=none/\l=0))-> ((∃q,hi.map (ev σ)=some (.int q (k:Int)))\/ (hi=none/\k=m))->XO P σ w (.slice t x lo hi none) (.slice p' l' c'))/\St A w (.rd R s (.slice p' l' c') ((cs.take (k*s)).drop (l*s))::F) L:=by
 obtain⟨p,len,cap,rfl,h2,h3,h4,h5⟩:=hs.fact j hF;have hlen:len=m:=Aoj hp (h2.symm.trans hl);subst hlen;have e1:l*s<=k*s:=Ab4 s hlk;have e2:k*s<=len*s:=Ab4 s hkm;have e3:(k-l)*s=k*s-l*s:=Az0 k l s;have e9:k-l<=cap-l:=by omega
 have e10:l*s+(cap-l)*s=cap*s:=by
  rw[Az0];have:=Ab4 s (show l<=cap by omega);omega
 refine⟨(if cap=l then p else p.map (·.add (l*s))),k-l,cap-l,λσ w x lo hi hx hlo hhi _ _ _ _ _=>?_,hs.qC ⟨_,_,_,rfl,?_,e9,?_,λhc=>?_⟩⟩
 ·have hr:=O5 (P:=P) (w:=w) (p:=p) (vlo:=lo.map (ev σ)) (vhi:=hi.map (ev σ)) ht hsz hlk hkm h3 (by rcases hlo with h|⟨h,h'⟩;exact .inl h;exact .inr ⟨by rw[h];rfl,h'⟩)
   (by rcases hhi with h|⟨h,h'⟩;exact .inl h;exact .inr ⟨by rw[h];rfl,h'⟩)
  simp only[execOp,hx,Instr.sliceAt,Aj3,Afc ht,Ab3,Azj,hr,Aph]
 ·rw[Asn,Afw,e3];omega
 ·intro hp;by_cases hcl:cap=l
  ·omega
  ·rw[Aba hcl]at hp;cases p with
   |none=>have:=h4 rfl;omega
   |some a=>simp at hp
 ·rw[Aba (by omega)];obtain⟨b,off,arr,T,fr,rfl,hA,hb,hc',he⟩:=h5 (by omega);refine⟨b,off+l*s,arr,T,fr,by simp[Mm],hA,hb,?_,λi hi=>?_⟩
  ·rw[Auz,e10];assumption
  ·rw[Auz,he (l*s+i) (by omega),List.getElem?_drop,List.getElem?_take];rw[Abb (by omega)]
theorem Acv{t e:TypeId}{s len cap lo hi mx:Nat}{p:Option Addr}{vlo:Option Value}{q q':IntKind}(ht:P.underlying t=some (.slice e))(hsz:Ic P e s)(h1:lo<=hi)(h2:hi<=mx)(h3:mx<=cap)
  (hlo:(∃q,vlo=some (.int q lo))\/ (vlo=none/\lo=0)):
  (Instr.slice t (.slice p len cap) vlo (some (.int q hi)) (some (.int q' mx))).run P w= .ok (.slice (if mx=lo then p else p.map (·.add (lo*s))) (hi-lo) (mx-lo)) w:=by
 rcases hlo with⟨q,rfl⟩|⟨rfl,rfl⟩<;>
  simp[Instr.slice,Afc ht,Instr.sliceBounds,Instr.sliceBound,asIntOf,Bk hsz,h1,h2,h3]
theorem X.Aht{t e:TypeId}{R:Reg}{s j m l k c:Nat}{v:Value}{cs:List Value}(ht:P.underlying t=some (.slice e))(hsz:Ic P e s)(hs:St A w F L)
  (hF:F[j]? =some (.rd R s v cs)) (hl:cs.length=m*s) (hp:0<s) (hlk:l<=k) (hkc:k<=c) (hcm:c<=m):
  ∃p' l' c',(∀(σ:Env) (w:World) (x:Operand) (lo:Option Operand) (hi mx:Operand),ev σ x=v-> ((∃q,lo.map (ev σ)=some (.int q (l:Int)))\/ (lo=none/\l=0))-> (∃q,ev σ hi= .int q (k:Int))-> (∃q,ev σ mx= .int q (c:Int))->XO P σ w (.slice t x lo (some hi) (some mx)) (.slice p' l' c'))/\St A w (.rd R s (.slice p' l' c') ((cs.take (k*s)).drop (l*s))::F) L:=by
 obtain⟨p,len,cap,rfl,h2,h3,h4,h5⟩:=hs.fact j hF;have hlen:len=m:=Aoj hp (h2.symm.trans hl);subst hlen;have e1:l*s<=k*s:=Ab4 s hlk;have e2:k*s<=len*s:=Ab4 s (Azu hkc hcm);have e3:(k-l)*s=k*s-l*s:=Az0 k l s;have e9:k-l<=c-l:=by omega
 have e10:l*s+(c-l)*s<=cap*s:=by
  rw[Az0];have:=Ab4 s (show l<=c by omega);have:=Ab4 s (show c<=cap by omega);omega
 refine⟨(if c=l then p else p.map (·.add (l*s))),k-l,c-l,λσ w x lo hi mx hx hlo hhi hmx _ _ _ _ _=>?_,hs.qC ⟨_,_,_,rfl,?_,e9,?_,λhc=>?_⟩⟩
 ·obtain⟨q,hq⟩:=hhi;obtain⟨q',hq'⟩:=hmx;have hr:=Acv (P:=P) (w:=w) (p:=p) (len:=len) (vlo:=lo.map (ev σ)) (q:=q) (q':=q') ht hsz hlk hkc (show c<=cap by omega) (by rcases hlo with h|⟨h,h'⟩;exact .inl h;exact .inr ⟨by rw[h];rfl,h'⟩);simp only[execOp,hx,Instr.sliceAt,Aj3,Afc ht,Ab3,Azk,hq,hq',hr,Aph]
 ·rw[Asn,Afw,e3];omega
 ·intro hp;by_cases hcl:c=l
  ·omega
  ·rw[Aba hcl]at hp;cases p with
   |none=>have:=h4 rfl;omega
   |some a=>simp at hp
 ·rw[Aba (by omega)];obtain⟨b,off,arr,T,fr,rfl,hA,hb,hc',he⟩:=h5 (by omega);refine⟨b,off+l*s,arr,T,fr,by simp[Mm],hA,hb,?_,λi hi=>?_⟩
  ·omega
  ·rw[Auz,he (l*s+i) (by omega),List.getElem?_drop,List.getElem?_take];rw[Abb (by omega)]
end Go.Lv
namespace Go.Lv
variable {P:Program} {n:Nat} {ops:Array Oper} {rest:List Oper} {K:Env->World->Prop} {σ:Env} {w:World}
variable {d:Nat} {ty:TypeId} {pos:String} {after:Array Edge} {A:Reg} {F:List Fact} {L:List Mob}
structure ElemOk (P:Program) (e:TypeId) (s:Nat):Prop where
 ok:∃i z,P.info? e=some i/\i.size=s/\i.zero=some z/\z.cells.size=s/\i.bytes<=4096
 pos:0<s
theorem ElemOk.size{e:TypeId}{s:Nat}(h:ElemOk P e s):Ic P e s:=let⟨i,_,h1,h2,_⟩:=h.ok;⟨i,h1,h2⟩
theorem Rd.first{s len cap:Nat}{p:Option Addr}{cs:List Value}(h:Rd A w s (.slice p len cap) cs){w2:World}(hw:w2.heap=w.heap):
  (Builtin.firstCells s len (.slice p len cap)).run P w2= .ok cs.toArray w2:=by
 obtain⟨p',len',cap',e,h2,h3,h4,h5⟩:=h;cases e;cases p with
 |none=>
  have:=h4 rfl;have:cs=[]:=Asa (by rw[h2,show len=0 by omega];simp);subst this;exact run_firstCells_none _ _ _ _ _
 |some a=>
  by_cases hc:0<cap
  ·obtain⟨b,off,arr,T,fr,e,hA,hb,hc',he⟩:=h5 hc;cases e;refine run_firstCells_some w2 s len _ len cap cs h2 (λj v hj=>?_);have hjl:j<len*s:=by rw[<-h2];exact(List.getElem?_eq_some_iff.1 hj).1
   rw[Mm,cell_of (by rw[hw];exact hb),he j hjl,hj]
  ·have hz:len=0:=by omega
   have:cs=[]:=Asa (by rw[h2,hz];simp);subst this;exact run_firstCells_some w2 s len _ len cap [] (by simp[hz]) (λj v hj=>by simp at hj)
theorem Tc{o:Option Nat}{s:Nat}{E:TypeId}{v:Value}{cs:List Value}(h:(Mob.own s E v cs).holds o w):Rd (λb=>o=some b) w s v cs:=by
 obtain⟨p,len,cap,h1,h2,h3,h4,h5,h6⟩:=h;refine⟨p,len,cap,h1,h2,h3,h4,λhc=>?_⟩;cases o with
 |none=>have:=h5 rfl;omega
 |some b=>
  obtain⟨arr,fr,e1,e2,e3,e4,e5⟩:=h6 b rfl;exact⟨b,0,arr,E,fr,e1,rfl,e2,by omega,λi hi=>by rw[Au1];exact e5 i hi⟩
theorem St.Tc(hs:St A w F L){j s:Nat}{E:TypeId}{v:Value}{cs:List Value}(hL:L[j]? =some (.own s E v cs)):Rd (λ_=>True) w s v cs:=by
 obtain⟨o,h⟩:=Ct.mem (A:=A) hs.mobs hL;exact(Go.Lv.Tc h).step (λ_ _=>trivial) (λ_ _=>rfl)
theorem St.rd(hs:St A w F L){j s:Nat}{R:Reg}{v:Value}{cs:List Value}(hF:F[j]? =some (.rd R s v cs)):Rd (λ_=>True) w s v cs:=
 (show Rd _ w s v cs from hs.fact j hF).step (λ_ _=>trivial) (λ_ _=>rfl)
theorem St.fS{i b:Nat}{m m':Mob}{o:Obj}(hs:St A w F L)(hL:L[i]? =some m)(hm:m.holds (some b) w)(hm':m'.holds (some b) (Ft w b o))
  (hq:Ct w A (m::L.eraseIdx i)->∃q,m.holds q w/\ (∀c,q=some c-> ¬A c/\c<w.heap.size)/\Ct w (λc=>A c\/q=some c) (L.eraseIdx i)/\q=some b):St A (Ft w b o) F (L.set i m'):=by
 have h1:=hs.front hL;refine St.back hL ?_;obtain⟨q,_,h3,h4,rfl⟩:=hq h1.mobs;have hsz:(Ft w b o).heap.size=w.heap.size:=by simp[Ft]
 have hne:∀c,c≠b-> (Ft w b o).heap[c]? =w.heap[c]? :=λc hc=>by
  simp[Ft,Array.getElem?_setIfInBounds_ne (Az4 hc)]
 have hnA:=(h3 b rfl).1;refine⟨λc hc=>by rw[hsz];exact hs.lt c hc,λf hf=>f.step (hs.facts f hf) (λ_ h=>h) (λc hc=>hne c (λe=>hnA (e▸hc))) ⟨by rw[hsz];exact Aj0 _,rfl,rfl,rfl⟩,some b,hm',λc hc=>⟨(h3 c hc).1,by rw[hsz];exact(h3 c hc).2⟩,?_⟩;refine h4.step (by rw[hsz];exact Aj0 _) (λc _ hc=>hne c (λe=>hc (.inr (by rw[e]))))
theorem St.Ak4(hs:St A w F L){i:Nat}{m m':Mob}{o:Obj}(hL:L[i]? =some m)(hm':m'.holds (some w.heap.size) (Kc w o)):St A (Kc w o) F (L.set i m'):=
 St.back hL ((hs.front hL).Au8.D8 o m' hm')
theorem St.Al0(hs:St A w F L):St A w.drew F L:=hs.keep ⟨λ_ _=>rfl,Aj0 _,rfl,rfl,rfl⟩
theorem St.N4(hs:St A w F L){i:Nat}{m m':Mob}(hL:L[i]? =some m)(hm:∀q,m.holds q w->∃q',m'.holds q' w/\ (q'=q\/q'=none)):St A w F (L.set i m'):=by
 have h1:=hs.front hL;refine St.back hL ⟨hs.lt,hs.facts,?_⟩;obtain⟨q,hq,h3,h4⟩:=h1.mobs;obtain⟨q',hq',h⟩:=hm q hq;refine⟨q',hq',λb hb=>?_,h4.Xo ?_⟩
 ·rcases h with rfl|rfl
  ·exact h3 b hb
  ·cases hb
 ·rcases h with rfl|rfl
  ·exact λ_ h=>h
  ·exact λb hb=>hb.elim .inl (λh=>by cases h)
structure Src (P:Program) (w:World) (t2:TypeId) (vy:Value) (s ly:Nat) (ys:List Value):Prop where
 u:∃u,P.underlying t2=some u/\ ((∃e2,u= .slice e2)\/u= .string)
 len:∀w2,(Builtin.lenOf vy).run P w2= .ok ly w2
 first:∀w2:World,w2.heap=w.heap-> (Builtin.firstCells s ly vy).run P w2= .ok ys.toArray w2
theorem Src.slice{t2:TypeId}{vy:Value}{s ly:Nat}{ys:List Value}(ht2:∃e2,P.underlying t2=some (.slice e2))(hy:Rd (λ_=>True) w s vy ys)(hly:ys.length=ly*s)(hp:0<s):Src P w t2 vy s ly ys:=by
 obtain⟨py,Awm,Ax2,rfl,g2,g3,g4,g5⟩:=hy;have e2':Awm=ly:=Aoj hp (g2.symm.trans hly);subst e2';obtain⟨e2,ht2⟩:=ht2;exact⟨⟨_,ht2, .inl ⟨_,rfl⟩⟩,λ_=>by simp[Builtin.lenOf],λw2 hw=>Rd.first (A:=λ_=>True) ⟨py,Awm,Ax2,rfl,g2,g3,g4,g5⟩ hw⟩
theorem nP{x y:Operand}{t t2 e:TypeId}{s i lx ly:Nat}{vx vy:Value}{cs ys:List Value}(ht:P.underlying t=some (.slice e))(he:ElemOk P e s)
  (hs:St A w F L) (hL:L[i]? =some (.own s e vx cs)) (hsrc:Src P w t2 vy s ly ys) (h1:ys.all (·.oneCell')=true) (hlx:cs.length=lx*s) (hly:ys.length=ly*s) (hlim:lx+ly<=ko):
  ∃v' w',(Builtin.append_ #[t,t2] ty #[vx,vy]).run P w= .ok v' w'/\St A w' F (L.set i (.own s e v' (cs++ys))):=by
 have hfr:=hs.front hL;obtain⟨o,hown,_,_⟩:=hfr.mobs;have hxr:=Go.Lv.Tc hown;obtain⟨p,len,cap,rfl,h2,h3,h4,h5,h6⟩:=hown;obtain⟨ti,z,hi,hsz,hz,hzs,hby⟩:=he.ok;obtain⟨u,ht2,hu⟩:=hsrc.u;have hlen:=hsrc.len;have e1:len=lx:=Aoj he.pos (h2.symm.trans hlx);subst e1;subst hsz;have An5:ko=17179869184:=rfl;rw[An5]at hlim;by_cases hroom:len+ly<=cap
 ·by_cases hn:ly=0
  ·
   subst hn;have hys:ys=[]:=Asa (by simpa using hly);subst hys;have hf:=hsrc.first w rfl
   refine⟨.slice p len cap,w,?_,?_⟩
   ·rcases hu with⟨e2,rfl⟩|rfl<;>cases p<;>simp[Builtin.append_,Afc ht,Afc ht2,sizeOf,typeInfo,hi,hlen,hf,h3,storeCells]
   ·rw[Aun];have:L.set i (.own ti.size e (.slice p len cap) cs)=L:=by
     apply List.ext_getElem?;intro j;by_cases hj:i=j
     ·subst hj;rw[List.getElem?_set_self'];simp[hL]
     ·rw[List.getElem?_set_ne hj]
    rw[this];exact hs
  ·
   cases o with
   |none=>have:=h5 rfl;omega
   |some b=>
    obtain⟨arr,fr,rfl,hb,hsz',hfz,hcells⟩:=h6 b rfl;have hf:=hsrc.first w rfl
    have hst:=Gs (P:=P) b e fr ys (len*ti.size) 0 arr.toList w (by simpa using hb)
     (by have:=Ab4 ti.size hroom;rw[Aux]at this;simp;omega) (by simp;rcases hfz with h|h;exact .inr (.inr (Nat.le_of_eq h.symm));exact .inr (.inl h)) (λv hv=>List.all_eq_true.1 h1 v hv)
    refine⟨.slice (some ⟨b,0,none⟩) (len+ly) cap,Ft w b (.cells (Bb arr.toList (len*ti.size) ys).toArray e fr),?_,?_⟩
    ·rcases hu with⟨e2,rfl⟩|rfl<;>(simp[Builtin.append_,Afc ht,Afc ht2,sizeOf,typeInfo,hi,hlen,hf,hroom,Mm]at hst⊢;simp[hst])
    ·have hbl:=lt_of_heap hb;have hal:arr.toList.length=arr.size:=by simp
     have Ax4:len*ti.size+ly*ti.size<=arr.toList.length:=by
      have:=Ab4 ti.size hroom;rw[Aux]at this;simp;omega
     refine hs.fS hL (b:=b) ⟨_,len,cap,rfl,h2,h3,h4,h5,h6⟩ ?_ ?_
     ·refine⟨_,len+ly,cap,rfl,by rw[Aby,Aux];omega,hroom,by simp,by simp,λb' hb'=>?_⟩;cases hb';refine⟨(Bb arr.toList (len*ti.size) ys).toArray,fr,rfl,by simp[Ft,hbl],?_,?_,λj hj=>?_⟩
      ·simp only[Avl];rw[Fo (by omega)];simpa using hsz'
      ·simp only[Avl];rw[Fo (by omega)];simpa using hfz
      ·rw[Aux]at hj;simp only[List.getElem?_toArray,Bb,List.getElem?_append,Afw];by_cases hj1:j<len*ti.size
       ·rw[Abb (by omega),Abb (by omega),List.getElem?_take,Abb hj1];have:=hcells j hj1;simpa using this
       ·have hmin:min (len*ti.size) arr.toList.length=len*ti.size:=by omega
        rw[hmin,Aba hj1,Aba (show ¬j<cs.length by omega),Abb (show j-len*ti.size<ys.length by omega),h2]
     ·rintro⟨q,hq,q1,q2⟩;refine⟨q,hq,q1,q2,?_⟩;obtain⟨_,_,_,eq,_,_,_,k5,k6⟩:=hq;cases q with
      |none=>cases eq;have:=k5 rfl;omega
      |some c=>obtain⟨_,_,k7,_⟩:=k6 c rfl;cases eq;cases k7;rfl
 ·
  have hf:=hsrc.first w.drew rfl
  have hfo:=hxr.first (P:=P) (w2:=w.drew) rfl
  have h63':¬(9223372036854775807<((len:Int)+(ly:Int))):=by omega
  have hbb:(len+ly)*ti.bytes<=140737488355328:=by
   have:=Azg hlim hby;omega
  have h48':¬(281474976710656<Builtin.nextslicecap (len+ly) cap*ti.bytes):=by
   have:=growslice_fits (by omega:cap<len+ly) hbb;omega
  have hge:len+ly<=grownCap w (len+ly) cap e:=by simp[grownCap,Question.cut]
  refine⟨.slice (some ⟨w.heap.size,0,none⟩) (len+ly) (grownCap w (len+ly) cap e),
   Kc w.drew (.cells (cs++ys++(Builtin.zeroCells z.cells (grownCap w (len+ly) cap e-(len+ly))).toList).toArray e),?_,?_⟩
  ·have harr:∀(a b:List Value) (zz:Array Value),(a++b++zz.toList).toArray=a.toArray++(b.toArray++zz):=λa b zz=>by
    apply Array.ext';simp
   rw[harr];rcases hu with⟨e2,rfl⟩|rfl<;>(simp[Builtin.append_,Afc ht,Afc ht2,sizeOf,typeInfo,zeroValue,hi,hz,hlen,hroom,h63',h48',Question.forced,hf,hfo,newRow,newObj,grownCap];simp only[Sem.run,Ab3];simp[Kc])
  ·refine hs.Al0.Ak4 hL ⟨_,len+ly,_,rfl,by rw[Aby,Aux];omega,hge,by simp,by simp,λb hb=>?_⟩;cases hb;refine⟨_,(0,0),rfl,GZ _ _,?_, .inl rfl,λj hj=>?_⟩
   ·have:(Builtin.zeroCells z.cells (grownCap w (len+ly) cap e-(len+ly))).size=(grownCap w (len+ly) cap e-(len+ly))*ti.size:=by simp[Builtin.zeroCells,hzs]
    simp only[Avl,Aby,Array.length_toList,this,h2,hly,Az0];have:=Ab4 ti.size hge;rw[Aux]at this⊢;omega
   ·rw[Aux]at hj;simp only[List.getElem?_toArray];rw[List.getElem?_append_left (by simp;omega)]
end Go.Lv
namespace Go.Lv
variable {P:Program} {n:Nat} {ops:Array Oper} {rest:List Oper} {K:Env->World->Prop} {σ:Env} {w:World}
variable {d:Nat} {ty:TypeId} {pos:String} {after:Array Edge} {A:Reg} {F:List Fact} {L:List Mob}
theorem jh{x y:Operand}{t t2 e:TypeId}{s i lx ly:Nat}{vx:Value}{cs ys:List Value}(ht:P.underlying t=some (.slice e))(he:ElemOk P e s)
  (hs:St A w F L) (hL:L[i]? =some (.own s e vx cs)) (hk:∃k,P.underlying t2=some (.int k)) (hyz:∀i z,P.info? e=some i->i.zero=some z->ys.toArray=Builtin.zeroCells z.cells ly) (h1:ys.all (·.oneCell')=true) (hlx:cs.length=lx*s) (hly:ys.length=ly*s) (hlim:lx+ly<=ko):
  ∃v' w',(Builtin.append_ #[t,t2] ty #[vx, .int .i64 (ly:Int)]).run P w= .ok v' w'/\St A w' F (L.set i (.own s e v' (cs++ys))):=by
 have hfr:=hs.front hL;obtain⟨o,hown,_,_⟩:=hfr.mobs;have hxr:=Go.Lv.Tc hown;obtain⟨p,len,cap,rfl,h2,h3,h4,h5,h6⟩:=hown;obtain⟨ti,z,hi,hsz,hz,hzs,hby⟩:=he.ok;obtain⟨k,ht2⟩:=hk;have hyz:=hyz _ _ hi hz;have hLIM':ko=17179869184:=rfl;have hw64:IntKind.i64.wrap (ly:Int)=(ly:Int):=Bp (by omega) (by rw[hLIM']at hlim;omega);have hneg:¬((ly:Int)<0):=by omega
 have hb48:¬(281474976710656<(ly:Int)*(ti.bytes:Int)):=by
  have h1:ly*ti.bytes<=17179869184*4096:=Azg (by rw[hLIM']at hlim;omega) hby;have h2:(ly:Int)*(ti.bytes:Int)=((ly*ti.bytes:Nat):Int):=by simp
  rw[h2];omega
 have e1:len=lx:=Aoj he.pos (h2.symm.trans hlx);subst e1;subst hsz;have An5:ko=17179869184:=rfl;rw[An5]at hlim;by_cases hroom:len+ly<=cap
 ·by_cases hn:ly=0
  ·
   subst hn;have hys:ys=[]:=Asa (by simpa using hly);subst hys;refine⟨.slice p len cap,w,?_,?_⟩
   ·cases p<;>simp[Builtin.append_,Afc ht,Afc ht2,sizeOf,typeInfo,hi,asInt,asIntOf,(by decide:IntKind.i64.wrap 0=0),hw64,hneg,hb48,h3,storeCells]
   ·rw[Aun];have:L.set i (.own ti.size e (.slice p len cap) cs)=L:=by
     apply List.ext_getElem?;intro j;by_cases hj:i=j
     ·subst hj;rw[List.getElem?_set_self'];simp[hL]
     ·rw[List.getElem?_set_ne hj]
    rw[this];exact hs
  ·
   cases o with
   |none=>have:=h5 rfl;omega
   |some b=>
    obtain⟨arr,fr,rfl,hb,hsz',hfz,hcells⟩:=h6 b rfl;have hst:=Gs (P:=P) b e fr ys (len*ti.size) 0 arr.toList w (by simpa using hb)
     (by have:=Ab4 ti.size hroom;rw[Aux]at this;simp;omega) (by simp;rcases hfz with h|h;exact .inr (.inr (Nat.le_of_eq h.symm));exact .inr (.inl h)) (λv hv=>List.all_eq_true.1 h1 v hv)
    refine⟨.slice (some ⟨b,0,none⟩) (len+ly) cap,Ft w b (.cells (Bb arr.toList (len*ti.size) ys).toArray e fr),?_,?_⟩
    ·have h00:¬(ly*ti.size=0):=λh=>by have hpp:=he.pos;rcases Nat.mul_eq_zero.1 h with h|h<;>omega
     simp[Builtin.append_,Afc ht,Afc ht2,sizeOf,typeInfo,zeroValue,hi,hz,asInt,asIntOf,(by decide:IntKind.i64.wrap 0=0),hw64,hneg,hb48,hroom,Mm,h00,<-hyz]at hst⊢;simp[hst]
    ·have hbl:=lt_of_heap hb;have hal:arr.toList.length=arr.size:=by simp
     have Ax4:len*ti.size+ly*ti.size<=arr.toList.length:=by
      have:=Ab4 ti.size hroom;rw[Aux]at this;simp;omega
     refine hs.fS hL (b:=b) ⟨_,len,cap,rfl,h2,h3,h4,h5,h6⟩ ?_ ?_
     ·refine⟨_,len+ly,cap,rfl,by rw[Aby,Aux];omega,hroom,by simp,by simp,λb' hb'=>?_⟩;cases hb';refine⟨(Bb arr.toList (len*ti.size) ys).toArray,fr,rfl,by simp[Ft,hbl],?_,?_,λj hj=>?_⟩
      ·simp only[Avl];rw[Fo (by omega)];simpa using hsz'
      ·simp only[Avl];rw[Fo (by omega)];simpa using hfz
      ·rw[Aux]at hj;simp only[List.getElem?_toArray,Bb,List.getElem?_append,Afw];by_cases hj1:j<len*ti.size
       ·rw[Abb (by omega),Abb (by omega),List.getElem?_take,Abb hj1];have:=hcells j hj1;simpa using this
       ·have hmin:min (len*ti.size) arr.toList.length=len*ti.size:=by omega
        rw[hmin,Aba hj1,Aba (show ¬j<cs.length by omega),Abb (show j-len*ti.size<ys.length by omega),h2]
     ·rintro⟨q,hq,q1,q2⟩;refine⟨q,hq,q1,q2,?_⟩;obtain⟨_,_,_,eq,_,_,_,k5,k6⟩:=hq;cases q with
      |none=>cases eq;have:=k5 rfl;omega
      |some c=>obtain⟨_,_,k7,_⟩:=k6 c rfl;cases eq;cases k7;rfl
 ·
  have hfo:=hxr.first (P:=P) (w2:=w.drew) rfl
  have h63':¬(9223372036854775807<((len:Int)+(ly:Int))):=by omega
  have hbb:(len+ly)*ti.bytes<=140737488355328:=by
   have:=Azg hlim hby;omega
  have h48':¬(281474976710656<Builtin.nextslicecap (len+ly) cap*ti.bytes):=by
   have:=growslice_fits (by omega:cap<len+ly) hbb;omega
  have hge:len+ly<=grownCap w (len+ly) cap e:=by simp[grownCap,Question.cut]
  refine⟨.slice (some ⟨w.heap.size,0,none⟩) (len+ly) (grownCap w (len+ly) cap e),
   Kc w.drew (.cells (cs++ys++(Builtin.zeroCells z.cells (grownCap w (len+ly) cap e-(len+ly))).toList).toArray e),?_,?_⟩
  ·have harr:∀(a b:List Value) (zz:Array Value),(a++b++zz.toList).toArray=a.toArray++(b.toArray++zz):=λa b zz=>by
    apply Array.ext';simp
   rw[harr];have h00:¬(ly*ti.size=0):=λh=>by have hpp:=he.pos;rcases Nat.mul_eq_zero.1 h with h|h<;>omega
   simp[Builtin.append_,Afc ht,Afc ht2,sizeOf,typeInfo,zeroValue,hi,hz,asInt,asIntOf,(by decide:IntKind.i64.wrap 0=0),hw64,hneg,hb48,hroom,h63',h48',Question.forced,hfo,newRow,newObj,grownCap,h00,<-hyz];simp only[Sem.run,Ab3];simp[Kc]
  ·refine hs.Al0.Ak4 hL ⟨_,len+ly,_,rfl,by rw[Aby,Aux];omega,hge,by simp,by simp,λb hb=>?_⟩;cases hb;refine⟨_,(0,0),rfl,GZ _ _,?_, .inl rfl,λj hj=>?_⟩
   ·have:(Builtin.zeroCells z.cells (grownCap w (len+ly) cap e-(len+ly))).size=(grownCap w (len+ly) cap e-(len+ly))*ti.size:=by simp[Builtin.zeroCells,hzs]
    simp only[Avl,Aby,Array.length_toList,this,h2,hly,Az0];have:=Ab4 ti.size hge;rw[Aux]at this⊢;omega
   ·rw[Aux]at hj;simp only[List.getElem?_toArray];rw[List.getElem?_append_left (by simp;omega)]
end Go.Lv
namespace Go.Lv
variable {P:Program} {n:Nat} {ops:Array Oper} {rest:List Oper} {K:Env->World->Prop} {σ:Env} {w:World}
variable {d:Nat} {ty:TypeId} {pos:String} {after:Array Edge} {A:Reg} {F:List Fact} {L:List Mob}
theorem WL.Ahi{x y:Operand}{t t2 e:TypeId}{s i lx ly:Nat}{vx vy:Value}{cs ys:List Value}{L':Option Addr->Nat->Nat->List Mob}(ht:P.underlying t=some (.slice e))(he:ElemOk P e s)
  (hs:St A w F L) (hL:L[i]? =some (.own s e vx cs)) (hd:Nat.blt d n=true) (hx:ev σ x=vx) (hy:ev σ y=vy) (hsrc:Src P w t2 vy s ly ys) (h1:ys.all (·.oneCell')=true)
  (hlx:cs.length=lx*s) (hly:ys.length=ly*s) (hlim:lx+ly<=ko) (hL':∀p l c,L.set i (.own s e (.slice p l c) (cs++ys))=L' p l c) (h:∀p l c w',St A w' F (L' p l c)->WL P n ops rest K (Ub σ d (.slice p l c)) w'):
  WL P n ops (⟨some d, .call ⟨.builtin .append, #[x,y], #[t,t2]⟩,ty,pos,after,none⟩::rest) K σ w:=by
 obtain⟨v',w',hr,hs'⟩:=nP (P:=P) (ty:=ty) (x:=x) (y:=y) ht he hs hL hsrc h1 hlx hly hlim;obtain⟨p,l,c,rfl⟩:∃p l c,v'= .slice p l c:=by
  have hlt:i<L.length:=(List.getElem?_eq_some_iff.1 hL).1;obtain⟨o,ho⟩:=Ct.mem (A:=A) hs'.mobs (show(L.set i (.own s e v' (cs++ys)))[i]? =some (.own s e v' (cs++ys)) by simp[hlt]);obtain⟨p,l,c,h,_⟩:=ho;exact⟨p,l,c,h⟩
 refine .val rfl rfl hd (v:= .slice p l c) (w':=w') ?_ (h p l c w' (hL' p l c▸hs'));simp[execOp,resolve,invoke,builtin,hx,hy,hr]
theorem WL.append{x y:Operand}{t t2 e:TypeId}{s i lx ly:Nat}{vx vy:Value}{cs ys:List Value}{L':Option Addr->Nat->Nat->List Mob}(ht:P.underlying t=some (.slice e))(ht2:∃e2,P.underlying t2=some (.slice e2))(he:ElemOk P e s)
  (hs:St A w F L) (hL:L[i]? =some (.own s e vx cs)) (hd:Nat.blt d n=true) (hx:ev σ x=vx) (hy:ev σ y=vy) (hyr:Rd (λ_=>True) w s vy ys) (h1:ys.all (·.oneCell')=true)
  (hlx:cs.length=lx*s) (hly:ys.length=ly*s) (hlim:lx+ly<=ko) (hL':∀p l c,L.set i (.own s e (.slice p l c) (cs++ys))=L' p l c) (h:∀p l c w',St A w' F (L' p l c)->WL P n ops rest K (Ub σ d (.slice p l c)) w'):
  WL P n ops (⟨some d, .call ⟨.builtin .append, #[x,y], #[t,t2]⟩,ty,pos,after,none⟩::rest) K σ w:=
 WL.Ahi ht he hs hL hd hx hy (Src.slice ht2 hyr hly he.pos) h1 hlx hly hlim hL' h
theorem St.freeze(hs:St A w F L){i s:Nat}{E:TypeId}{v:Value}{cs:List Value}{L':List Mob}(hL:L[i]? =some (.own s E v cs))(hL':L.eraseIdx i=L')(R:Reg)(hR:∀b,¬A b->R b):
  ∃A',(∀b,A b->A' b)/\St A' w (.rd R s v cs::F) L':=by
 subst hL';obtain⟨o,ho,h3,h4⟩:=(hs.front hL).mobs;have hrd:=Go.Lv.Tc ho;refine⟨λb=>A b\/o=some b,λ_ h=> .inl h,λb hb=>hb.elim (hs.lt b) (λh=>(h3 b h).2),λf hf=>?_,h4⟩;cases hf with
 |head=>exact hrd.step (λb hb=>⟨.inr hb,hR b (h3 b hb).1⟩) (λ_ _=>rfl)
 |tail _ hf=>exact f.step (hs.facts f hf) (λ_ h=> .inl h) (λ_ _=>rfl) (.refl _)
theorem St.C3(hs:St A w F L)(s:Nat)(E:TypeId):St A w F (.own s E (.slice none 0 0) []::L):=
 ⟨hs.lt,hs.facts,none,⟨none,0,0,rfl,by simp,Aj0 _,λ_=>rfl,λ_=>rfl,λb hb=>by cases hb⟩,(λb hb=>by cases hb),hs.mobs.Xo (λb hb=>hb.elim id (λh=>by cases h))⟩
theorem St.Am3(hs:St A w F L){R:Reg}{s:Nat}{v:Value}{cs:List Value}(h:Rd (λb=>A b/\R b) w s v cs):St A w (.rd R s v cs::F) L:=hs.qC h
theorem Ado(acc:List Value)(off:Nat):Bb acc off []=acc:=by simp[Bb]
theorem gE(off:Nat):∀(cs:List Value) (j:Nat) (acc:List Value),off+j+cs.length<=acc.length->
  (cs.zipIdx j).foldl (λ(a:Array Value) (p:Value×Nat)=>a.setIfInBounds (off+p.2) p.1) acc.toArray=(Bb acc (off+j) cs).toArray
 |[],j,acc,_=>by simp[Ado]
 |c::cs,j,acc,h=>by
  simp only[Aj1]at h;simp only[List.zipIdx_cons,List.foldl_cons];rw[List.setIfInBounds_toArray];have:=gE off cs (j+1) (acc.set (off+j) c) (by simp;omega);rw[this,<-Auz,uP (by simp;omega)]
theorem pq(s:Nat):∀(vs:List Value) (k:Nat) (acc:List Value),(∀v∈vs,v.cells.size=s)->acc.length=(k+vs.length)*s->
  Instr.fill (λi=>some (i*s,s)) acc.toArray ((vs.zipIdx k).map λp=>(p.2,p.1))=some (acc.take (k*s)++(vs.map (·.cells.toList)).flatten).toArray
 |[],k,acc,_,hl=>by
  have:acc.take (k*s)=acc:=Aoy (by simp at hl;omega);simp[Instr.fill,this]
 |v::vs,k,acc,hv,hl=>by
  have h1:=hv v (.head _);have hl':acc.length=k*s+s+vs.length*s:=by rw[hl,Aj1,Aux,Aux];omega
  have hf:=gE (k*s) v.cells.toList 0 acc (by simp;omega);have An6:v.cells.zipIdx.foldl (λcs (x:Value×Nat)=>cs.setIfInBounds (k*s+x.2) x.1) acc.toArray=(Bb acc (k*s) v.cells.toList).toArray:=by
   rw[<-Array.foldl_toList,Array.toList_zipIdx];simpa using hf
  have hrec:=pq s vs (k+1) (Bb acc (k*s) v.cells.toList) (λu hu=>hv u (.tail _ hu)) (by rw[Fo (by simp;omega),hl,Aj1];congr 1;omega);simp only[List.zipIdx_cons,Aw7,Instr.fill];have hc:(decide (v.cells.size≠s)||decide (k*s+v.cells.size>acc.toArray.size))=false:=by simp;omega
  rw[Aba (by rw[hc];simp)]
  show Instr.fill _ (v.cells.zipIdx.foldl (λcs (x:Value×Nat)=>cs.setIfInBounds (k*s+x.2) x.1) acc.toArray) _=_;rw[An6,hrec];congr 2;have e1:(k+1)*s=k*s+v.cells.toList.length:=by rw[Aza];simp[h1]
  rw[e1,Ay0,<-Adn];congr 1;simp only[Bb];rw[<-Adn,Av6 (by simp;omega),Aoy (by simp;omega)]
theorem Ahr(z:Array Value)(m:Nat):∃zs:List Value,((Array.range m).map λx=>z[x %z.size]!)=zs.toArray/\zs.length=m:=
 ⟨((Array.range m).map λx=>z[x %z.size]!).toList,by rw[Array.toArray_toList],by simp⟩
theorem WL.buildSlice{t e:TypeId}{len s:Nat}{parts:List (Nat×Operand)}{vs cells:List Value}(ht:P.underlying t=some (.slice e))(he:ElemOk P e s)(hs:St A w F L)(hd:Nat.blt d n=true)
  (hp:(parts.map λp=>(p.1,ev σ p.2))=(vs.zipIdx 0).map λp=>(p.2,p.1)) (hl:vs.length=len) (hlen:Nat.ble (len*s) 4096=true) (h1:∀v∈vs,v.cells.size=s)
  (hcells:(vs.map (·.cells.toList)).flatten=cells)
  (h:∀p l c w',St A w' F (.own s e (.slice p l c) cells::L)->WL P n ops rest K (Ub σ d (.slice p l c)) w'):
  WL P n ops (⟨some d, .buildSlice t len parts.toArray,ty,pos,after,none⟩::rest) K σ w:=by
 subst hl;have hlen':vs.length*s<=4096:=by simpa using hlen
 obtain⟨ti,z,hi,hsz,hz,hzs,hby⟩:=he.ok;have hcl:cells.length=vs.length*s:=by
  rw[<-hcells];clear hp h hcells hlen hlen'
  induction vs with
  |nil=>simp
  |cons v vs ih=>
   simp only[Aw7,Ay0,Aby,Aj1,Array.length_toList];rw[ih (λu hu=>h1 u (.tail _ hu)),h1 v (.head _),Aza];omega
 have hrun:(newRow e cells.toArray).run P w= .ok ⟨w.heap.size,0,none⟩ (Kc w (.cells cells.toArray e)):=rfl;have hfz:∀z0:Array Value,Instr.fill (λi=>some (i*s,s)) (Array.map (λx=>z0[x %z0.size]!) (Array.range (vs.length*s))) ((vs.zipIdx 0).map λp=>(p.2,p.1))=some cells.toArray:=λz0=>by
  obtain⟨zs,Ax5,Ax6⟩:=Ahr z0 (vs.length*s);have hf:=pq s vs 0 zs h1 (by rw[Ax6];simp);simp only[Nat.zero_mul,Axm,Avj,hcells]at hf;rw[Ax5,hf]
 have hzv:(zeroValue e).run P w= .ok z w:=by simp[zeroValue,typeInfo,hi,hz]
 refine .val rfl rfl hd (v:= .slice (some ⟨w.heap.size,0,none⟩) vs.length vs.length) (w':=Kc w (.cells cells.toArray e)) ?_ (h _ _ _ _ (hs.D8 _ _ ⟨_,vs.length,vs.length,rfl,hcl,Aj0 _,by simp,by simp,λb hb=>?_⟩))
 ·simp only[execOp,Instr.buildSlice,Aj3,Afc ht,Ab3,Bk he.size];rw[Aba (by omega)];have hp2:(Array.map (λ(x:Nat×Operand)=>(x.1,ev σ x.2)) parts.toArray).toList=(vs.zipIdx 0).map λp=>(p.2,p.1):=by rw[List.map_toArray,hp]
  rw[hp2];split<;>simp only[Aj3,Aph,hzv,Ab3,hfz,hrun]
 ·cases hb;exact⟨cells.toArray,(0,0),rfl,GZ _ _,by simpa using hcl, .inl rfl,λi hi=>by simp⟩
end Go.Lv
namespace Go.Lv
variable {P:Program} {n:Nat} {ops:Array Oper} {rest:List Oper} {K:Env->World->Prop} {σ:Env} {w:World}
variable {d:Nat} {ty:TypeId} {pos:String} {after:Array Edge} {A:Reg} {F:List Fact} {L:List Mob}
def lL(l:List Value):Env:=λt=>l.getD t undef
def UA(P:Program)(σ:Env)(w:World):ResultVar->Value->Prop
 | .tmp t,v=>σ t=v
 | .cell a t,v=>∃ad,σ a= .pointer (some ad)/\ (loadVar t ad).run P w= .ok v w
def jL(P:Program)(σ:Env)(w:World):List ResultVar->List Value->Prop
 |[],[]=>True
 |r::rs,v::vs=>UA P σ w r v/\jL P σ w rs vs
 |_,_=>False
def NF(vs:List Value):Value:=match vs with|[v]=>v|_=> .tuple vs.toArray
def B3(tmps:Array Value):ResultVar->Sem Value
 | .tmp t=>pure (tmps.getD t undef)
 | .cell a t=>do loadVar t (<-asAddr (tmps.getD a undef))
theorem Adq{ds:List Deferred}{a:Act}{r:ResultVar}{v:Value}(ha:Fits ds n a σ)(h:UA P σ w r v):(B3 a.tmps r).run P w= .ok v w:=by
 cases r with
 |tmp t=>
  simp only[UA]at h;simp only[B3,ha.get,h,Aph]
 |cell ad t=>
  obtain⟨x,h4,h5⟩:=h;simp only[B3,ha.get,h4,asAddr,Aj3,Aph,Ab3,h5]
theorem yB{ds:List Deferred}{a:Act}(ha:Fits ds n a σ):∀(rs:List ResultVar) (vs:List Value),jL P σ w rs vs-> (rs.mapM (B3 a.tmps)).run P w= .ok vs w
 |[],[],_=>rfl
 |[],_::_,h=>h.elim
 |_::_,[],h=>h.elim
 |r::rs,v::vs,⟨h1,h2⟩=>by
  have h3:=yB ha rs vs h2;simp only[List.mapM_cons,Aj3,Adq ha h1,Ab3,h3,Aph]
theorem SP{fn:Func}{rs:List ResultVar}{ds:List Deferred}{a:Act}{vs:List Value}(hr:fn.results=rs.toArray)(ha:Fits ds n a σ)(h:jL P σ w rs vs):
  (results fn a.tmps).run P w= .ok (NF vs) w:=by
 have hk:=yB ha rs vs h;have e:results fn a.tmps=(do let vs<-fn.results.mapM (B3 a.tmps);pure (if h:vs.size=1 then vs[0]else .tuple vs)):=rfl;rw[e,hr,List.mapM_toArray];simp only[Aj3,map_eq_pure_bind,Aph,Ab3,hk];congr 1
 match vs with
 |[]=>rfl
 |[v]=>rfl
 |a::b::r=>simp[NF]
theorem H9{f:FuncId}{fn:Func}{c:Code}{rs:List ResultVar}{vs:List Value}{R:Ending->World->Prop}(hf:P.funcs[f]? =some fn)(hb:fn.body=some c)(hn:fn.ntmps=n)(hr:fn.results=rs.toArray)
  (hle:Nat.ble vs.length n=true)
  (h:W P n c (λe σ' w'=>(e= .ret\/e= .normal)/\∃us,jL P σ' w' rs us/\R (.returned (NF us)) w') (lL vs) w):Calls P f vs.toArray w R:=by
 subst hn;have hle':vs.length<=fn.ntmps:=by simpa using hle
 refine calls_of_wp hf hb (wp_mono (h.wp ⟨by simp;omega,rfl,λt=>?_⟩) ?_)
 ·simp only[lL,Array.getD_eq_getD_getElem?,List.getD_eq_getElem?_getD,Array.getElem?_append,Avl,List.getElem?_toArray];by_cases ht:t<vs.length
  ·simp[ht]
  ·rw[Aba ht,List.getElem?_eq_none (by omega)];by_cases h2:t-vs.length<fn.ntmps-vs.length
   ·simp[Array.getElem?_replicate,h2]
   ·simp[Array.getElem?_replicate,h2]
 ·rintro e a' w' ⟨σ',hf',hh,us,h1,h2⟩;have hres:=SP (P:=P) (w:=w') hr hf' h1;rcases hh with rfl|rfl<;>exact⟨hf'.defers,_,hres,h2⟩
theorem St.start(w:World):St (λb=>b<w.heap.size) w [.old (λ_=>False) w] []:=by
 refine⟨λ_ h=>h,λf hf=>?_,trivial⟩;cases hf with
 |head=>exact⟨.refl _,λb hb _=>⟨hb,rfl⟩⟩
 |tail _ h=>cases h
theorem Rd.start{R:Reg}{s:Nat}{v:Value}{cs:List Value}(h:Rd R w s v cs):Rd (λb=>b<w.heap.size/\R b) w s v cs:=by
 obtain⟨p,len,cap,h1,h2,h3,h4,h5⟩:=h;refine⟨p,len,cap,h1,h2,h3,h4,λhc=>?_⟩;obtain⟨b,off,arr,T,fr,e1,e2,e3,e4⟩:=h5 hc;exact⟨b,off,arr,T,fr,e1,⟨lt_of_heap e3,e2⟩,e3,e4⟩
def New(w0:World):Reg:=λb=>w0.heap.size<=b
theorem St.Arq(hs:St A w F L){w0:World}{i:Nat}(hF:F[i]? =some (.old (λ_=>False) w0)):Keep w0 w:=by
 obtain⟨h1,h2⟩:=hs.fact i hF;exact⟨λb hb=>(h2 b hb (λh=>h)).2,h1⟩
theorem St.fr(hs:St A w F L){w0:World}{i:Nat}(hF:F[i]? =some (.old (λ_=>False) w0)){F1:List Fact}{L1:List Mob}
  (hF1:∀A1:Reg,(∀b,A1 b↔A b/\w0.heap.size<=b)->∀f∈F1,f.holds A1 w) (hL:L1.length<=L.length) (hL1:L.take L1.length=L1):Fr w0 w F1 L1:=by
 obtain⟨h1,h2⟩:=hs.fact i hF;refine⟨hs.Arq hF,λb=>A b/\w0.heap.size<=b,λb hb=>⟨hb.2,hs.lt b hb.1⟩,hF1 _ (λ_=>Iff.rfl),?_⟩;have key:∀(L1 L:List Mob) (A:Reg),L.take L1.length=L1->Ct w A L->Ct w A L1:=by
  intro L1
  induction L1 with
  |nil=>intro _ _ _ _;trivial
  |cons m L1 ih=>
   intro L A he hm;cases L with
   |nil=>simp at he
   |cons m' L=>
    simp only[Aj1,List.take_succ_cons,List.cons.injEq]at he;obtain⟨rfl,he⟩:=he;obtain⟨o,h1,h2,h3⟩:=hm;exact⟨o,h1,h2,ih L _ he h3⟩
 refine(key L1 L A hL1 hs.mobs).Xo ?_;rintro b (h|h)
 ·exact h.1
 ·exact(h2 b h (λh=>h)).1
end Go.Lv
namespace Go.Lv
variable {P:Program} {n:Nat} {ops:Array Oper} {rest:List Oper} {K:Env->World->Prop} {σ:Env} {w:World}
variable {d:Nat} {ty:TypeId} {pos:String} {after:Array Edge} {A:Reg} {F:List Fact} {L:List Mob}
@[reducible] def EN {T:Type} {k:IntKind} [GI T k] (l:List T):List Value:=l.map iv
theorem Ae7(b:UInt8):iv b= .int .u8 (b.toNat:Int):=rfl
theorem X.b2s{x:Operand}{s t e:TypeId}{R:Reg}{v:Value}{l:List UInt8}(hs':P.underlying s=some (.slice e))(he:P.underlying e=some (.int .u8))(ht:P.underlying t=some .string)
  (hr:Rd R w 1 v (EN l)) (hx:ev σ x=v):XO P σ w (.convert s t x) (sv l):=λ_ _ _ _ _=>by
 obtain⟨p,len,cap,rfl,h2,h3,h4,h5⟩:=hr;have hlen:l.length=len:=by simpa [EN]using h2
 subst hlen;have hrun:(convert s t (.slice p l.length cap)).run P w= .ok (sv l) w:=by
  cases p with
  |none=>
   have:=h4 rfl;have:l=[]:=Asa (by omega);subst this;rw[run_convert_bytes_string w s t e none _ _ hs' he ht];rfl
  |some a=>
   refine run_convert_bytes_back w s t e a cap l hs' he ht (λj hj=>?_);obtain⟨b,off,arr,T,fr,e1,_,e2,_,e3⟩:=h5 (by omega);cases e1;rw[Mm,cell_of e2,e3 j (by omega)];simp[EN,hj,Ae7]
 simp only[execOp,hx,Aj3,hrun,Ab3,Aph]
theorem WL.s2b{x:Operand}{s t e:TypeId}{l:List UInt8}(hs':P.underlying s=some .string)(ht:P.underlying t=some (.slice e))(he:P.underlying e=some (.int .u8))(hs:St A w F L)
  (hd:Nat.blt d n=true) (hx:ev σ x=sv l) (h:∀p m c w',St A w' F (.own 1 e (.slice p m c) (EN l)::L)->WL P n ops rest K (Ub σ d (.slice p m c)) w'):
  WL P n ops (⟨some d, .convert s t x,ty,pos,after,none⟩::rest) K σ w:=by
 have hr:=run_bytes_of_string (P:=P) w s t e ⟨l.toArray⟩ hs' ht he;have hsz:(⟨l.toArray⟩:ByteArray).size=l.length:=by simp[ByteArray.size]
 have hge:l.length<=grownCap w (⟨l.toArray⟩:ByteArray).size 0 e:=by rw[hsz];simp[grownCap,Question.cut]
 generalize hcap:grownCap w (⟨l.toArray⟩:ByteArray).size 0 e=cap at hr hge;have hw:(w.drew.alloc (.cells (bytesRow ⟨l.toArray⟩ cap) e ((bytesRow ⟨l.toArray⟩ cap).size,(bytesRow ⟨l.toArray⟩ cap).size+1)))=Kc w.drew (.cells (bytesRow ⟨l.toArray⟩ cap) e ((bytesRow ⟨l.toArray⟩ cap).size,(bytesRow ⟨l.toArray⟩ cap).size+1)):=rfl;rw[hw]at hr;refine .val rfl rfl hd (v:= .slice (some ⟨w.heap.size,0,none⟩) l.length cap) (w':=Kc w.drew (.cells (bytesRow ⟨l.toArray⟩ cap) e ((bytesRow ⟨l.toArray⟩ cap).size,(bytesRow ⟨l.toArray⟩ cap).size+1))) ?_ (h _ _ _ _ (hs.Al0.D8 _ _ ⟨_,l.length,cap,rfl,by simp[EN],hge,by simp,by simp,λb hb=>?_⟩))
 ·rw[hsz]at hr;simp only[execOp,hx,Aj3,hr,Ab3,Aph]
 ·cases hb;refine⟨_,_,rfl,GZ _ _,?_, .inr (Aj0 _),λi hi=>?_⟩
  ·simp[bytesRow];omega
  ·have hi':i<l.length:=by omega
   simp only[bytesRow];rw[Array.getElem?_append_left (by simp;omega)];simp[EN,hi',Ae7]
def Mob.at_(b s:Nat)(E:TypeId)(m c:Nat)(cs:List Value):Mob where
 holds o w:=o=some b/\ (Mob.own s E (.slice (some ⟨b,0,none⟩) m c) cs).holds o w
 step h hs:=⟨h.1,(Mob.own s E _ cs).step h.2 hs⟩
theorem St.dx(hs:St A w F L){i s:Nat}{E:TypeId}{v:Value}{cs:List Value}(hL:L[i]? =some (.own s E v cs))(hne:0<cs.length):
  ∃b m c,v= .slice (some ⟨b,0,none⟩) m c/\St A w F (L.set i (.at_ b s E m c cs)):=by
 obtain⟨o,⟨p,len,cap,rfl,h2,h3,h4,h5,h6⟩,_,_⟩:=(hs.front hL).mobs;have hlen:0<len:=by
  rcases Nat.eq_zero_or_pos len with h|h
  ·rw[h,Nat.zero_mul]at h2;omega
  ·exact h
 cases o with
 |none=>have:=h5 rfl;omega
 |some b=>
  obtain⟨arr,fr,rfl,_⟩:=h6 b rfl;refine⟨b,len,cap,rfl,hs.N4 hL (λq hq=>⟨q,?_, .inl rfl⟩)⟩;refine⟨?_,hq⟩;obtain⟨_,_,_,e,_,_,_,k5,k6⟩:=hq;cases e;cases q with
  |none=>have:=k5 rfl;omega
  |some b'=>obtain⟨_,_,e,_⟩:=k6 b' rfl;cases e;rfl
theorem St.Avn(hs:St A w F L){i b s m c:Nat}{E:TypeId}{cs:List Value}(hL:L[i]? =some (.at_ b s E m c cs)):St A w F (L.set i (.own s E (.slice (some ⟨b,0,none⟩) m c) cs)):=
 hs.N4 hL (λq hq=>⟨q,hq.2, .inl rfl⟩)
theorem WL.Aj5{a x:Operand}{t E:TypeId}{s j b m c k q:Nat}{v:Value}{cs cs' vs:List Value}{L':List Mob}(hs:St A w F L)(hL:L[j]? =some (.at_ b s E m c cs))(hsz:Ic P t q)
  (ha:ev σ a= .pointer (some ⟨b,k,none⟩)) (hx:ev σ x=v) (hv:v.cells=vs.toArray) (hl:vs.length=q) (h1:vs.all (·.oneCell')=true) (hle:k+q<=cs.length)
  (hc:Bb cs k vs=cs') (hL':L.set j (.at_ b s E m c cs')=L') (h:∀w',St A w' F L'->WL P n ops rest K σ w'):
  WL P n ops (⟨none, .store t a x,ty,pos,after,none⟩::rest) K σ w:=by
 obtain⟨o,ho,_,_⟩:=(hs.front hL).mobs;obtain⟨rfl,ho⟩:=ho;have ho':=ho;obtain⟨_,len,cap,e,h3,h4,h5,h5',h6⟩:=ho;cases e;obtain⟨arr,fr,e,hb,hsz',hfz,hcells⟩:=h6 b rfl;have hcl:cs.length<=arr.size:=by rw[h3,hsz'];exact Ab4 _ h4
 have hr:=Gs (P:=P) b E fr vs k 0 arr.toList w (by simpa using hb) (by simp;omega) (by simp;rcases hfz with h|h;exact .inr (.inr (Nat.le_of_eq h.symm));exact .inr (.inl h)) (λv hv=>by simpa using List.all_eq_true.1 h1 v hv);simp only[Aw6]at hr;have hbl:=lt_of_heap hb;have hcs':cs'.length=cs.length:=by rw[<-hc];exact Fo (by omega)
 have hget:∀i,i<m*s-> (Bb arr.toList k vs)[i]? =cs'[i]? :=λi hi=>by
  rw[<-hc];have An7:min k arr.toList.length=k:=by simp;omega
  have An8:min k cs.length=k:=by omega
  simp only[Bb,List.getElem?_append,Afw,An7,An8,List.getElem?_take,List.getElem?_drop];by_cases h1:i<k
  ·rw[Abb h1,Abb h1,Abb h1,Abb h1];simpa using hcells i hi
  ·rw[Aba h1,Aba h1];by_cases h2:i-k<vs.length
   ·rw[Abb h2,Abb h2]
   ·rw[Aba h2,Aba h2];have e1:k+vs.length+(i-k-vs.length)=i:=by omega
    rw[e1];simpa using hcells i hi
 refine .unit rfl rfl (w':=Ft w b (.cells (Bb arr.toList k vs).toArray E fr)) ?_ (h _ (hL'▸hs.fS hL (b:=b) ⟨rfl,ho'⟩ ⟨rfl,_,m,c,rfl,by rw[hcs',h3],h4,h5,h5',λb' hb'=>?_⟩ ?_))
 ·simp[execOp,ha,hx,Instr.storeAt,Instr.sureAddr,storeVar,Bk hsz,hv,hl,hr]
 ·cases hb';refine⟨(Bb arr.toList k vs).toArray,fr,rfl,by simp[Ft,hbl],?_,?_,λi hi=>?_⟩
  ·simp only[Avl];rw[Fo (by simp;omega)];simpa using hsz'
  ·simp only[Avl];rw[Fo (by simp;omega)];simpa using hfz
  ·simpa using hget i hi
 ·rintro⟨q,hq,q1,q2⟩;exact⟨q,hq,q1,q2,hq.1⟩
theorem zK(zs:List Value)(s:Nat)(hz:zs.length=s)(hp:0<s):∀(m i:Nat),i<m*s-> ((List.replicate m zs).flatten)[i]? =zs[i %s]?
 |0,i,h=>by simp at h
 |m+1,i,h=>by
  rw[Avq,Ay0,List.getElem?_append];by_cases hi:i<zs.length
  ·rw[Abb hi,Abk (by omega)]
  ·rw[Aba hi,hz,zK zs s hz hp m (i-s) (by rw[Aza]at h;omega)];congr 1
   conv=>rhs;rw[show i=(i-s)+s by omega,Azl]
theorem WL.makeSlice{t e:TypeId}{lo co:Operand}{s m:Nat}{z:Value}{zs:List Value}(ht:P.underlying t=some (.slice e))(he:ElemOk P e s)(hz:∃i,P.info? e=some i/\i.zero=some z)(hzs:z.cells=zs.toArray)(hs:St A w F L)
  (hd:Nat.blt d n=true) (hl:ev σ lo=iv (m:Int)) (hc:ev σ co=iv (m:Int)) (hlim:m<=ko) (h:∀p l c w',St A w' F (.own s e (.slice p l c) ((List.replicate m zs).flatten)::L)->WL P n ops rest K (Ub σ d (.slice p l c)) w'):
  WL P n ops (⟨some d, .makeSlice t lo co,ty,pos,after,none⟩::rest) K σ w:=by
 obtain⟨ti,hi,hz⟩:=hz;obtain⟨ti',z',hi',hsz,hz',hzz,hby⟩:=he.ok;rw[hi]at hi';cases hi';rw[hz]at hz';cases hz';have hzl:zs.length=s:=by have:=congrArg Array.size hzs;simp at this;omega
 have An5:ko=17179869184:=rfl;rw[An5]at hlim;have hmb:m*ti.bytes<=70368744177664:=by have:=Azg hlim hby;omega
 have hw:IntKind.i64.wrap (m:Int)=m:=by
  have:=Bp (n:=(m:Int)) (by omega) (by omega);exact this
 have hcells:∀z0:Array Value,(z0=zs.toArray\/m*s=0)-> ((Array.range (m*s)).map λx=>z0[x %z0.size]!)=((List.replicate m zs).flatten).toArray:=by
  intro z0 h0;apply Array.ext';apply List.ext_getElem?;intro i;simp only[Array.toList_map,Array.toList_range,List.getElem?_map];by_cases hi:i<m*s
  ·rcases h0 with rfl|h0
   ·rw[zK zs s hzl he.pos m i hi,List.getElem?_range hi];have:i %s<zs.length:=by rw[hzl];exact Aw3 _ he.pos
    rw[List.getElem?_eq_getElem this];simp[hzl,List.getElem?_eq_getElem this]
   ·omega
  ·have e1:((List.replicate m zs).flatten).length=m*s:=by simp[hzl]
   rw[List.getElem?_eq_none (by simpa using hi),List.getElem?_eq_none (by rw[e1];omega)];rfl
 have e1:((List.replicate m zs).flatten).length=m*s:=by simp[hzl]
 have hzv:(zeroValue e).run P w= .ok z w:=by simp[zeroValue,typeInfo,hi,hz]
 have hsz':=Bk (P:=P) he.size w;have hti:(typeInfo e).run P w= .ok ti w:=by simp[typeInfo,hi]
 have Ax7:∀b:Nat,(askRoom b).run P w= .ok () w:=λb=>by unfold askRoom;split<;>rfl
 have hrun:(newRow e ((List.replicate m zs).flatten).toArray).run P w= .ok ⟨w.heap.size,0,none⟩ (Kc w (.cells ((List.replicate m zs).flatten).toArray e)):=rfl;refine .val rfl rfl hd (v:= .slice (some ⟨w.heap.size,0,none⟩) m m) (w':=Kc w (.cells ((List.replicate m zs).flatten).toArray e)) ?_ (h _ _ _ _ (hs.D8 _ _ ⟨_,m,m,rfl,e1,Aj0 _,by simp,by simp,λb hb=>?_⟩))
 ·have c1:(decide ((m:Int)<0)||decide ((ti.bytes:Int)*m>2^48))=false:=by
   have h3:(ti.bytes:Int)*m<=70368744177664:=by
    have h:=Int.ofNat_le.2 hmb;rw[Awx,Int.mul_comm]at h;exact h
   have h4:¬((m:Int)<0):=by omega
   have h5:¬((ti.bytes:Int)*m>2^48):=by
    have:(2:Int)^48=281474976710656:=rfl;rw[this];omega
   rw[Ay4 h4,Ay4 h5];rfl
  simp only[execOp,Instr.makeSlice,hl,hc,iv,GI.toZ,Aj3,Afc ht,Ab3,asInt,asIntOf,Aph,hti,hw,c1];simp only[Bool.false_or,Bool.not_false,Aze,Ao4,Axj];rw[Aba (by simp)];simp only[Aj3,Ax7,Ab3,hsz',Aiq];split
  ·rename_i h0;simp only[Aj3,Aph,Ab3,hcells #[] (.inr h0),hrun]
  ·simp only[Aj3,Aph,hzv,Ab3,hzs,hcells zs.toArray (.inl rfl),hrun]
 ·cases hb;exact⟨_,(0,0),rfl,GZ _ _,by simpa using e1, .inl rfl,λi hi=>by simp⟩
end Go.Lv
namespace Go.Lv
variable {P:Program} {n:Nat} {ops:Array Oper} {σ:Env} {w:World}
section
variable {Q:Exit->Act->World->Prop} {md:Region.Mode} {S:World->Prop} {T:Nat->Bool}
def ZT(P:Program)(md:Region.Mode)(ops:Array Oper)(Q:Exit->Act->World->Prop)(S:World->Prop)(T:Nat->Bool):Nat->Array Bool->Act->World->Prop
 |0,listed,a,w=>Region.ready md ops listed=[]/\Q .normal a w
 |fuel+1,listed,a,w=>
  (Region.ready md ops listed=[]->Q .normal a w)/\
  ∀i∈Region.ready md ops listed,wpOp P ops Q i (λa' w'=>(T i=true->S w')/\ZT P md ops Q S T fuel (listed.setIfInBounds i true) a' w') a w
theorem xN:∀(fuel:Nat) (listed:Array Bool) (a:Act) (w:World),ZT P md ops Q S T fuel listed a w->wpAny P md ops Q fuel listed a w
 |0,_,_,_,h=>h
 |fuel+1,_,_,_,h=>⟨h.1,λi hi=>wpOp_mono (λa' w' h'=>xN fuel _ a' w' h'.2) (h.2 i hi)⟩
def Aub(md:Region.Mode)(ops:Array Oper)(listed:Array Bool)(i j:Nat)(acc:List Nat):Bool:=
 !(listed.getD j true)&&(!(Nat.beq j i)&&(match ops[j]? with
  |some oj=>oj.after.any λe=>Region.binds md e&&(Nat.beq e.on i||acc.any (Nat.beq e.on))
  |none=>false))
def Ams(md:Region.Mode)(ops:Array Oper)(listed:Array Bool)(i:Nat)(k:List Nat->Bool):List Nat->List Nat->Bool
 |[],acc=>k acc
 |j::js,acc=>bif Aub md ops listed i j acc then Ams md ops listed i k js (j::acc)else Ams md ops listed i k js acc
def Blk(md:Region.Mode)(ops:Array Oper)(listed:Array Bool)(i:Nat)(B:List Nat):Prop:=
 ∀j∈B,listed.getD j true=false/\∃oj,ops[j]? =some oj/\∃e∈oj.after,Region.binds md e=true/\ (e.on=i\/e.on∈B)
theorem gq{listed:Array Bool}{i:Nat}{k:List Nat->Bool}:∀(js acc:List Nat),Blk md ops listed i acc->Ams md ops listed i k js acc=true->∃B,Blk md ops listed i B/\k B=true
 |[],acc,h,hk=>⟨acc,h,hk⟩
 |j::js,acc,h,hk=>by
  unfold Ams at hk;cases hc:Aub md ops listed i j acc with
  |false=>rw[hc]at hk;exact gq js acc h hk
  |true=>
   rw[hc]at hk;refine gq js _ ?_ hk;unfold Aub at hc;simp only[Abz,Au3]at hc;obtain⟨h1,h2,h3⟩:=hc;intro m hm;have hmon:∀{e:Edge},(e.on=i\/e.on∈acc)-> (e.on=i\/e.on∈j::acc):=λh=>h.imp id (λh=>Aj2 _ h);rcases List.mem_cons.1 hm with rfl|hm
   ·refine⟨h1,?_⟩;cases ho:ops[m]? with
    |none=>rw[ho]at h3;cases h3
    |some oj=>
     rw[ho]at h3;obtain⟨e,he,hb⟩:=Array.any_eq_true'.1 h3;simp only[Abz,Awf,List.any_eq_true]at hb;refine⟨oj,rfl,e,he,hb.1,hmon (hb.2.imp Ast ?_)⟩;rintro⟨y,hy,he⟩;rw[Ast he];exact hy
   ·obtain⟨h4,oj,h5,e,he,hb,hx⟩:=h m hm;exact⟨h4,oj,h5,e,he,hb,hmon hx⟩
theorem Blk.Ajp{listed:Array Bool}{i j:Nat}{B:List Nat}(h:Blk md ops listed i B)(hi:listed.getD i true=false)(hj:j∈Region.ready md ops listed):j∉B:=λhm=>by
 obtain⟨hjun,oj,hoj,hall⟩:=mem_ready.1 hj;obtain⟨_,oj',hoj',e,he,hb,hx⟩:=h j hm;rw[hoj]at hoj';cases hoj';have h0:listed.getD e.on true=false:=by
  rcases hx with hx|hx
  ·rw[hx];exact hi
  ·exact(h _ hx).1
 have h1:=hall e he hb;rcases Ay8 e.on listed.size with h'|h'
 ·simp[h']at h0 h1;rw[h0]at h1;cases h1
 ·simp[Array.getElem?_eq_none h']at h1
theorem rF{i:Nat}{oi:Oper}{v:Value}{B:List Nat}(hi:ops[i]? =some oi)(hsel:∀(j:Nat) (o:Oper) cs b,ops[j]? =some o->o.op≠ .select cs b)
  (hQ:∀c a w,Q (.panic c) (a.put oi.dst v) w->Q (.panic c) a w):
  ∀(fuel:Nat) (listed:Array Bool) (a:Act) (w:World),Blk md ops listed i B->
   (∀j,j<ops.size->T j=false->j≠i->listed.getD j true=false->j∈B)->
   (∀j oj,ops[j]? =some oj->j≠i->listed.getD j true=false->j∉B->oi.apart ops oj=true)->
   i∈Region.ready md ops listed->YieldsIf P ops S oi v a->S w->
   ZT P md ops Q S T fuel (listed.setIfInBounds i true) (a.put oi.dst v) w->ZT P md ops Q S T (fuel+1) listed a w:=by
 intro fuel
 induction fuel with
 |zero=>
  intro listed a w _ _ _ hr hy hS H;refine⟨λh=>(by rw[h]at hr;cases hr),λj hj=>?_⟩;by_cases hji:j=i
  ·subst hji;exact hy.wpOp hi hS ⟨λ_=>hS,H⟩
  ·have:=ready_mono hj hji;rw[H.1]at this;cases this
 |succ fuel ih=>
  intro listed a w hblk hT hfree hr hy hS H;refine⟨λh=>(by rw[h]at hr;cases hr),λj hj=>?_⟩;by_cases hji:j=i
  ·subst hji;exact hy.wpOp hi hS ⟨λ_=>hS,H⟩
  ·have h1:=H.2 j (ready_mono hj hji);obtain⟨hjun,oj,hoj,hall⟩:=mem_ready.1 hj;have hjB:=hblk.Ajp (mem_ready.1 hr).1 hj;have hjT:T j=true:=by
    cases h:T j with
    |true=>rfl
    |false=>exact absurd (hT j (Array.getElem?_eq_some_iff.1 hoj).1 h hji hjun) hjB
   have h2:=wpOp_putIf hoj (hfree j oj hoj hji hjun hjB) (λcs b=>hsel i oi cs b hi) (λcs b=>hsel j oj cs b hoj) hQ hy h1;have hmono:∀k,(listed.setIfInBounds j true).getD k true=false->listed.getD k true=false:=λk hun=>by
    by_cases hjk:j=k
    ·subst hjk;exact hjun
    ·rw[getD_set_ne true hjk]at hun;exact hun
   have hblk':Blk md ops (listed.setIfInBounds j true) i B:=λk hk=>by
    refine⟨?_,(hblk k hk).2⟩;have hjk:j≠k:=λh=>hjB (by rw[h];exact hk);rw[getD_set_ne true hjk];exact(hblk k hk).1
   refine wpOp_mono (λa' w' h3=>⟨h3.2.1,ih (listed.setIfInBounds j true) a' w' hblk' (λk hk h hki hun=>hT k hk h hki (hmono k hun)) (λk ok hk hki hun hno=>hfree k ok hk hki (hmono k hun) hno) (ready_mono hr (Az4 hji)) h3.1 (h3.2.1 hjT) ?_⟩) h2;rw[Array.setIfInBounds_comm _ _ hji];exact h3.2.2
def jq(ops:Array Oper)(T:Nat->Bool)(listed:Array Bool)(i:Nat)(oi:Oper)(B:List Nat):Bool:=
 (List.range ops.size).all λj=>listed.getD j true||(Nat.beq j i||(B.any (Nat.beq j)||(T j&&match ops[j]? with
  |some oj=>oi.apart ops oj
  |none=>true)))
theorem TR{listed:Array Bool}{i:Nat}{oi:Oper}{B:List Nat}(h:jq ops T listed i oi B=true):
  (∀j,j<ops.size->T j=false->j≠i->listed.getD j true=false->j∈B)/\
  (∀j oj,ops[j]? =some oj->j≠i->listed.getD j true=false->j∉B->oi.apart ops oj=true):=by
 unfold jq at h;simp only[List.all_eq_true,List.mem_range,Awf,Abz,List.any_eq_true]at h;refine⟨λj hj hT hji hun=>?_,λj oj hoj hji hun hno=>?_⟩
 ·rcases h j hj with h1|h1|⟨y,hy,h1⟩|h1
  ·rw[hun]at h1;cases h1
  ·exact absurd (Ast h1) hji
  ·rw[Ast h1];exact hy
  ·have h2:=h1.1;rw[hT]at h2;cases h2
 ·rcases h j (Array.getElem?_eq_some_iff.1 hoj).1 with h1|h1|⟨y,hy,h1⟩|h1
  ·rw[hun]at h1;cases h1
  ·exact absurd (Ast h1) hji
  ·exact absurd (by rw[Ast h1];exact hy) hno
  ·have h2:=h1.2;rw[hoj]at h2;exact h2
end
def WD(P:Program)(n:Nat)(ops:Array Oper)(S:World->Prop)(T:Nat->Bool)(fuel:Nat)(listed:Array Bool)(K:Env->World->Prop)(σ:Env)(w:World):Prop:=
 ∀(ds:List Deferred) (a:Act),Fits ds n a σ->ZT P .any ops (λe a' w'=>e=Exit.normal/\∃σ',Fits ds n a' σ'/\K σ' w') S T fuel listed a w
variable {Q:Exit->Env->World->Prop} {K:Env->World->Prop} {S:World->Prop} {T:Nat->Bool} {fuel:Nat} {listed:Array Bool}
theorem W.Aqq{id:Nat}(hd:mF ops.toList=true)(hm:P.follows .mixedOrders=true)(S:World->Prop)(T:Nat->Bool)
  (h:∀w',w'.heap=w.heap->Gr w w'->WD P n ops S T ops.size (Array.replicate ops.size false) (λσ' w'=>Q .normal σ' w') σ w'):W P n (.region id ops true) Q σ w:=by
 intro ro m ds a ha;refine Ayn (wpIn_region_any hm (qg (Z:=λa' w'=>∃σ',Fits ds n a' σ'/\Q .normal σ' w') (xK hd) (xN (S:=S) (T:=T) _ _ _ _ (h {w with drawn:=w.drawn+1} rfl ⟨Aj0 _,rfl,rfl,rfl⟩ ds a ha)))) ?_;rintro e a' w' ⟨rfl,h⟩;exact h
def AK(ops:Array Oper)(T:Nat->Bool)(listed:Array Bool)(i:Nat):Bool:=
 Region.noSelect ops&&((Region.ready .any ops listed).contains i&&match ops[i]? with
  |some oi=>Ams .any ops listed i (jq ops T listed i oi) (List.range ops.size) []
  |none=>false)
theorem E3{i:Nat}{oi:Oper}(hi:ops[i]? =some oi)(hB:AK ops T listed i=true):∃B,Blk .any ops listed i B/\jq ops T listed i oi B=true:=by
 simp only[AK,Abz,hi]at hB;exact gq _ _ (λj hj=>by cases hj) hB.2.2
theorem WD.take{o:Oper}{d:Nat}{v:Value}(i:Nat)(hi:ops[i]? =some o)(hB:AK ops T listed i=true)(hd:o.dst=some d)(hdn:Nat.blt d n=true)(hg:o.guard=none)
  (hS:S w) (hx:∀w',S w'-> (execOp (ev σ) o).run P w'= .ok (.value v) w') (h:WD P n ops S T fuel (listed.setIfInBounds i true) K (Ub σ d v) w):WD P n ops S T (fuel+1) listed K σ w:=by
 intro ds a ha;obtain⟨B,hblk,hcl⟩:=E3 hi hB;simp only[AK,Abz]at hB;refine rF (v:=v) hi (Region.noSelect_spec hB.1) (λc a w h=>absurd h.1 (by simp)) fuel listed a w hblk (TR hcl).1 (TR hcl).2 (by simpa using hB.2.1) (.inl ⟨by simp[Region.wanted,hg],λw' hw'=>by rw[ha.eval];exact hx w' hw'⟩) hS ?_;rw[hd];exact h _ _ (ha.put hdn v)
theorem WD.x{op:Op}{d:Nat}{ty:TypeId}{pos:String}{after:Array Edge}{v:Value}(i:Nat)(hi:ops[i]? =some ⟨some d,op,ty,pos,after,none⟩)(hB:AK ops T listed i=true)(hdn:Nat.blt d n=true)
  (hS:S w) (hx:∀w',S w'->XO P σ w' op v) (h:WD P n ops S T fuel (listed.setIfInBounds i true) K (Ub σ d v) w):WD P n ops S T (fuel+1) listed K σ w:=
 WD.take i hi hB rfl hdn rfl hS (λw' hw'=>hx w' hw' _ _ _ _ _) h
theorem WD.gx{op:Op}{d j t:Nat}{ty:TypeId}{pos:String}{after:Array Edge}{v:Value}{want b:Bool}(i:Nat)(hi:ops[i]? =some ⟨some d,op,ty,pos,after,some (j,want)⟩)(hB:AK ops T listed i=true)(hdn:Nat.blt d n=true)
  (hj:(ops[j]?).bind (·.dst)=some t) (hb:σ t= .bool b) (hS:S w) (hx:(b==want)=true->∀w',S w'->XO P σ w' op v)
  (h:WD P n ops S T fuel (listed.setIfInBounds i true) K (Ub σ d (gv b want v)) w):WD P n ops S T (fuel+1) listed K σ w:=by
 intro ds a ha;obtain⟨B,hblk,hcl⟩:=E3 hi hB;simp only[AK,Abz]at hB;refine rF (v:=gv b want v) hi (Region.noSelect_spec hB.1) (λc a w h=>absurd h.1 (by simp)) fuel listed a w hblk (TR hcl).1 (TR hcl).2 (by simpa using hB.2.1) ?_ hS (h _ _ (ha.put hdn _));by_cases hbw:(b==want)=true
 ·refine .inl ⟨?_,λw' hw'=>?_⟩
  ·simp only[Region.wanted,SA ha hj hb];cases b<;>cases want<;>simp_all
  ·rw[xZ hbw,ha.eval];exact hx hbw w' hw' _ _ _ _ _
 ·refine .inr ⟨?_,?_⟩
  ·simp only[Region.wanted,SA ha hj hb];cases b<;>cases want<;>simp_all
  ·unfold gv;rw[Aba hbw]
theorem WD.step(i:Nat){o:Oper}(hi:ops[i]? =some o)(hr:Region.ready .any ops listed=[i])
  (h:WL P n ops [o] (λσ' w'=>(T i=true->S w')/\WD P n ops S T fuel (listed.setIfInBounds i true) K σ' w') σ w):WD P n ops S T (fuel+1) listed K σ w:=by
 intro ds a ha;refine⟨λh0=>absurd (hr▸h0) (by simp),λj hj=>?_⟩;rw[hr]at hj;have hji:j=i:=by simpa using hj
 subst hji;have h1:=h ds a ha;simp only[wpList]at h1;unfold wpOp;simp only[hi];split
 ·rename_i hw;rw[Abb hw]at h1;rcases h1 with h1|⟨_,_,_,hh,_⟩
  ·exact .inl (Oper.Acr h1 (λa' w' h=>by obtain⟨_,σ',hf,h2,h3⟩:=h;exact⟨h2,h3 ds a' hf⟩))
  ·exact absurd hh (by simp)
 ·rename_i hw;rw[Aba hw]at h1;obtain⟨_,σ',hf,h2,h3⟩:=h1;exact⟨h2,h3 _ _ hf⟩
theorem WD.done(hr:Region.ready .any ops listed=[])(h:K σ w):WD P n ops S T fuel listed K σ w:=by
 intro ds a ha;cases fuel with
 |zero=>exact⟨hr,rfl,σ,ha,h⟩
 |succ f=>exact⟨λ_=>⟨rfl,σ,ha,h⟩,by rw[hr];intro i hi;cases hi⟩
theorem lQ{md:Region.Mode}{Q:Exit->Act->World->Prop}{S S':World->Prop}{T:Nat->Bool}(h:∀w,S' w->S w):∀(fuel:Nat) (listed:Array Bool) (a:Act) (w:World),ZT P md ops Q S' T fuel listed a w->ZT P md ops Q S T fuel listed a w
 |0,_,_,_,h1=>h1
 |fuel+1,_,_,_,h1=>⟨h1.1,λi hi=>wpOp_mono (λa' w' h'=>⟨λht=>h _ (h'.1 ht),lQ h fuel _ a' w' h'.2⟩) (h1.2 i hi)⟩
theorem WD.steps{is:List Nat}(hr:Region.ready .any ops listed=is)(hne:is.isEmpty=false)
  (h:∀i∈is,∃o,ops[i]? =some o/\WL P n ops [o] (λσ' w'=>(T i=true->S w')/\WD P n ops S T fuel (listed.setIfInBounds i true) K σ' w') σ w):WD P n ops S T (fuel+1) listed K σ w:=by
 intro ds a ha;refine⟨λh0=>absurd (hr▸h0) (by intro h;rw[h]at hne;cases hne),λj hj=>?_⟩;rw[hr]at hj;obtain⟨o,hi,h⟩:=h j hj;have h1:=h ds a ha;simp only[wpList]at h1;unfold wpOp;simp only[hi];split
 ·rename_i hw;rw[Abb hw]at h1;rcases h1 with h1|⟨_,_,_,hh,_⟩
  ·exact .inl (Oper.Acr h1 (λa' w' h=>by obtain⟨_,σ',hf,h2,h3⟩:=h;exact⟨h2,h3 ds a' hf⟩))
  ·exact absurd hh (by simp)
 ·rename_i hw;rw[Aba hw]at h1;obtain⟨_,σ',hf,h2,h3⟩:=h1;exact⟨h2,h3 _ _ hf⟩
theorem vE{md:Region.Mode}{Q:Exit->Act->World->Prop}{S S':World->Prop}{T T':Nat->Bool}:∀(fuel:Nat) (listed:Array Bool) (a:Act) (w:World),(∀i,listed.getD i true=false->T i=false)->ZT P md ops Q S' T' fuel listed a w->ZT P md ops Q S T fuel listed a w
 |0,_,_,_,_,h=>h
 |fuel+1,listed,a,w,h1,h=>⟨h.1,λi hi=>wpOp_mono (λa' w' h'=>⟨λhlt=>absurd (h1 i (mem_ready.1 hi).1) (by rw[hlt];decide),vE fuel _ a' w' (λj hj=>h1 j (by
   by_cases hji:j=i
   ·subst hji;exact(mem_ready.1 hi).1
   ·rw[getD_set_ne true (Az4 hji)]at hj;exact hj)) h'.2⟩) (h.2 i hi)⟩
def QX(T:Nat->Bool)(listed:Array Bool):Bool:=(List.range listed.size).all λi=>!T i||listed.getD i false
theorem WD.next{S':World->Prop}(T':Nat->Bool)(hB:QX T listed=true)(h:WD P n ops S' T' fuel listed K σ w):WD P n ops S T fuel listed K σ w:=by
 intro ds a ha;refine vE (S':=S') (T':=T') fuel listed a w (λi hi=>?_) (h ds a ha);simp only[QX,List.all_eq_true,List.mem_range,Awf]at hB;rcases Ay8 i listed.size with h'|h'
 ·rcases hB i h' with h2|h2
  ·simpa using h2
  ·rw[Array.getD_eq_getD_getElem?]at hi h2;simp[h']at hi h2;rw[h2]at hi;cases hi
 ·rw[Array.getD_eq_getD_getElem?,Array.getElem?_eq_none h']at hi;simp at hi
theorem WD.zR{S':World->Prop}(h:∀w,S' w->S w)(h1:WD P n ops S' T fuel listed K σ w):WD P n ops S T fuel listed K σ w:=
 λds a ha=>lQ h fuel listed a w (h1 ds a ha)
end Go.Lv
namespace Go.Lv
variable {P:Program} {n:Nat} {ops:Array Oper} {rest:List Oper} {K:Env->World->Prop} {Q:Exit->Env->World->Prop} {σ:Env} {w:World}
variable {d:Nat} {ty:TypeId} {pos:String} {after:Array Edge} {A:Reg} {F:List Fact} {L:List Mob}
theorem bind_some{α β:Type}{o:Option α}{f:α->Option β}{y:β}(h:Option.bind o f=some y):∃x,o=some x/\f x=some y:=by
 cases o with
 |none=>cases h
 |some x=>exact⟨x,rfl,h⟩
theorem Iz{α:Type}{l:List α}{i:Int}{x:α}(h:Aj l i=some x):i=(i.toNat:Int)/\i.toNat<l.length/\l[i.toNat]? =some x:=by
 unfold Aj at h;split at h
 ·exact⟨by omega,(List.getElem?_eq_some_iff.1 h).1,h⟩
 ·cases h
theorem XG{α:Type}{l l':List α}{i:Int}{x:α}(h:Je l i x=some l'):i=(i.toNat:Int)/\i.toNat<l.length/\l'=l.set i.toNat x:=by
 unfold Je at h;split at h
 ·cases h;exact⟨by omega,by omega,rfl⟩
 ·cases h
theorem OB{α:Type}{l x:List α}{lo hi:Int}(h:Bw l lo hi=some x):lo=(lo.toNat:Int)/\hi=(hi.toNat:Int)/\lo.toNat<=hi.toNat/\hi.toNat<=l.length/\x=(l.take hi.toNat).drop lo.toNat:=by
 unfold Bw at h;split at h
 ·cases h;exact⟨by omega,by omega,by omega,by omega,rfl⟩
 ·cases h
theorem M1{α:Type}{l m x:List α}(h:Db l m=some x):l.length+m.length<=ko/\x=l++m:=by
 unfold Db at h;split at h
 ·cases h;exact⟨by assumption,rfl⟩
 ·cases h
theorem xg{α:Type}{i:Int}{z:α}{x:List α}(h:mkI i z=some x):i=(i.toNat:Int)/\i.toNat<=ko/\x=List.replicate i.toNat z:=by
 unfold mkI at h;split at h
 ·rename_i hi;cases h;exact⟨by omega,by omega,rfl⟩
 ·cases h
theorem Xx{b:Bool}{u:Unit}(h:Ik b=some u):b=true:=by
 unfold Ik at h;split at h
 ·assumption
 ·cases h
theorem St.noF(hs:St A w F L):St A w [] L:=⟨hs.lt,(λ_ h=>by cases h),hs.mobs⟩
theorem St.as(hs:St A w F L){F':List Fact}{L':List Mob}(hF:F=F')(hL:L=L'):St A w F' L':=hF▸hL▸hs
section
variable {T:Type} {k:IntKind} [GI T k]
theorem Apq(l:List T):(EN l).all (·.oneCell')=true:=by simp[EN,Value.oneCell']
end
theorem Rd.any{R:Reg}{s:Nat}{v:Value}{cs:List Value}(h:Rd R w s v cs):Rd (λ_=>True) w s v cs:=h.step (λ_ _=>trivial) (λ_ _=>rfl)
end Go.Lv
namespace Go.Lv
variable {P:Program} {n:Nat} {ops:Array Oper} {rest:List Oper} {K:Env->World->Prop} {Q:Exit->Env->World->Prop} {σ:Env} {w:World}
variable {d:Nat} {ty:TypeId} {pos:String} {after:Array Edge} {A:Reg} {F:List Fact} {L:List Mob}
theorem Ic.mk{t:TypeId}{s:Nat}(h:(P.info? t).map (·.size)=some s):Ic P t s:=by
 cases hu:P.info? t with
 |none=>rw[hu]at h;cases h
 |some u=>rw[hu]at h;exact⟨u,hu,by simpa using h⟩
theorem Ax9.mk{t:TypeId}{z:Value}(h:(P.info? t).bind (·.zero)=some z):∃i,P.info? t=some i/\i.zero=some z:=by
 cases hu:P.info? t with
 |none=>rw[hu]at h;cases h
 |some u=>rw[hu]at h;exact⟨u,rfl,h⟩
def fieldInfo(P:Program)(t:TypeId)(f:Nat):Option (Nat×Nat):=
 match P.underlying t with
 |some (.struct fs)=>(fs[f]?).bind λfd=>(P.info? fd.type).map λi=>(fd.offset,i.size)
 |_=>none
theorem kI.mk{t:TypeId}{f k s:Nat}(h:fieldInfo P t f=some (k,s))(hs:s≠0):kI P t f k:=by
 unfold fieldInfo at h;split at h
 ·rename_i fs hu;cases hf:fs[f]? with
  |none=>rw[hf]at h;cases h
  |some fd=>
   rw[hf]at h;simp at h;obtain⟨i,hi,h1,h2⟩:=h;exact⟨fs,fd,i,hu,hf,h1,hi,by omega⟩
 ·cases h
theorem UA.cell{a:Tmp}{t T:TypeId}{i b off:Nat}{cells:List Value}{v:Value}(hs:St A w F L)(hL:L[i]? =some (.box b cells T))(ht:Plain P t)
  (hx:σ a= .pointer (some ⟨b,off,none⟩)) (hv:cells[off]? =some v):UA P σ w (.cell a t) v:=by
 obtain⟨u,hu,hp⟩:=ht;have hc:w.cell? ⟨b,off,none⟩=some v:=by rw[cell_of (hs.box hL)];simpa using hv
 exact⟨_,hx,by simp only[loadVar,Aj3,Ev hu hp,Ab3,Ao4,Axj,HU hc]⟩
theorem UA.cells{a:Tmp}{t T:TypeId}{i b off s:Nat}{cells vs:List Value}(hs:St A w F L)(hL:L[i]? =some (.box b cells T))(ht:As6 P t)(hsz:Ic P t s)
  (hx:σ a= .pointer (some ⟨b,off,none⟩)) (hv:(cells.drop off).take s=vs) (hl:vs.length=s):UA P σ w (.cell a t) (.agg vs.toArray):=by
 obtain⟨u,hu,hp⟩:=ht;have hc:=Lh (P:=P) (w:=w) (b:=b) (off:=off) vs (λj hj=>by
  rw[cell_of (hs.box hL)];subst hv;rw[Afw]at hj;simp[List.getElem?_take,List.getElem?_drop];omega)
 rw[hl]at hc;exact⟨_,hx,by simp only[loadVar,Aj3,Ev hu hp,Ab3,Az3,Bk hsz,hc,Aph]⟩
theorem St.Amh(hs:St A w F L){w':World}(h:w'.heap=w.heap)(hg:Gr w w'):St A w' F L:=
 hs.keep ⟨λb _=>by rw[h],hg⟩
theorem Acp{b want:Bool}{v:Value}(h:(b==want)=false):gv b want v=undef:=by unfold gv;rw[Aba (by rw[h];decide)]
theorem wrap_u8{n:Int}(h:0<=n)(h':n<256):IntKind.u8.wrap n=n:=by
 simp only[IntKind.wrap,IntKind.bits,IntKind.signed,Azs,Ao4,Axj];exact Int.emod_eq_of_lt h h'
theorem wrap_u32{n:Int}(h:0<=n)(h':n<4294967296):IntKind.u32.wrap n=n:=by
 simp only[IntKind.wrap,IntKind.bits,IntKind.signed,Azs,Ao4,Axj];exact Int.emod_eq_of_lt h h'
theorem wrap_u64{n:Int}(h:0<=n)(h':n<18446744073709551616):IntKind.u64.wrap n=n:=by
 simp only[IntKind.wrap,IntKind.bits,IntKind.signed,Azs,Ao4,Axj];exact Int.emod_eq_of_lt h h'
theorem Bin.Arz{t:TypeId}(a b:Int)(h:GI.toZ b≠0):Jq P .rem t (iv a) (iv b) (iv (Gc a b)):=λ_ _ w=>by
 have h':b≠0:=h;simp[eqGuard,binOp,Op.intDiv,Gc,iv,GI.toZ,h']
theorem iw{a b:Int}{m:Int}(ha:0<=a)(h:a<m):0<=a.tmod b/\a.tmod b<m:=by
 have h1:=Int.tmod_nonneg b ha;have h2:=Int.natAbs_tmod a b;have h3:=Nat.mod_le a.natAbs b.natAbs;omega
theorem Bin.Atx{t:TypeId}(a b:UInt8)(h:GI.toZ b≠0):Jq P .rem t (iv a) (iv b) (iv (AR a b)):=λ_ _ w=>by
 have h1:(0:Int)<=GI.toZ a:=Ay6 _;have h2:(GI.toZ a:Int)<256:=by have:=a.toNat_lt;show((a.toNat:Nat):Int)<256;omega
 obtain⟨h3,h4⟩:=iw (b:=GI.toZ b) h1 h2;simp[eqGuard,binOp,Op.intDiv,AR,<-Pb,h,wrap_u8 h3 h4]
theorem Bin.Aq3{t:TypeId}(a b:UInt32)(h:GI.toZ b≠0):Jq P .rem t (iv a) (iv b) (iv (AR a b)):=λ_ _ w=>by
 have h1:(0:Int)<=GI.toZ a:=Ay6 _;have h2:(GI.toZ a:Int)<4294967296:=by have:=a.toNat_lt;show((a.toNat:Nat):Int)<4294967296;omega
 obtain⟨h3,h4⟩:=iw (b:=GI.toZ b) h1 h2;simp[eqGuard,binOp,Op.intDiv,AR,<-Pb,h,wrap_u32 h3 h4]
theorem Bin.Aol{t:TypeId}(a b:UInt64)(h:GI.toZ b≠0):Jq P .rem t (iv a) (iv b) (iv (AR a b)):=λ_ _ w=>by
 have h1:(0:Int)<=GI.toZ a:=Ay6 _;have h2:(GI.toZ a:Int)<18446744073709551616:=by have:=a.toNat_lt;show((a.toNat:Nat):Int)<18446744073709551616;omega
 obtain⟨h3,h4⟩:=iw (b:=GI.toZ b) h1 h2;simp[eqGuard,binOp,Op.intDiv,AR,<-Pb,h,wrap_u64 h3 h4]
section
variable {T':Type} {k':IntKind} [GI T' k']
theorem Bin.Apg{t:TypeId}(a:Int)(b:T')(h:0<=GI.toZ b):Jq P .shr t (iv a) (iv b) (iv (Y4 a (GI.toZ b).toNat)):=λ_ _ w=>by
 have:¬GI.toZ b<0:=by omega
 simp[eqGuard,binOp,Op.shift,Y4,iv,GI.toZ,this,IntKind.bits]
theorem X6{a m:Int}{q:Nat}(ha:0<=a)(h:a<m):0<=a.fdiv (2^q)/\a.fdiv (2^q)<m:=by
 have hp:(0:Int)<2^q:=Int.pow_pos (by decide);rw[Asr _ (by omega)];have h1:=Int.ediv_nonneg ha (Int.le_of_lt hp);have h2:=Int.ediv_le_self (2^q) ha;omega
theorem Bin.Auf{t:TypeId}(a:UInt8)(b:T')(h:0<=GI.toZ b):Jq P .shr t (iv a) (iv b) (iv (Bt a (GI.toZ b).toNat)):=by
 have h1:(0:Int)<=GI.toZ a:=Ay6 _;have h2:(GI.toZ a:Int)<256:=by have:=a.toNat_lt;show((a.toNat:Nat):Int)<256;omega
 obtain⟨h3,h4⟩:=X6 (q:=min (GI.toZ b).toNat IntKind.u8.bits) h1 h2;exact Bin.shr a b h (wrap_u8 h3 h4)
theorem Bin.Ao0{t:TypeId}(a:UInt32)(b:T')(h:0<=GI.toZ b):Jq P .shr t (iv a) (iv b) (iv (Bt a (GI.toZ b).toNat)):=by
 have h1:(0:Int)<=GI.toZ a:=Ay6 _;have h2:(GI.toZ a:Int)<4294967296:=by have:=a.toNat_lt;show((a.toNat:Nat):Int)<4294967296;omega
 obtain⟨h3,h4⟩:=X6 (q:=min (GI.toZ b).toNat IntKind.u32.bits) h1 h2;exact Bin.shr a b h (wrap_u32 h3 h4)
theorem Bin.Apn{t:TypeId}(a:UInt64)(b:T')(h:0<=GI.toZ b):Jq P .shr t (iv a) (iv b) (iv (Bt a (GI.toZ b).toNat)):=by
 have h1:(0:Int)<=GI.toZ a:=Ay6 _;have h2:(GI.toZ a:Int)<18446744073709551616:=by have:=a.toNat_lt;show((a.toNat:Nat):Int)<18446744073709551616;omega
 obtain⟨h3,h4⟩:=X6 (q:=min (GI.toZ b).toNat IntKind.u64.bits) h1 h2;exact Bin.shr a b h (wrap_u64 h3 h4)
theorem wrap_i32{n:Int}(h: -2147483648<=n)(h':n<2147483648):IntKind.i32.wrap n=n:=by
 simp only[IntKind.wrap,IntKind.bits,IntKind.signed,Azd];change (if decide (n %4294967296>=2147483648)=true then n %4294967296-4294967296 else n %4294967296)=n;by_cases hn:n %4294967296>=2147483648
 ·rw[Abb (by simpa using hn)];omega
 ·rw[Aba (by simpa using hn)];omega
theorem Aou{a m:Int}{q:Nat}(h0: -m<=a)(h:a<m)(hm:0<m): -m<=a.fdiv (2^q)/\a.fdiv (2^q)<m:=by
 have hp:(0:Int)<2^q:=Int.pow_pos (by decide);rw[Asr _ (by omega)];generalize(2:Int)^q=p at hp;refine⟨?_,?_⟩
 ·rw[Int.le_ediv_iff_mul_le hp];have:m*1<=m*p:=Int.mul_le_mul_of_nonneg_left (by omega) (by omega);rw[Int.neg_mul];omega
 ·rw[Int.ediv_lt_iff_lt_mul hp];have:m*1<=m*p:=Int.mul_le_mul_of_nonneg_left (by omega) (by omega);omega
theorem Ah6(a:Int32): -2147483648<=GI.toZ a/\GI.toZ a<2147483648:=by
 have h1:=a.le_toInt;have h2:=a.toInt_lt;exact⟨h1,h2⟩
theorem Bin.Aq2{t:TypeId}(a:Int32)(b:T')(h:0<=GI.toZ b):Jq P .shr t (iv a) (iv b) (iv (Bt a (GI.toZ b).toNat)):=by
 obtain⟨h1,h2⟩:=Ah6 a;obtain⟨h3,h4⟩:=Aou (q:=min (GI.toZ b).toNat IntKind.i32.bits) h1 h2 (by decide);exact Bin.shr a b h (wrap_i32 h3 h4)
end
end Go.Lv
namespace Go.Lv
variable {P:Program} {n:Nat} {ops:Array Oper} {rest:List Oper} {K:Env->World->Prop} {Q:Exit->Env->World->Prop} {σ:Env} {w:World}
variable {d:Nat} {ty:TypeId} {pos:String} {after:Array Edge} {A:Reg} {F:List Fact} {L:List Mob}
theorem bZ{t e:TypeId}(hu:P.underlying t=some (.slice e))(q:Nat)(p:Option Addr)(l c:Nat)(w:World):(Op.equalIn (q+1) t (.slice p l c) (.slice none 0 0)).run P w= .ok p.isNone w:=by
 cases p<;>simp[Op.equalIn,Afc hu]
theorem Bin.Aqz{t e:TypeId}(hu:P.underlying t=some (.slice e))(p:Option Addr)(l c:Nat):Jq P .eql t (.slice p l c) (.slice none 0 0) (.bool p.isNone):=λ_ _ w=>by
 have h:=bZ hu 9999 p l c w;simp only[eqGuard,binOp,Op.equal,Op.maxDepth];simp[h]
theorem Bin.Aoo{t e:TypeId}(hu:P.underlying t=some (.slice e))(p:Option Addr)(l c:Nat):Jq P .neq t (.slice p l c) (.slice none 0 0) (.bool p.isSome):=λ_ _ w=>by
 have h:=bZ hu 9999 p l c w;simp only[eqGuard,binOp,Op.equal,Op.maxDepth];cases p<;>simp[h]
theorem Rd.Aa3{R:Reg}{s l c:Nat}{cs:List Value}(h:Rd R w s (.slice none l c) cs):cs=[]:=by
 obtain⟨p,len,cap,e,h2,h3,h4,_⟩:=h;cases e;have:=h4 rfl;have h5:cs.length=0:=by rw[h2,show l=0 by omega,Nat.zero_mul]
 exact List.length_eq_zero_iff.1 h5
theorem WL.Awa{x:Operand}{t e E:TypeId}{i:Nat}{v:Value}{cs:List Value}(ht:P.underlying t=some (.slice e))(he:P.underlying e=some (.int .u8))(hs:St A w F L)
  (hL:L[i]? =some (.own 1 E v cs)) (hne:0<cs.length) (hd:Nat.blt d n=true) (hx:ev σ x=v) (h:∀w',St A w' F L->WL P n ops rest K (Ub σ d v) w'):
  WL P n ops (⟨some d, .convert t t x,ty,pos,after,none⟩::rest) K σ w:=by
 have hm:=(hs.front hL).mobs;obtain⟨q,hq,h3,h4⟩:=hm;obtain⟨p,len,cap,rfl,h5,h6,h7,h8,h9⟩:=hq;have hcap:0<cap:=by omega
 obtain⟨b,rfl⟩:∃b,q=some b:=by
  cases q with
  |none=>exact absurd (h8 rfl) (by omega)
  |some b=>exact⟨b,rfl⟩
 obtain⟨arr,fr,rfl,hb,hsz,hfz,hc⟩:=h9 b rfl;obtain⟨lo,hi⟩:=fr;have hlt:=lt_of_heap hb;have hfr:∃fr',w.freeze ⟨b,arr.size,none⟩ 1=Ft w b (.cells arr E fr')/\ (fr'.1=fr'.2\/arr.size<=fr'.1):=by
  refine⟨(if lo==hi then(arr.size,arr.size+1)else(min lo arr.size,max hi (arr.size+1))),?_,?_⟩
  ·unfold World.freeze Ft;rw[Aba (by decide)];congr 1;apply Array.ext
   ·simp
   ·intro k h1 h2;simp only[Array.getElem_modify,Array.getElem_setIfInBounds];by_cases hk:b=k
    ·subst hk;have:w.heap[b]= .cells arr E (lo,hi):=by
      have:=Array.getElem?_eq_getElem (xs:=w.heap) hlt;rw[hb]at this;exact(At5 this).symm
     simp[this]
    ·rw[Aba hk,Array.getElem_setIfInBounds_ne _ hk]
  ·by_cases hlh:lo=hi
   ·simp[hlh]
   ·rw[Aba (by simpa using hlh)];rcases hfz with h|h
    ·exact absurd h hlh
    ·right;simp at h⊢;omega
 obtain⟨fr',hfr,hfz'⟩:=hfr;have hsh:w.shape? b=some (E,arr.size):=by simp[World.shape?,hb]
 have hs':St A (Ft w b (.cells arr E fr')) F L:=by
  have h10:St A (Ft w b (.cells arr E fr')) F (L.set i (.own 1 E (.slice (some ⟨b,0,none⟩) len cap) cs)):=
   hs.fS hL ⟨some ⟨b,0,none⟩,len,cap,rfl,h5,h6,h7,h8,λc hc'=>by cases hc';exact⟨arr,(lo,hi),rfl,hb,hsz,hfz,hc⟩⟩
    ⟨some ⟨b,0,none⟩,len,cap,rfl,h5,h6,h7,(λh=>by cases h),λc hc'=>by cases hc';exact⟨arr,fr',rfl,by simp[Ft,hlt],hsz,hfz',hc⟩⟩
    (λ_=>⟨some b,⟨some ⟨b,0,none⟩,len,cap,rfl,h5,h6,h7,h8,λc hc'=>by cases hc';exact⟨arr,(lo,hi),rfl,hb,hsz,hfz,hc⟩⟩,h3,h4,rfl⟩)
  have h11:L.set i (.own 1 E (.slice (some ⟨b,0,none⟩) len cap) cs)=L:=by
   apply List.ext_getElem?;intro k;rw[List.getElem?_set];by_cases hik:i=k
   ·subst hik;rw[Abb rfl];have hlt:=(List.getElem?_eq_some_iff.1 hL).1;rw[Abb hlt,hL]
   ·rw[Aba hik]
  rw[h11]at h10;exact h10
 refine .val rfl rfl hd (v:= .slice (some ⟨b,0,none⟩) len cap) (w':=Ft w b (.cells arr E fr')) ?_ (h _ hs');simp[execOp,hx,convert,Afc ht,Afc he,markStringish,hsh,hfr]
end Go.Lv
namespace Go.Lv
variable {P:Program} {n:Nat} {ops:Array Oper} {rest:List Oper} {K:Env->World->Prop} {Q:Exit->Env->World->Prop} {σ:Env} {w:World}
variable {d:Nat} {ty:TypeId} {pos:String} {after:Array Edge} {A:Reg} {F:List Fact} {L:List Mob}
def bA(P:Program)(t:TypeId):Option (List (Nat×Option Nat)×Option (Option (Array Value))):=
 match P.underlying t with
 |some (.struct fs)=>some (fs.toList.map λf=>(f.offset,(P.info? f.type).map (·.size)),(P.info? t).map λi=>i.zero.map (·.cells))
 |_=>none
def XX(P:Program)(t:TypeId)(pl:List (Nat×Nat))(z:List Value):Prop:=
 bA P t=some (pl.map λp=>(p.1,some p.2),some (some z.toArray))
theorem XX.mk{t:TypeId}{pl:List (Nat×Nat)}{z:List Value}(h:bA P t=some (pl.map λp=>(p.1,some p.2),some (some z.toArray))):XX P t pl z:=h
theorem run_places{fs:List Field}:∀{pl:List (Nat×Nat)},(fs.map λf=>(f.offset,(P.info? f.type).map (·.size)))=(pl.map λp=>(p.1,some p.2))->
  (fs.mapM λf=>do pure (f.offset,<-sizeOf f.type):Sem (List (Nat×Nat))).run P w= .ok pl w:=by
 induction fs with
 |nil=>intro pl h;cases pl with|nil=>rfl|cons _ _=>simp at h
 |cons f fs ih=>
  intro pl h;cases pl with
  |nil=>simp at h
  |cons p pl=>
   simp only[Aw7,List.cons.injEq,Auu]at h;obtain⟨⟨h1,h2⟩,h3⟩:=h;have hs:Ic P f.type p.2:=Ic.mk h2;simp only[List.mapM_cons,Aj3,Bk hs,Ab3,Aph,ih h3,h1]
theorem X.build{t:TypeId}{pl:List (Nat×Nat)}{z:List Value}{parts:List (Nat×Operand)}{vs:List (Nat×Value)}{cells:List Value}(ht:XX P t pl z)
  (hp:(parts.map λp=>(p.1,ev σ p.2))=vs) (hf:Instr.fill (pl[·]?) z.toArray vs=some cells.toArray):XO P σ w (.build t parts.toArray) (.agg cells.toArray):=λ_ _ _ _ _=>by
 unfold XX bA at ht;split at ht
 ·rename_i fs hu;simp only[Ajx,Auu]at ht;obtain⟨h1,h2⟩:=ht;have hz:∃i zv,P.info? t=some i/\i.zero=some zv/\zv.cells=z.toArray:=by
   cases hi:P.info? t with
   |none=>rw[hi]at h2;simp at h2
   |some i=>
    rw[hi]at h2;simp only[Azk,Ajx]at h2;cases hz:i.zero with
    |none=>rw[hz]at h2;simp at h2
    |some zv=>rw[hz]at h2;exact⟨i,zv,rfl,hz,by simpa using h2⟩
  obtain⟨i,zv,hi,hz,hzc⟩:=hz;have hr:=run_places (w:=w) h1;have hm:(fs.mapM λf=>do pure (f.offset,<-sizeOf f.type):Sem (Array (Nat×Nat))).run P w= .ok pl.toArray w:=by
   obtain⟨l⟩:=fs;rw[List.mapM_toArray];simp only[map_eq_pure_bind,Aj3,hr,Ab3,Aph]
  have hf':Instr.fill (λx=>pl.toArray[x]?) z.toArray vs=some cells.toArray:=by rw[<-hf];congr 1;funext x;simp
  simp only[execOp,Instr.build,Aj3,zeroValue,typeInfo];have hm2:=hm;simp only[bind_pure_comp]at hm2;simp[hi,hz,hzc,Afc hu,hm2,hp,hf,hf']
 ·cases ht
theorem X.Amk{t t':TypeId}{x y:Operand}{a b r:List UInt8}(hx:ev σ x=sv a)(hy:ev σ y=sv b)(h:Db a b=some r):XO P σ w (.binOp .add t x y t') (sv r):=by
 obtain⟨h1,rfl⟩:=M1 h;have hl:ko=17179869184:=by decide
 exact X.bin hx hy (Bin.Ap4 a b (by omega))
theorem mV(l:List UInt8)(a b:Nat):(⟨l.toArray⟩:ByteArray).extract a b=⟨((l.take b).drop a).toArray⟩:=by
 apply ByteArray.ext;rw[ByteArray.data_extract];simp[List.drop_take]
theorem X.Avp{t:TypeId}{x:Operand}{lo hi:Option Operand}{l y:List UInt8}{a b:Int}(ht:P.underlying t=some .string)(hx:ev σ x=sv l)(hc:Bw l a b=some y)
  (hlo:(∃q,lo.map (ev σ)=some (.int q a))\/ (lo=none/\a=0)) (hhi:(∃q,hi.map (ev σ)=some (.int q b))\/ (hi=none/\b=Ac l)):XO P σ w (.slice t x lo hi none) (sv y):=λ_ _ _ _ _=>by
 obtain⟨h1,h2,h3,h4,rfl⟩:=OB hc;have hsz:(⟨l.toArray⟩:ByteArray).size=l.length:=by simp[ByteArray.size]
 have hlo':(∃q,lo.map (ev σ)=some (.int q (a.toNat:Int)))\/ (lo.map (ev σ)=none/\a.toNat=0):=by
  rcases hlo with⟨q,h⟩|⟨h,h'⟩
  ·left;exact⟨q,by rw[h,<-h1]⟩
  ·right;exact⟨by rw[h];rfl,by omega⟩
 have hhi':(∃q,hi.map (ev σ)=some (.int q (b.toNat:Int)))\/ (hi.map (ev σ)=none/\b.toNat=l.length):=by
  rcases hhi with⟨q,h⟩|⟨h,h'⟩
  ·left;exact⟨q,by rw[h,<-h2]⟩
  ·right;refine⟨by rw[h];rfl,?_⟩;rw[h'];simp[Ac]
 simp only[execOp,hx,Instr.sliceAt,Aj3,Afc ht,Ab3,Azj];generalize lo.map (ev σ)=vlo at hlo'⊢;generalize hi.map (ev σ)=vhi at hhi'⊢;clear hlo hhi h1 h2 hc;generalize a.toNat=A at*
 generalize b.toNat=B at*
 clear a b;rcases hlo' with⟨q,rfl⟩|⟨rfl,rfl⟩<;>rcases hhi' with⟨q',rfl⟩|⟨rfl,rfl⟩<;>
  simp[Instr.slice,Afc ht,Instr.sliceBounds,Instr.sliceBound,asIntOf,hsz,mV,h3,h4]
theorem Src.string{t2:TypeId}{l:List UInt8}(ht2:P.underlying t2=some .string):Src P w t2 (sv l) 1 l.length (EN l):=by
 refine⟨⟨_,ht2, .inr rfl⟩,λ_=>by simp[Builtin.lenOf,ByteArray.size],λw2 _=>?_⟩;simp only[Builtin.firstCells,Aph,mV];simp[EN,Ae7]
end Go.Lv
namespace Go.Lv
section
variable (a b:UInt8)
theorem Zh:GI.toZ a=(a.toNat:Int):=rfl
theorem Atr(n:Int):(GI.ofZ n:UInt8)=UInt8.ofNat (n %256).toNat:=rfl
theorem Ls(n:Nat):(GI.ofZ (n:Int):UInt8)=UInt8.ofNat n:=by
 rw[Atr];apply UInt8.toNat_inj.1;simp only[An9];omega
theorem Arj:Ae a b=a+b:=by
 simp only[Ae,Zh,<-Int.natCast_add,Ls];apply UInt8.toNat_inj.1;simp
theorem Aqt:Bz a b=a/b:=by
 simp only[Bz,Zh];rw[<-Int.ofNat_tdiv,Ls];apply UInt8.toNat_inj.1;rw[An9,UInt8.toNat_div];exact Abk (Aw8 (Asv _ _) a.toNat_lt)
theorem Aq7:AR a b=a %b:=by
 simp only[AR,Zh];rw[<-Int.ofNat_tmod,Ls];apply UInt8.toNat_inj.1;rw[An9,UInt8.toNat_mod];exact Abk (Aw8 (Nat.mod_le _ _) a.toNat_lt)
theorem Anr:BitVec.ofInt (IntKind.bits .u8) (GI.toZ a)=a.toBitVec:=by
 rw[Zh];apply Ay5;have:=a.toNat_lt;simp only[IntKind.bits,Awl,UInt8.toNat_toBitVec];omega
theorem Ael:Di a b=a&&&b:=by
 simp only[Di,Anr,Ls];apply UInt8.toNat_inj.1;rw[An9,UInt8.toNat_and];exact(Abk (a.toBitVec&&&b.toBitVec).isLt).trans (Azz _ _)
theorem Ath:sY a b=a|||b:=by
 simp only[sY,Anr,Ls];apply UInt8.toNat_inj.1;rw[An9,UInt8.toNat_or];exact(Abk (a.toBitVec|||b.toBitVec).isLt).trans (BitVec.toNat_or _ _)
theorem Aes:Rk a b=a^^^b:=by
 simp only[Rk,Anr,Ls];apply UInt8.toNat_inj.1;rw[An9,UInt8.toNat_xor];exact(Abk (a.toBitVec^^^b.toBitVec).isLt).trans (BitVec.toNat_xor _ _)
theorem Aqb(n:Nat):(Cw a n).toNat=a.toNat*2^n %256:=by
 have h:(a.toNat:Int)*2^min n (IntKind.bits .u8)=((a.toNat*2^min n 8:Nat):Int):=by simp[IntKind.bits]
 simp only[Cw,Zh,h,Ls,An9]
 show a.toNat*2^min n 8 %256=_;rcases Azv n 8 with h|h
 ·rw[Au6 h]
 ·rw[Ax8 h];obtain⟨d,rfl⟩:=Azm h;rw[Azn,<-Ay2,Nat.mul_right_comm,Axv,Axv]
theorem dw(n:Nat):(Bt a n).toNat=a.toNat/2^n:=by
 have h:(a.toNat:Int).fdiv (2^min n (IntKind.bits .u8))=((a.toNat/2^min n 8:Nat):Int):=by
  rw[Asr _ (Int.le_of_lt (Int.pow_pos (by decide)))];simp[IntKind.bits]
 have hlt:=a.toNat_lt;have hle:=Asv a.toNat (2^min n 8);simp only[Bt,Zh,h,Ls,An9]
 show a.toNat/2^min n 8 %256=_;rw[Abk (by omega)];rcases Azv n 8 with h|h
 ·rw[Au6 h]
 ·rw[Ax8 h];rw[Aw1 (by omega),Aw1];exact Aj4 hlt (Aeb (by decide) h)
theorem ZL:geq a b=(a==b):=by
 rw[An0];simp[geq,Zh,Int.natCast_inj,UInt8.toNat_inj]
theorem Adg:Bm a b=(a !=b):=by
 rw[An0];simp[Bm,Zh,Int.natCast_inj,UInt8.toNat_inj]
theorem Att:Cc a b=decide (a.toNat<b.toNat):=by simp[Cc,Zh]
theorem Auj:yj a b=decide (a.toNat<=b.toNat):=by simp[yj,Zh]
theorem Ans:Eu a b=decide (b.toNat<a.toNat):=by simp[Eu,Zh]
theorem Al8:Ll a b=decide (b.toNat<=a.toNat):=by simp[Ll,Zh]
theorem Aly:(Ad a:Int)=wrap64 (a.toNat:Int):=rfl
end
section
variable (a b:UInt32)
theorem Vr:GI.toZ a=(a.toNat:Int):=rfl
theorem Aeg(n:Int):(GI.ofZ n:UInt32)=UInt32.ofNat (n %4294967296).toNat:=rfl
theorem Ej(n:Nat):(GI.ofZ (n:Int):UInt32)=UInt32.ofNat n:=by
 rw[Aeg];apply UInt32.toNat_inj.1;simp only[Ajz];omega
theorem wR:Ae a b=a+b:=by
 simp only[Ae,Vr,<-Int.natCast_add,Ej];apply UInt32.toNat_inj.1;simp
theorem xY:Ah a b=a-b:=by
 simp only[Ah,Vr,Aeg];apply UInt32.toNat_inj.1;have h1:=a.toNat_lt;have h2:=b.toNat_lt;simp only[Ajz,UInt32.toNat_sub];omega
theorem Ane:Bd a b=a*b:=by
 simp only[Bd,Vr,<-Awx,Ej];apply UInt32.toNat_inj.1;simp
theorem qx:Bz a b=a/b:=by
 simp only[Bz,Vr];rw[<-Int.ofNat_tdiv,Ej];apply UInt32.toNat_inj.1;rw[Ajz,UInt32.toNat_div];exact Abk (Aw8 (Asv _ _) a.toNat_lt)
theorem qb:AR a b=a %b:=by
 simp only[AR,Vr];rw[<-Int.ofNat_tmod,Ej];apply UInt32.toNat_inj.1;rw[Ajz,UInt32.toNat_mod];exact Abk (Aw8 (Nat.mod_le _ _) a.toNat_lt)
theorem Z5:BitVec.ofInt (IntKind.bits .u32) (GI.toZ a)=a.toBitVec:=by
 rw[Vr];apply Ay5;have:=a.toNat_lt;simp only[IntKind.bits,Awl,UInt32.toNat_toBitVec];omega
theorem zA:Di a b=a&&&b:=by
 simp only[Di,Z5,Ej];apply UInt32.toNat_inj.1;rw[Ajz,UInt32.toNat_and];exact(Abk (a.toBitVec&&&b.toBitVec).isLt).trans (Azz _ _)
theorem Ap9:sY a b=a|||b:=by
 simp only[sY,Z5,Ej];apply UInt32.toNat_inj.1;rw[Ajz,UInt32.toNat_or];exact(Abk (a.toBitVec|||b.toBitVec).isLt).trans (BitVec.toNat_or _ _)
theorem WJ:Rk a b=a^^^b:=by
 simp only[Rk,Z5,Ej];apply UInt32.toNat_inj.1;rw[Ajz,Azp];exact(Abk (a.toBitVec^^^b.toBitVec).isLt).trans (BitVec.toNat_xor _ _)
theorem dX(n:Nat):(Cw a n).toNat=a.toNat*2^n %4294967296:=by
 have h:(a.toNat:Int)*2^min n (IntKind.bits .u32)=((a.toNat*2^min n 32:Nat):Int):=by simp[IntKind.bits]
 simp only[Cw,Vr,h,Ej,Ajz]
 show a.toNat*2^min n 32 %4294967296=_;rcases Azv n 32 with h|h
 ·rw[Au6 h]
 ·rw[Ax8 h];obtain⟨d,rfl⟩:=Azm h;rw[Azn,<-Ay2,Nat.mul_right_comm,Axv,Axv]
theorem IJ(n:Nat):(Bt a n).toNat=a.toNat/2^n:=by
 have h:(a.toNat:Int).fdiv (2^min n (IntKind.bits .u32))=((a.toNat/2^min n 32:Nat):Int):=by
  rw[Asr _ (Int.le_of_lt (Int.pow_pos (by decide)))];simp[IntKind.bits]
 have hlt:=a.toNat_lt;have hle:=Asv a.toNat (2^min n 32);simp only[Bt,Vr,h,Ej,Ajz]
 show a.toNat/2^min n 32 %4294967296=_;rw[Abk (by omega)];rcases Azv n 32 with h|h
 ·rw[Au6 h]
 ·rw[Ax8 h];rw[Aw1 (by omega),Aw1];exact Aj4 hlt (Aeb (by decide) h)
theorem T7:geq a b=(a==b):=by
 rw[An0];simp[geq,Vr,Int.natCast_inj,UInt32.toNat_inj]
theorem Ae4:Cc a b=decide (a.toNat<b.toNat):=by simp[Cc,Vr]
theorem Ae2:Ll a b=decide (b.toNat<=a.toNat):=by simp[Ll,Vr]
theorem Ah7:(Ad a:Int)=wrap64 (a.toNat:Int):=rfl
end
section
variable (a b:UInt64)
theorem Ig:GI.toZ a=(a.toNat:Int):=rfl
theorem U2(n:Int):(GI.ofZ n:UInt64)=UInt64.ofNat (n %18446744073709551616).toNat:=rfl
theorem Ha(n:Nat):(GI.ofZ (n:Int):UInt64)=UInt64.ofNat n:=by
 rw[U2];apply UInt64.toNat_inj.1;simp only[Ajt];omega
theorem JT:Ae a b=a+b:=by
 simp only[Ae,Ig,<-Int.natCast_add,Ha];apply UInt64.toNat_inj.1;simp
theorem qY:Ah a b=a-b:=by
 simp only[Ah,Ig,U2];apply UInt64.toNat_inj.1;have h1:=a.toNat_lt;have h2:=b.toNat_lt;simp only[Ajt,UInt64.toNat_sub];omega
theorem JN:Bd a b=a*b:=by
 simp only[Bd,Ig,<-Awx,Ha];apply UInt64.toNat_inj.1;simp
theorem qP:Bz a b=a/b:=by
 simp only[Bz,Ig];rw[<-Int.ofNat_tdiv,Ha];apply UInt64.toNat_inj.1;rw[Ajt,Azq];exact Abk (Aw8 (Asv _ _) a.toNat_lt)
theorem qm:AR a b=a %b:=by
 simp only[AR,Ig];rw[<-Int.ofNat_tmod,Ha];apply UInt64.toNat_inj.1;rw[Ajt,UInt64.toNat_mod];exact Abk (Aw8 (Nat.mod_le _ _) a.toNat_lt)
theorem Y6:BitVec.ofInt (IntKind.bits .u64) (GI.toZ a)=a.toBitVec:=by
 rw[Ig];apply Ay5;have:=a.toNat_lt;simp only[IntKind.bits,Awl,UInt64.toNat_toBitVec];omega
theorem B6:Di a b=a&&&b:=by
 simp only[Di,Y6,Ha];apply UInt64.toNat_inj.1;rw[Ajt,UInt64.toNat_and];exact(Abk (a.toBitVec&&&b.toBitVec).isLt).trans (Azz _ _)
theorem Arn:sY a b=a|||b:=by
 simp only[sY,Y6,Ha];apply UInt64.toNat_inj.1;rw[Ajt,UInt64.toNat_or];exact(Abk (a.toBitVec|||b.toBitVec).isLt).trans (BitVec.toNat_or _ _)
theorem xI:Rk a b=a^^^b:=by
 simp only[Rk,Y6,Ha];apply UInt64.toNat_inj.1;rw[Ajt,UInt64.toNat_xor];exact(Abk (a.toBitVec^^^b.toBitVec).isLt).trans (BitVec.toNat_xor _ _)
theorem SB(n:Nat):(Cw a n).toNat=a.toNat*2^n %18446744073709551616:=by
 have h:(a.toNat:Int)*2^min n (IntKind.bits .u64)=((a.toNat*2^min n 64:Nat):Int):=by simp[IntKind.bits]
 simp only[Cw,Ig,h,Ha,Ajt]
 show a.toNat*2^min n 64 %18446744073709551616=_;rcases Azv n 64 with h|h
 ·rw[Au6 h]
 ·rw[Ax8 h];obtain⟨d,rfl⟩:=Azm h;rw[Azn,<-Ay2,Nat.mul_right_comm,Axv,Axv]
theorem ED(n:Nat):(Bt a n).toNat=a.toNat/2^n:=by
 have h:(a.toNat:Int).fdiv (2^min n (IntKind.bits .u64))=((a.toNat/2^min n 64:Nat):Int):=by
  rw[Asr _ (Int.le_of_lt (Int.pow_pos (by decide)))];simp[IntKind.bits]
 have hlt:=a.toNat_lt;have hle:=Asv a.toNat (2^min n 64);simp only[Bt,Ig,h,Ha,Ajt]
 show a.toNat/2^min n 64 %18446744073709551616=_;rw[Abk (by omega)];rcases Azv n 64 with h|h
 ·rw[Au6 h]
 ·rw[Ax8 h];rw[Aw1 (by omega),Aw1];exact Aj4 hlt (Aeb (by decide) h)
theorem wA:geq a b=(a==b):=by
 rw[An0];simp[geq,Ig,Int.natCast_inj,Ay7]
theorem NH:Bm a b=(a !=b):=by
 rw[An0];simp[Bm,Ig,Int.natCast_inj,Ay7]
theorem wI:Cc a b=decide (a.toNat<b.toNat):=by simp[Cc,Ig]
theorem TD:Eu a b=decide (b.toNat<a.toNat):=by simp[Eu,Ig]
theorem Aor:Ll a b=decide (b.toNat<=a.toNat):=by simp[Ll,Ig]
theorem Ah3:(Ad a:Int)=wrap64 (a.toNat:Int):=rfl
theorem yu(n:Int):(Ad n:UInt64)=UInt64.ofNat (n %18446744073709551616).toNat:=rfl
end
section
variable (a b:Int)
theorem Atk:Ae a b=wrap64 (a+b):=rfl
theorem Atv:Ah a b=wrap64 (a-b):=rfl
theorem Aj6:Bd a b=wrap64 (a*b):=rfl
theorem LA:Bz a b=wrap64 (a.tdiv b):=rfl
theorem U0:oU a=wrap64 (0-a):=rfl
theorem Bc:geq a b=(a==b):=rfl
theorem Ak:Bm a b=(a !=b):=rfl
theorem Af:Cc a b=decide (a<b):=rfl
theorem D6:yj a b=decide (a<=b):=rfl
theorem Al:Eu a b=decide (a>b):=rfl
theorem Dc:Ll a b=decide (a>=b):=rfl
theorem GB:Du a b=min a b:=by unfold Du;show(if b<a then b else a)=_;omega
theorem Z2:lC a b=max a b:=by unfold lC;show(if b>a then b else a)=_;omega
end
end Go.Lv
namespace Go.Lv
open Go.RowKit
theorem Fr.below{w w':World}{F:List Fact}{L:List Mob}(h:Fr w w' F L):Below w.heap.size w w':=
 ⟨h.keep.gr.os,h.keep.gr.tape,h.keep.gr.output,h.keep.gr.le,λb hb=>h.keep.same b hb⟩
theorem Aq1{k:IntKind}{n:Int}(h:(Lit.int k n).wf=true):k.wrap n=n:=by
 simp only[Lit.wf,Abz,Ab2]at h;obtain⟨h1,h2⟩:=h;cases k<;>simp only[IntKind.min,IntKind.max,IntKind.bits,IntKind.signed,IntKind.wrap]at*<;>(try simp at *)<;>(try split)<;>omega
section
variable {T:Type} {k:IntKind} [GI T k]
theorem wf_ofZ{n:Int}(h:(Lit.int k n).wf=true):(.int k n:Value)=iv (GI.ofZ n:T):=by
 rw[<-Pb,Aq1 h]
theorem row_rd{w:World}{a:Option Addr}{len cap M:Nat}{zs:List Int}
  (h:(a=none/\len=0/\cap=0/\zs=[])\/∃x,a=some x/\len<=cap/\cap<=M/\zs.length=cap/\ (∀i,i<zs.length->w.cell? (x.add i)=some (.int k (zs.getD i 0)))/\∀n∈zs,(Lit.int k n).wf=true):
  ∃l:List T,Rd (λ_=>True) w 1 (.slice a len cap) (EN l):=by
 rcases h with⟨rfl,rfl,rfl,rfl⟩|⟨x,rfl,hl,hm,hz,hcell,hwz⟩
 ·exact⟨[],Rd.nil⟩
 ·refine⟨(zs.take len).map GI.ofZ,some x,len,cap,rfl,by simp[EN];omega,hl,(λh=>by cases h),λhc=>?_⟩;obtain⟨b,off,spot⟩:=x;have hc0:=hcell 0 (by omega);have hspot:spot=none:=by simpa [Addr.add]using World.cell?_spot hc0
  subst hspot;simp only[Mm]at hcell;have hb:∃arr T fr,w.heap[b]? =some (.cells arr T fr):=by
   have:=hcell 0 (by omega);unfold World.cell? at this;split at this
   ·rename_i arr T fr hh;exact⟨arr,T,fr,by simpa using hh⟩
   ·cases this
  obtain⟨arr,E,fr,hb⟩:=hb;refine⟨b,off,arr,E,fr,rfl,trivial,hb,?_,λi hi=>?_⟩
  ·have:=hcell (cap-1) (by omega);rw[cell_of hb]at this;have:=(Array.getElem?_eq_some_iff.1 this).1;omega
  ·have h1:=hcell i (by omega);rw[cell_of hb]at h1;rw[h1];have hlt:i<len:=by omega
   have hzi:i<zs.length:=by omega
   have hmem:zs.getD i 0∈zs:=by
    rw[List.getD_eq_getElem?_getD,List.getElem?_eq_getElem hzi];exact Au9 hzi
   rw[wf_ofZ (T:=T) (hwz _ hmem)];simp only[EN,List.map_map,List.getElem?_map,List.getElem?_take];rw[Abb hlt,List.getElem?_eq_getElem hzi];simp[List.getD_eq_getElem?_getD,List.getElem?_eq_getElem hzi]
end
end Go.Lv
namespace Go.Rx
open Go Go.Lv
abbrev Cm.{u} {α:Sort u} (c:Bool) (a b:α):α:=match c with|true=>a|false=>b
theorem B9.{u} {α:Sort u} (a b:α):Cm true a b=a:=rfl
theorem P6.{u} {α:Sort u} (a b:α):Cm false a b=b:=rfl
inductive Kd|i64|u8|u32|u64|i32|i8 deriving DecidableEq
@[reducible] def Kd.T:Kd->Type| .i64=>Int| .u8=>UInt8| .u32=>UInt32| .u64=>UInt64| .i32=>Int32| .i8=>Int8
@[reducible] def Kd.k:Kd->IntKind| .i64=> .i64| .u8=> .u8| .u32=> .u32| .u64=> .u64| .i32=> .i32| .i8=> .i8
@[reducible] instance Kd.gi:(k:Kd)->GI k.T k.k
 | .i64=>inferInstanceAs (GI Int .i64)| .u8=>inferInstanceAs (GI UInt8 .u8)| .u32=>inferInstanceAs (GI UInt32 .u32)
 | .u64=>inferInstanceAs (GI UInt64 .u64)| .i32=>inferInstanceAs (GI Int32 .i32)| .i8=>inferInstanceAs (GI Int8 .i8)
def Kd.of:IntKind->Option Kd| .i64=>some .i64| .u8=>some .u8| .u32=>some .u32| .u64=>some .u64| .i32=>some .i32| .i8=>some .i8|_=>none
inductive ET|int (k:Kd)|bool|str|list (e:ET)|vec (n:Nat) (e:ET)|cons (a r:ET)|nil deriving DecidableEq
@[reducible] def ET.T:ET->Type
 | .int k=>k.T| .bool=>Bool| .str=>List UInt8| .list e=>List e.T| .vec _ e=>List e.T| .cons a r=>a.T×r.T| .nil=>Unit
def ET.size:ET->Nat
 | .int _=>1| .bool=>1| .str=>1| .list _=>1| .vec n e=>n*e.size| .cons a r=>a.size+r.size| .nil=>0
def ET.zero:(e:ET)->e.T
 | .int k=>k.gi.ofZ 0| .bool=>false| .str=>[]| .list _=>[]| .vec n e=>List.replicate n e.zero| .cons a r=>(a.zero,r.zero)| .nil=>()
def mJ:Bool->Bool->Bool|true,b=>b|false,b=>!b
def Kd.isU:Kd->Bool| .u8=>true| .u32=>true| .u64=>true|_=>false
def Atm:BinOp->Bool| .shl=>true| .shr=>true|_=>false
def ET.isS:ET->Bool| .cons _ _=>true| .nil=>true|_=>false
inductive Step|fld (n off:Nat)|idx (j:Int) (s:Nat)
inductive PV
 |val (e:ET) (x:e.T)
 |agg (l:List PV)
 |tup (l:List PV)
 |nils
 |own (i:Nat)
 |ptr (i:Nat) (p:List Step)
 |rptr (v:PV)
 |view (o:Bool) (i:Nat) (p:List Step) (e:ET) (lo n:Int)
 |fn (f:Nat) (caps:List PV)
 |cst (v:Value)
 |gd (t:Nat) (want:Bool) (v:PV)
 |any
 |off
 |undef
abbrev PV.i(k:Kd)(x:k.T):PV:= .val (.int k) x
abbrev PV.b(b:Bool):PV:= .val .bool b
def PV.size:PV->Nat
 | .val e _=>e.size
 | .agg l=>go l
 |_=>1
where go:List PV->Nat
 |[]=>0
 |a::r=>a.size+go r
def ET.pvl:(e:ET)->e.T->List PV
 | .cons a r,(x,y)=>(Cm (a.isS) (.agg (a.pvl x))<| .val a x)::r.pvl y
 | .nil,_=>[]
 |e,x=>[.val e x]
def ET.pv(e:ET)(x:e.T):PV:=Cm (e.isS) (.agg (e.pvl x))<| .val e x
def jB(e e':ET)(x:e.T):Option e'.T:=if h:e=e' then some (h▸x)else none
def ET.Avy:(e:ET)->Option e.T| .list _=>some []|_=>none
def Aal(e:ET)(rec:List PV->Option e.T):PV->Option e.T
 | .val e' x=>jB e' e x
 | .agg l=>rec l
 | .nils=>e.Avy
 |_=>none
def ET.ofl:(e:ET)->List PV->Option e.T
 | .cons a r,p::ps=>Option.bind (Aal a a.ofl p) λx=>Option.bind (r.ofl ps) λy=>some (x,y)
 | .nil,[]=>some ()
 |_,_=>none
def ET.of(e:ET)(p:PV):Option e.T:=Aal e e.ofl p
inductive Item
 |dead
 |box (T:TypeId) (v:PV)
 |arr (E:TypeId) (e:ET) (l:List e.T)
abbrev Slots:=List (Nat×PV)
structure S where
 sl:Slots
 it:List Item
 st:List Slots:=[]
def AV:Slots->Nat->PV
 |[],_=> .undef
 |(t,v)::r,d=>Cm (Nat.beq t d) (v)<|AV r d
def tZ(d:Nat):Slots->Slots
 |[]=>[]
 |(t,v)::r=>Cm (Nat.beq t d) (tZ d r)<|match v with
  | .gd j _ _=>Cm (Nat.beq j d) (tZ d r)<|(t,v)::tZ d r
  |_=>(t,v)::tZ d r
def Aia(s:Slots)(d:Nat)(v:PV):Slots:=(d,v)::tZ d s
def S.set(s:S)(d:Nat)(v:PV):S:=⟨Aia s.sl d v,s.it,s.st⟩
def S.Gm(s:S)(d:Option Nat)(v:PV):S:=match d with|some d=>s.set d v|none=>s
def Ahu(t:Nat)(b:Bool):Slots->Slots
 |[]=>[]
 |(q,v)::r=>(Cm (Nat.beq q t) ((q, .cst (.bool b)))<|match v with
  | .gd j want u=>Cm (Nat.beq j t) ((q,Cm (mJ want b) (u)<| .off))<|(q,v)
  |_=>(q,v))::Ahu t b r
def S.res(s:S)(t:Nat)(b:Bool):S:=⟨Ahu t b s.sl,s.it,s.st⟩
def Cb(l:List Item)(i:Nat):Item:=match l with|[]=> .dead|a::r=>match i with|0=>a|i+1=>Cb r i
def DB(l:List Item)(i:Nat)(a:Item):List Item:=match l with|[]=>[]|b::r=>match i with|0=>a::r|i+1=>b::DB r i a
def S.add(s:S)(a:Item):S:=⟨s.sl,s.it++[a],s.st⟩
def S.Ub(s:S)(i:Nat)(a:Item):S:=⟨s.sl,DB s.it i a,s.st⟩
def S.new(s:S):Nat:=s.it.length
def bytesOf(b:ByteArray):List UInt8:=b.data.toList
def ofConst:Value->PV
 | .int k n=>match Kd.of k with
  |some kd=>Cm (decide (kd.gi.toZ (kd.gi.ofZ n)=n)) (.i kd (kd.gi.ofZ n))<| .cst (.int k n)
  |none=> .cst (.int k n)
 | .bool b=> .b b
 | .string s=> .val .str (bytesOf s)
 | .slice none 0 0=> .nils
 | .agg _=> .undef
 | .tuple _=> .undef
 |v=> .cst v
def Ed(s:Slots):Operand->PV
 | .tmp t=>match AV s t with| .cst (.bool b)=> .b b|v=>v
 | .const v=>ofConst v
 | .func f=> .fn f []
 | .global g=> .undef
def Adt(P:Program):Nat->TypeId->Option ET
 |0,_=>none
 |q+1,t=>match P.underlying t with
  |some (.int k)=>(Kd.of k).map .int
  |some .bool=>some .bool
  |some .string=>some .str
  |some (.slice e)=>(Adt P q e).map .list
  |some (.array n e)=>(Adt P q e).map (.vec n)
  |some (.struct fs)=>Asu fs.toList (Adt P q)
  |_=>none
where Asu (fs:List Field) (rec:TypeId->Option ET):Option ET:=match fs with
  |[]=>some .nil
  |f::r=>match rec f.type,Asu r rec with
   |some a,some b=>some (.cons a b)
   |_,_=>none
abbrev Q:Nat:=20
def xV:List PV->Nat->Nat
 |a::r,n+1=>a.size+xV r n
 |_,_=>0
def vR:PV->List Step->Option PV
 |v,[]=>some v
 | .agg l, .fld n off::r=>match l[n]? with
  |some f=>Cm (Nat.beq (xV l n) off) (vR f r)<|none
  |none=>none
 |_,_=>none
def elems(s:S)(e:ET):PV->Option (List e.T)
 | .val e' x=>match e',x with
  | .list a,l=>if h:a=e then some (h▸l)else none
  |_,_=>none
 | .nils=>some []
 | .own i=>match Cb s.it i with
  | .arr _ a l=>if h:a=e then some (h▸l)else none
  |_=>none
 | .view true i _ e1 lo n=>match Cb s.it i with
  | .arr _ a l=>if h:a=e then(Cm (decide (e1=e)) (some (h▸SL l lo n))<|none)else none
  |_=>none
 |_=>none
def Akz(s:S)(e:ET):PV->Option (List e.T)
 | .view false i p e1 lo n=>match Cb s.it i with
  | .box _ v=>match vR v p with
   |some (.val a x)=>match a,x with
    | .vec m a,l=>Cm (decide (0<=lo/\0<=n/\lo+n<=m)&&decide (e1=e)) ((if h:a=e then some (h▸SL l lo n)else none))<|none
    |_,_=>none
   |_=>none
  |_=>none
 |v=>elems s e v
def Anc(k:Kd)(o:BinOp)(x y:k.T):Option PV:=
 match o with
 | .add=>some (.i k (Ae x y))| .sub=>some (.i k (Ah x y))| .mul=>some (.i k (Bd x y))
 | .and=>some (.i k (Di x y))| .or=>some (.i k (sY x y))| .xor=>some (.i k (Rk x y))
 | .eql=>some (.b (geq x y))| .neq=>some (.b (Bm x y))| .lss=>some (.b (Cc x y))| .leq=>some (.b (yj x y))| .gtr=>some (.b (Eu x y))| .geq=>some (.b (Ll x y))
 |_=>none
def Av1:(k:Kd)->k.T->k.T->Option k.T
 | .i64,x,y=>some (Gc x y)| .u8,x,y=>some (AR x y)| .u32,x,y=>some (AR x y)| .u64,x,y=>some (AR x y)|_,_,_=>none
def Avi:(k:Kd)->k.T->Nat->Option k.T
 | .i64,x,n=>some (Y4 x n)| .u8,x,n=>some (Bt x n)| .u32,x,n=>some (Bt x n)| .u64,x,n=>some (Bt x n)| .i32,x,n=>some (Bt x n)|_,_,_=>none
def Ajl(o:BinOp)(k:Kd)(x:k.T)(k':Kd)(y:k'.T):Option PV:=
 match o with
 | .quo=>if h:k'=k then some (.i k (Bz x (h▸y)))else none
 | .rem=>if h:k'=k then(Av1 k x (h▸y)).map (.i k)else none
 | .shl=>some (.i k (Cw x (k'.gi.toZ y).toNat))
 | .shr=>(Avi k x (k'.gi.toZ y).toNat).map (.i k)
 |_=>none
def Ag9(o:BinOp)(k':Kd)(y:k'.T):Option Bool:=
 match o with
 | .quo| .rem=>some (Bm y (k'.gi.ofZ 0))
 | .shl| .shr=>some (Cm (k'.isU) (true)<|Ll y (k'.gi.ofZ 0))
 |_=>none
def isK:Operand->Bool| .const _=>true|_=>false
def Awk:BinOp->Bool| .quo=>true| .rem=>true| .shl=>true| .shr=>true|_=>false
def At3(o:BinOp)(y:Bool)(k:Kd)(a:k.T)(k':Kd)(c:k'.T):Option PV:=
 Cm (Awk o) ((Cm (y) ((match Ag9 o k' c with|some true=>Ajl o k a k' c|_=>none))<|Cm (k'.isU&&Atm o) (Ajl o k a k' c)<|none)
 )<|if h:k'=k then Anc k o a (h▸c)else none
def Acu(c:Bool)(lit:Option Bool)(a b:PV):Option PV:=
 match a,b with
 | .val .bool x, .val .bool y=>match lit with
  |some true=>some (.b (c||y))
  |some false=>some (.b (c&&x))
  |none=>some (.b (Cm (c) (x)<|y))
 | .val e x, .val e' y=>if h:e'=e then some (.val e (if c=true then x else h▸y))else none
 |_,_=>none
def Ai1(t:Nat)(b:Bool):PV->PV
 | .gd j want v=>Cm (Nat.beq j t&&mJ want b) (v)<| .undef
 |v=>v
def Aid:Operand->Option Bool| .const (.bool b)=>some b|_=>none
def Asb(b:Bool)(x y:PV):Option PV:=match Cm (b) (x)<|y with| .undef=>none| .off=>none| .gd _ _ _=>none|v=>some v
def PV.jf:PV->Bool| .undef=>false| .off=>false| .gd _ _ _=>false| .tup _=>false|_=>true
def Aaa:List PV->Bool|[]=>true|a::r=>a.jf&&Aaa r
def Q5(n:Nat)(e:ET)(l:List PV):Option PV:=
 match go l with
 |some x=>Cm (Nat.beq x.length n) (some (.val (.vec n e) x))<|none
 |none=>none
where go:List PV->Option (List e.T)
 |[]=>some []
 |a::r=>match e.of a,go r with|some x,some y=>some (x::y)|_,_=>none
def sO(f:TypeId->List Value->Option (PV×List Value)):List TypeId->List Value->Option (List PV×List Value)
 |[],cs=>some ([],cs)
 |t::ts,cs=>match f t cs with
  |some (v,cs')=>match sO f ts cs' with
   |some (vs,r)=>some (v::vs,r)
   |none=>none
  |none=>none
def parse(P:Program):Nat->TypeId->List Value->Option (PV×List Value)
 |0,_,_=>none
 |q+1,t,cs=>match P.underlying t with
  |some (.struct fs)=>match sO (parse P q) (fs.toList.map (·.type)) cs with
   |some (vs,r)=>some (.agg vs,r)
   |none=>none
  |some (.array n e)=>match Adt P q e,sO (parse P q) (List.replicate n e) cs with
   |some a,some (vs,r)=>match Q5 n a vs with
    |some v=>some (v,r)
    |none=>none
   |_,_=>none
  |some _=>match cs with
   |c::r=>Cm ((ofConst c).jf) (some (ofConst c,r))<|none
   |[]=>none
  |none=>none
def nA(P:Program)(t:TypeId)(v:Value):Option PV:=
 match parse P Q t v.cells.toList with|some (p,[])=>some p|_=>none
def Avm(P:Program)(t:TypeId):Option Bool:=(P.underlying t).map Aio
def PV.isA:PV->Bool| .agg _=>true| .val (.vec _ _) _=>true|_=>false
def Mu(P:Program)(t:TypeId)(v:PV):Bool:=
 match Avm P t with
 |some b=>mJ b v.isA&&(match P.info? t with|some i=>Nat.beq i.size v.size|none=>false)&&(b||Nat.beq v.size 1)
 |none=>false
def yX(o:BinOp):Option Bool:=match o with| .eql=>some true| .neq=>some false|_=>none
def S6(P:Program)(rec:TypeId->PV->PV->Option Bool):List Field->List PV->List PV->Nat->Option Bool
 |[],[],[],_=>some true
 |f::fs,a::l,b::m,off=>Cm ((f.name== "_")|| !Nat.beq f.offset off|| !Mu P f.type a|| !Mu P f.type b|| !Nat.beq a.size b.size) (none)<|match rec f.type a b,S6 P rec fs l m (off+a.size)with
  |some x,some y=>some (x&&y)
  |_,_=>none
 |_,_,_,_=>none
def Ab8(P:Program)(t:TypeId):Bool:=match P.underlying t with|some (.int _)=>true|_=>false
def eqV(P:Program):Nat->TypeId->PV->PV->Option Bool
 |0,_,_,_=>none
 |q+1,t,x,y=>match P.underlying t,x,y with
  |some (.int _), .val (.int k) a, .val (.int k') b=>if h:k'=k then some (geq a (h▸b))else none
  |some .bool, .val .bool a, .val .bool b=>some (a==b)
  |some .string, .val .str a, .val .str b=>some (a==b)
  |some (.struct fs), .agg l, .agg m=>Cm (P.stoodInHeld t) (none)<|S6 P (eqV P q) fs.toList l m 0
  |some (.array n te), .val (.vec m (.int k)) a, .val (.vec m' (.int k')) b=>Cm (Nat.beq m n&&Nat.beq m' n&&Nat.blt 0 q&&Mu P te (.val (.int k) (GI.ofZ (T:=k.T) 0))&&Ab8 P te) (if h:k'=k then some (Akl (T:=k.T) a (h▸b))else none)<|none
  |_,_,_=>none
def Ark(P:Program)(s:S)(t:TypeId)(x:Operand):Option PV:=match x with
 | .const (.agg cs)=>nA P t (.agg cs)
 |x=>some (Ed s.sl x)
def Auk(P:Program)(s:S)(o:BinOp)(t:TypeId)(x y:Operand):Option PV:=match yX o,Ark P s t x,Ark P s t y with
 |some q,some (.agg l),some (.agg m)=>Cm (P.eqGuardType P.depth t) (none)<|(eqV P Q t (.agg l) (.agg m)).map λb=> .b (Cm (q) (b)<| !b)
 |_,_,_=>none
def op0(P:Program)(s:S):Op->Option PV
 | .move x=>match Ed s.sl x with| .undef=>none| .off=>none| .gd _ _ _=>none|v=>some v
 | .assign x=>match Ed s.sl x with| .undef=>none| .off=>none| .gd _ _ _=>none|v=>some v
 | .binOp o t x y _=>match Ed s.sl x,Ed s.sl y with
  | .val (.int k) a, .val (.int k') c=>At3 o (isK y) k a k' c
  | .val .bool a, .val .bool c=>match P.underlying t with
   |some .bool=>match o with| .eql=>some (.b (a==c))| .neq=>some (.b (a !=c))|_=>none
   |_=>none
  | .val .str a, .val .str c=>match o with| .eql=>some (.b (a==c))| .neq=>some (.b (a !=c))|_=>none
  |_,_=>Auk P s o t x y
 | .unOp o _ x=>match Ed s.sl x with
  | .val (.int k) a=>match o with| .neg=>some (.i k (oU a))| .xor=>some (.i k (C4 a))|_=>none
  | .val .bool a=>match o with| .not=>some (.b (!a))|_=>none
  |_=>none
 | .pick c a b=>match c,AV s.sl (match c with| .tmp t=>t|_=>0)with
  | .tmp t, .cst (.bool x)=>Asb x (Ai1 t true (Ed s.sl a)) (Ai1 t false (Ed s.sl b))
  | .tmp t, .val .bool x=>Acu x (match Aid a with|some true=>some true|_=>match Aid b with|some false=>some false|_=>none) (Ai1 t true (Ed s.sl a)) (Ai1 t false (Ed s.sl b))
  |_,_=>none
 | .extract x i=>match Ed s.sl x with| .tup l=>l[i]? |_=>none
 | .convert a t x=>match Ed s.sl x,P.underlying t,P.underlying a with
  | .val (.int k) v,some (.int k'),some _=>match Kd.of k' with|some kd=>some (.i kd (Ad v))|none=>none
  |_,_,_=>none
 | .makeFunc (.func f) fs cs=>match fs.toList with
  |[]=>Cm (Aaa (cs.toList.map (Ed s.sl))) (some (.fn f (cs.toList.map (Ed s.sl))))<|none
  |_=>none
 | .nilCheck x=>match Ed s.sl x with| .ptr i p=>some (.ptr i p)| .rptr v=>some (.rptr v)|_=>none
 | .fieldAddr t x f=>match Ed s.sl x,fieldInfo P t f with
  | .ptr i p,some (off,z)=>Cm (Nat.beq z 0) (none)<|some (.ptr i (p++[.fld f off]))
  | .rptr (.agg l),some (off,z)=>match l[f]? with
   |some u=>Cm (!Nat.beq z 0&&Nat.beq (xV l f) off) (some (.rptr u))<|none
   |none=>none
  |_,_=>none
 | .call ⟨.builtin .min,as,_⟩=>match as.toList with
  |[x,y]=>match Ed s.sl x,Ed s.sl y with
   | .val (.int k) a, .val (.int k') c=>if h:k'=k then some (.i k (Du a (h▸c)))else none
   |_,_=>none
  |_=>none
 | .call ⟨.builtin .max,as,_⟩=>match as.toList with
  |[x,y]=>match Ed s.sl x,Ed s.sl y with
   | .val (.int k) a, .val (.int k') c=>if h:k'=k then some (.i k (lC a (h▸c)))else none
   |_,_=>none
  |_=>none
 |_=>none
def op1(P:Program)(s:S):Op->Option PV
 | .load t x=>match Ed s.sl x with
  | .ptr i p=>match Cb s.it i with
   | .box _ v=>match vR v p with
    |some u=>Cm (Mu P t u) (some u)<|none
    |none=>none
   |_=>none
  | .rptr u=>Cm (Mu P t u) (some u)<|none
  |_=>none
 | .convert a t x=>match P.underlying t with
  |some .string=>match P.underlying a with
   |some (.slice e)=>match P.underlying e with
    |some (.int .u8)=>(elems s (.int .u8) (Ed s.sl x)).map λl=> .val .str l
    |_=>none
   |_=>none
  |_=>none
 | .call ⟨.builtin .len,as,ts⟩=>match as.toList,ts.toList with
  |[x],[t]=>match P.underlying t with
   |some .string=>match Ed s.sl x with| .val .str l=>some (.i .i64 (Ac l))|_=>none
   |some (.slice _)=>match Ed s.sl x with
    | .val (.list e) l=>Cm (Nat.beq e.size 0) (none)<|some (.i .i64 (Ac l))
    | .nils=>some (.i .i64 (0:Int))
    | .view _ _ _ _ _ n=>some (.i .i64 n)
    | .own i=>match Cb s.it i with
     | .arr _ e l=>Cm (Nat.beq e.size 0) (none)<|some (.i .i64 (Ac l))
     |_=>none
    |_=>none
   |some (.array n _)=>some (.i .i64 (n:Int))
   |_=>none
  |_,_=>none
 |_=>none
inductive Sh|lf (e:ET) (own:Option TypeId)|agg (l:List Sh)
def AP:List (ET×Option TypeId)->Type
 |[]=>Unit
 |[p]=>p.1.T
 |p::q::r=>p.1.T×AP (q::r)
def Sh.leaves:Sh->List (ET×Option TypeId)
 | .lf e o=>[(e,o)]
 | .agg l=>go l
where go:List Sh->List (ET×Option TypeId)
 |[]=>[]
 |a::r=>a.leaves++go r
def Rt(l:List Sh):List (ET×Option TypeId):=Sh.leaves.go l
structure Con where
 ps:List Sh
 rs:List Sh
 fn:AP (Rt ps)->Option (AP (Rt rs))
def Uy:Sh->PV->Option (List PV)
 | .lf _ _,v=>some [v]
 | .agg l, .agg vs=>go l vs
 |_,_=>none
where go:List Sh->List PV->Option (List PV)
 |[],[]=>some []
 |a::r,v::vs=>match Uy a v,go r vs with
  |some x,some y=>some (x++y)
  |_,_=>none
 |_,_=>none
def Y5(s:S)(e:ET):PV->Option (List e.T)| .view _ _ _ _ _ _=>none|v=>elems s e v
def jJ(s:S):(e:ET)->PV->Option e.T
 | .list e,v=>Y5 s e v
 |e, .val e' x=>jB e' e x
 |_,_=>none
def PN(s:S):(es:List (ET×Option TypeId))->List PV->Option (AP es)
 |[],vs=>match vs with|[]=>some ()|_=>none
 |[p],vs=>match vs with
  |[v]=>jJ s p.1 v
  |_=>none
 |p::q::r,vs=>match vs with
  |[]=>none
  |v::vs=>match jJ s p.1 v,PN s (q::r) vs with
   |some x,some y=>some (x,y)
   |_,_=>none
def Ew:(e:ET)->Option TypeId->e.T->S->PV×S
 | .list e,some E,l,s=>(.own s.new,s.add (.arr E e l))
 |e,_,x,s=>(.val e x,s)
def Fc:(ls:List (ET×Option TypeId))->AP ls->S->List PV×S
 |[],_,s=>([],s)
 |[p],x,s=>([(Ew p.1 p.2 x s).1],(Ew p.1 p.2 x s).2)
 |p::q::r,(x,y),s=>((Ew p.1 p.2 x s).1::(Fc (q::r) y (Ew p.1 p.2 x s).2).1,(Fc (q::r) y (Ew p.1 p.2 x s).2).2)
def Rr:Sh->List PV->Option (PV×List PV)
 | .lf _ _,v::vs=>some (v,vs)
 | .lf _ _,[]=>none
 | .agg l,vs=>match go l vs with
  |some (us,r)=>some (.agg us,r)
  |none=>none
where go:List Sh->List PV->Option (List PV×List PV)
 |[],vs=>some ([],vs)
 |a::r,vs=>match Rr a vs with
  |some (u,vs')=>match go r vs' with
   |some (us,vs'')=>some (u::us,vs'')
   |none=>none
  |none=>none
def fK(l:List Sh)(vs:List PV):Option (List PV):=match Rr.go l vs with|some (us,[])=>some us|_=>none
def Ag1(l:List Sh)(vs:List PV):Option (List PV):=Uy.go l vs
def uq:List PV->PV|[v]=>v|l=> .tup l
def subst(i:Nat)(n:PV):PV->PV
 | .agg l=> .agg (go i n l)
 | .tup l=> .tup (go i n l)
 | .own j=>Cm (Nat.beq i j) (n)<| .own j
 | .ptr j p=>Cm (Nat.beq i j) (.any)<| .ptr j p
 | .view o j p e lo n=>Cm (Nat.beq i j) (.any)<| .view o j p e lo n
 | .rptr v=> .rptr (subst i n v)
 | .fn f l=> .fn f (go i n l)
 | .gd t want v=> .gd t want (subst i n v)
 |v=>v
where go (i:Nat) (n:PV):List PV->List PV
 |[]=>[]
 |a::r=>subst i n a::go i n r
def Aey(i:Nat)(n:PV):Item->Item
 | .box T v=> .box T (subst i n v)
 |a=>a
def Af7(i:Nat)(n:PV)(l:Slots):Slots:=l.map λp=>(p.1,subst i n p.2)
def S.sub(s:S)(i:Nat)(n:PV):S:=⟨Af7 i n s.sl,s.it.map (Aey i n),s.st.map (Af7 i n)⟩
def S.freeze(s:S)(i:Nat):Option S:=match Cb s.it i with
 | .arr _ e l=>some ((s.Ub i .dead).sub i (.val (.list e) l))
 |_=>none
def Xt(i:Nat):List Nat->Bool|[]=>false|j::r=>Nat.beq i j||Xt i r
def consume(s:S):List (ET×Option TypeId)->List PV->Option (List Nat)
 |[],[]=>some []
 |(e,o)::r,v::vs=>match o with
  |none=>consume s r vs
  |some E=>match e,v with
   | .list _, .nils=>consume s r vs
   | .list a, .own i=>match Cb s.it i with
    | .arr E' a' _=>Cm (Nat.beq E' E&&decide (a'=a)) ((consume s r vs).map (i:: ·))<|none
    |_=>none
   |_,_=>none
 |_,_=>none
def S.kill(s:S)(i:Nat):Option S:=match Cb s.it i with| .arr _ _ _=>some ((s.Ub i .dead).sub i .any)|_=>none
def S.vG(s:S):List Nat->Option S
 |[]=>some s
 |i::r=>match s.kill i with|some s'=>s'.vG r|none=>none
def Abm{R:Type}:PV->List Step-> (PV->Option R)->Option R
 |v,[],k=>k v
 | .agg l, .fld n off::r,k=>match l[n]? with
  |some f=>Cm (Nat.beq (xV l n) off) (Abm f r k)<|none
  |none=>none
 | .val e x, .idx j z::r,k=>match e,x with
  | .vec _ a,l=>Cm (Nat.beq a.size z) (Option.bind (Aj l j) λy=>Abm (a.pv y) r k)<|none
  |_,_=>none
 |_,_,_=>none
def X7{R:Type}(new:PV):PV->List Step-> (PV->Option R)->Option R
 |v,[],k=>Cm (Nat.beq new.size v.size) (k new)<|none
 | .agg l, .fld n off::r,k=>match l[n]? with
  |some f=>Cm (Nat.beq (xV l n) off) (X7 new f r (λf'=>k (.agg (l.set n f'))))<|none
  |none=>none
 | .val e x, .idx j z::r,k=>match e,x with
  | .vec n a,l=>Cm (Nat.beq a.size z) ((match r with
   |[]=>match a.of new with
    |some y=>Option.bind (Je l j y) λl'=>k (.val (.vec n a) l')
    |none=>none
   |_=>Option.bind (Aj l j) λy=>X7 new (a.pv y) r (λp=>match a.of p with
    |some y'=>Option.bind (Je l j y') λl'=>k (.val (.vec n a) l')
    |none=>none)))<|none
  |_,_=>none
 |_,_,_=>none
def getRoot{R:Type}:Item->List Step-> (PV->Option R)->Option R
 | .box _ v,p,k=>Abm v p k
 | .arr _ e l, .idx j z::r,k=>Cm (Nat.beq e.size z) (Option.bind (Aj l j) λy=>Abm (e.pv y) r k)<|none
 |_,_,_=>none
def wF{R:Type}(new:PV):Item->List Step-> (Item->Option R)->Option R
 | .box T v,p,k=>X7 new v p λv'=>k (.box T v')
 | .arr E e l, .idx j z::r,k=>Cm (Nat.beq e.size z) ((match r with
   |[]=>match e.of new with
    |some y=>Option.bind (Je l j y) λl'=>k (.arr E e l')
    |none=>none
   |_=>Option.bind (Aj l j) λy=>X7 new (e.pv y) r (λp=>match e.of p with
    |some y'=>Option.bind (Je l j y') λl'=>k (.arr E e l')
    |none=>none)))<|none
 |_,_,_=>none
def zeroOf(P:Program)(t:TypeId):Option PV:=
 match P.info? t with|some i=>(match i.zero with|some z=>nA P t z|none=>none)|none=>none
structure Tab where
 l:List (Nat×Con)
 gl:List (Nat×List Value)
 vw:Bool
def Ata:List (Nat×Con)->Nat->Option Con|[],_=>none|(g,c)::r,f=>Cm (Nat.beq g f) (some c)<|Ata r f
def Tab.get(T:Tab)(f:Nat):Option Con:=Ata T.l f
def Ao3:List (Nat×List Value)->Nat->Option (List Value)|[],_=>none|(g,c)::r,f=>Cm (Nat.beq g f) (some c)<|Ao3 r f
def Tab.glv(T:Tab)(P:Program)(g:Nat)(t:TypeId):Option PV:=match Ao3 T.gl g with
 |some cs=>match parse P Q t cs with|some (v,[])=>some v|_=>none
 |none=>none
abbrev sZ(R:Type):=Nat->List PV->S-> (S->PV->Option R)->Option R
def Atb:PV->List Nat
 | .own i=>[i]
 | .ptr i _=>[i]
 | .view _ i _ _ _ _=>[i]
 | .agg l=>go l
 | .tup l=>go l
 | .fn _ l=>go l
 |_=>[]
where go:List PV->List Nat
 |[]=>[]
 |a::r=>Atb a++go r
def owns:PV->List Nat
 | .own i=>[i]
 | .view _ i _ _ _ _=>[i]
 | .agg l=>go l
 | .tup l=>go l
 |_=>[]
where go:List PV->List Nat
 |[]=>[]
 |a::r=>owns a++go r
def Tf:List (ET×Option TypeId)->List PV->List Nat
 |p::r,v::vs=>match p.2 with|none=>owns v++Tf r vs|some _=>Tf r vs
 |_,_=>[]
def S.EG(s:S):List Nat->Option S
 |[]=>some s
 |i::r=>match Cb s.it i with
  | .dead=>s.EG r
  | .box _ _=>none
  | .arr _ _ _=>match s.freeze i with|some s'=>s'.EG r|none=>none
def asInt:PV->Option Int| .val e x=>(match e,x with| .int k,y=>(match k,y with| .i64,z=>some z|_,_=>none)|_,_=>none)|_=>none
def bY:PV->Option Int| .val e x=>(match e,x with| .int k,y=>some (k.gi.toZ y)|_,_=>none)|_=>none
def UJ(s:Slots)(o:Option Operand)(dflt:Int):Option Int:=match o with|none=>some dflt|some x=>bY (Ed s x)
def tG(P:Program)(t:TypeId):Option TypeId:=match P.underlying t with|some (.slice e)=>some e|_=>none
def Afm:Nat->List (Nat×Operand)->Bool
 |_,[]=>true
 |n,(i,_)::r=>Nat.beq n i&&Afm (n+1) r
def K6(e:ET):List PV->Option (List e.T)
 |[]=>some []
 |a::r=>match e.of a,K6 e r with|some x,some y=>some (x::y)|_,_=>none
def B0(P:Program)(t:TypeId)(e:ET):Bool:=match P.info? t with
 |some i=>Nat.beq i.size e.size&&Nat.ble i.bytes 4096&&(match i.zero with|some z=>Nat.beq z.cells.size e.size|none=>false)&&Nat.ble 1 e.size
 |none=>false
def iX:List (Nat×PV)->List PV->Option (List PV)
 |[],l=>some l
 |(i,v)::r,l=>match l[i]? with
  |some u=>Cm (Nat.beq u.size v.size&&v.jf) (iX r (l.set i v))<|none
  |none=>none
def zW(e:ET):List (Nat×PV)->List e.T->Option (List e.T)
 |[],l=>some l
 |(i,v)::r,l=>match l[i]?,e.of v with
  |some _,some x=>zW e r (l.set i x)
  |_,_=>none
def WQ(P:Program):List Field->List PV->Nat->Bool
 |[],[],_=>true
 |f::fs,v::vs,off=>Nat.beq f.offset off&&(match P.info? f.type with|some i=>Nat.beq i.size v.size|none=>false)&&WQ P fs vs (off+v.size)
 |_,_,_=>false
def Adv{R:Type}(P:Program)(s:S)(d:Option Nat)(et:TypeId)(x:PV)(lo hi:Option Operand)(k:S->Option R):Option R:=
 match P.info? et with
 |none=>none
 |some inf=>match x with
  | .own i=>match Cb s.it i with
   | .arr _ e l=>Cm (Nat.beq inf.size e.size&&Nat.ble 1 e.size) ((match UJ s.sl lo 0,UJ s.sl hi (Ac l)with
    |some a,some b=>Option.bind (cG (Ac l) a b) λ_=>k (s.Gm d (.view true i [] e a (b-a)))
    |_,_=>none))<|none
   |_=>none
  | .view o i p e l0 n=>Cm (Nat.beq inf.size e.size&&Nat.ble 1 e.size) ((match UJ s.sl lo 0,UJ s.sl hi n with
    |some a,some b=>Option.bind (cG n a b) λ_=>k (s.Gm d (.view o i p e (l0+a) (b-a)))
    |_,_=>none))<|none
  |_=>none
def Afy(P:Program)(t:TypeId):Option (TypeId×Nat×TypeId):=match P.underlying t with
 |some (.array m et)=>some (t,m,et)
 |some (.pointer u)=>match P.underlying u with|some (.array m et)=>some (u,m,et)|_=>none
 |_=>none
def zu:PV->Bool| .own _=>true| .view _ _ _ _ _ _=>true|_=>false
def T9{R:Type}(vw:Bool)(s:S)(d:Option Nat)(t:TypeId)(x:Operand)(lo hi:Option Operand)(k:S->Option R)(P:Program):Option R:=
 match P.underlying t with
 |some .string=>match Ed s.sl x with
  | .val .str l=>match UJ s.sl lo 0,UJ s.sl hi (Ac l)with
   |some a,some b=>Option.bind (Bw l a b) λy=>k (s.Gm d (.val .str y))
   |_,_=>none
  |_=>none
 |some (.slice et)=>Cm (vw&&zu (Ed s.sl x)) (Adv P s d et (Ed s.sl x) lo hi k)<|match s.EG (owns (Ed s.sl x))with
  |none=>none
  |some s=>match Ed s.sl x with
   | .val e l=>match e,l with
    | .list e,l=>match P.info? et with
     |some i=>Cm (Nat.beq i.size e.size&&Nat.ble 1 e.size) ((match UJ s.sl lo 0,UJ s.sl hi (Ac l)with
      |some a,some b=>Option.bind (Bw l a b) λy=>k (s.Gm d (.val (.list e) y))
      |_,_=>none))<|none
     |none=>none
    |_,_=>none
   | .nils=>match P.info? et,UJ s.sl lo 0,UJ s.sl hi 0 with
    |some _,some a,some b=>Option.bind (cG 0 a b) λ_=>k (s.Gm d .nils)
    |_,_,_=>none
   |_=>none
 |_=>match Afy P t with
  |some (_,m,et)=>match P.info? et with
   |none=>none
   |some inf=>match Ed s.sl x with
    | .ptr i p=>match Cb s.it i with
     | .box _ v=>match vR v p with
      |some (.val e l)=>match e,l with
       | .vec m' e,_=>Cm (Nat.beq m' m&&Nat.beq inf.size e.size&&Nat.ble 1 e.size) ((match UJ s.sl lo 0,UJ s.sl hi m with
        |some a,some b=>Option.bind (cG m a b) λ_=>k (s.Gm d (.view false i p e a (b-a)))
        |_,_=>none))<|none
       |_,_=>none
      |_=>none
     |_=>none
    |_=>none
  |none=>none
def zF{R:Type}(s:S)(d:Option Nat)(t:TypeId)(x:Operand)(lo:Option Operand)(hi mx:Operand)(k:S->Option R)(P:Program):Option R:=
 match P.underlying t with
 |some (.slice et)=>match s.EG (owns (Ed s.sl x))with
  |none=>none
  |some s=>match Ed s.sl x with
   | .val e l=>match e,l with
    | .list e,l=>match P.info? et with
     |some i=>Cm (Nat.beq i.size e.size&&Nat.ble 1 e.size) ((match UJ s.sl lo 0,bY (Ed s.sl hi),bY (Ed s.sl mx)with
      |some a,some b,some c=>Option.bind (Ik (decide (b<=c/\c<=Ac l))) λ_=>Option.bind (Bw l a b) λy=>k (s.Gm d (.val (.list e) y))
      |_,_,_=>none))<|none
     |none=>none
    |_,_=>none
   |_=>none
 |_=>none
def sD{R:Type}(P:Program)(s:S)(d:Option Nat)(t:TypeId)(x ix:Operand)(k:S->Option R):Option R:=
 match bY (Ed s.sl ix)with
 |none=>none
 |some j=>match P.underlying t with
  |some (.slice et)=>match P.info? et with
   |none=>none
   |some inf=>match Ed s.sl x with
    | .val e l=>match e,l with
     | .list e,l=>Cm (Nat.beq inf.size e.size&&Nat.ble 1 e.size) (Option.bind (Aj l j) λy=>k (s.Gm d (.rptr (e.pv y))))<|none
     |_,_=>none
    | .own i=>match Cb s.it i with
     | .arr _ e l=>Cm (Nat.beq inf.size e.size&&Nat.ble 1 e.size) (Option.bind (Aj l j) λ_=>k (s.Gm d (.ptr i [.idx j e.size])))<|none
     |_=>none
    | .view _ i p e lo n=>Cm (Nat.beq inf.size e.size&&Nat.ble 1 e.size) (Option.bind (Ik (decide (0<=j/\j<n))) λ_=>k (s.Gm d (.ptr i (p++[.idx (lo+j) e.size]))))<|none
    |_=>none
  |some (.array n et)=>match P.info? et with
   |none=>none
   |some inf=>match Ed s.sl x with
    | .ptr i p=>match Cb s.it i with
     | .box _ v=>match vR v p with
      |some (.val e l)=>match e,l with
       | .vec m e,l=>Cm (Nat.beq inf.size e.size&&Nat.ble 1 e.size&&Nat.beq m n) (Option.bind (Aj l j) λ_=>k (s.Gm d (.ptr i (p++[.idx j e.size]))))<|none
       |_,_=>none
      |_=>none
     |_=>none
    |_=>none
  |_=>none
def Acm{R:Type}(P:Program)(s:S)(d:Option Nat)(t:TypeId)(x:Operand)(k:S->Option R):Option R:=
 match Ed s.sl x with
 | .ptr i p=>getRoot (Cb s.it i) p λu=>Cm (Mu P t u) (k (s.Gm d u))<|none
 |_=>none
def Avu:Step->Bool| .idx _ _=>true|_=>false
def H8(s:S)(a x:Operand):Option S:=match Ed s.sl a with
 | .ptr _ p=>match p.any Avu with|true=>s.EG (owns (Ed s.sl x))|false=>some s
 |_=>none
def wL:PV->Bool| .tup _=>false| .cst _=>false| .any=>false| .view _ _ _ _ _ _=>false|v=>v.jf
def U9{R:Type}(P:Program)(s0:S)(t:TypeId)(a x:Operand)(k:S->Option R):Option R:=
 match H8 s0 a x with
 |none=>none
 |some s=>match Ed s.sl a with
  | .ptr i p=>match P.info? t with
   |some inf=>Cm (wL (Ed s.sl x)&&Nat.beq inf.size (Ed s.sl x).size&&Nat.blt 0 inf.size) (wF (Ed s.sl x) (Cb s.it i) p λit'=>k (s.Ub i it'))<|none
   |none=>none
  |_=>none
def Afd(s:S)(E:TypeId)(e:ET):PV->Option (S×Nat)
 | .nils=>some (s.add (.arr E e []),s.new)
 | .own i=>match Cb s.it i with
  | .arr E' e' _=>Cm (Nat.beq E E') ((if e'=e then some (s,i)else none))<|none
  |_=>none
 | .view true i p e1 lo n=>match Cb s.it i with
  | .arr E' e' l=>Cm (Nat.beq E E'&&decide (lo=0)&&decide (e1=e)) ((if h:e'=e then some (((s.Ub i .dead).sub i .any).add (.arr E e (SL (h▸l) 0 n)),s.new)else none))<|none
  |_=>none
 |_=>none
def Ato(e:ET):Item->Option (List e.T)
 | .arr _ e' l=>if h:e'=e then some (h▸l)else none
 |_=>none
def Atn{R:Type}(P:Program)(s:S)(E:TypeId)(e:ET)(t2:TypeId)(y:Operand)(k:List e.T->Option R):Option R:=
 match P.underlying t2 with
 |some .string=>match Ed s.sl y with
  | .val .str m=>(match jB (.list (.int .u8)) (.list e) m with|some m=>k m|none=>none)
  |_=>none
 |some (.slice _)=>match elems s e (Ed s.sl y)with|some m=>k m|none=>none
 |some (.int _)=>match asInt (Ed s.sl y),zeroOf P E with
  |some n,some z=>match e.of z with
   |some z=>Option.bind (mkI n z) k
   |none=>none
  |_,_=>none
 |_=>none
def yA{R:Type}(P:Program)(s:S)(d:Option Nat)(x y:Operand)(t t2:TypeId)(k:S->Option R):Option R:=
 match tG P t with
 |none=>none
 |some E=>match Adt P Q E with
  |none=>none
  |some e=>Cm (B0 P E e&&(Ed s.sl x).jf) ((match Afd s E e (Ed s.sl x)with
   |none=>none
   |some (s1,i)=>match Ato e (Cb s1.it i)with
    |none=>none
    |some l=>Atn P s E e t2 y λm=>Option.bind (Db l m) λr=>k ((((s1.Ub i .dead).sub i .any).add (.arr E e r)).Gm d (.own s1.new))))<|none
def Amt(P:Program)(s:S)(e:ET)(t2:TypeId)(y:Operand):Option (List e.T):=
 match P.underlying t2 with
 |some .string=>match Ed s.sl y with
  | .val .str m=>jB (.list (.int .u8)) (.list e) m
  |_=>none
 |some (.slice _)=>Akz s e (Ed s.sl y)
 |_=>none
def U6{R:Type}(P:Program)(s:S)(d:Option Nat)(x y:Operand)(t t2:TypeId)(k:S->Option R):Option R:=
 match tG P t with
 |none=>none
 |some E=>match P.info? E with
  |none=>none
  |some inf=>match Ed s.sl x with
   | .own i=>match Cb s.it i with
    | .arr E' e l=>Cm (Nat.beq inf.size e.size&&Nat.ble 1 e.size) ((match Amt P s e t2 y with
     |some m=>k ((s.Ub i (.arr E' e (G8 l m))).Gm d (.i .i64 (RA (Ac l) m.length)))
     |none=>none))<|none
    |_=>none
   | .view true i _ e1 lo n=>match Cb s.it i with
    | .arr E' e l=>Cm (Nat.beq inf.size e.size&&Nat.ble 1 e.size&&decide (e1=e)) ((match Amt P s e t2 y with
     |some m=>k ((s.Ub i (.arr E' e (Sr l lo n m))).Gm d (.i .i64 (RA n m.length)))
     |none=>none))<|none
    |_=>none
   | .view false i p e1 lo n=>match Cb s.it i with
    | .box T v=>match vR v p with
     |some (.val a x)=>match a,x with
      | .vec q e,l=>Cm (Nat.beq inf.size e.size&&Nat.ble 1 e.size&&decide (e1=e)&&decide (0<=lo/\0<=n/\lo+n<=q)) ((match Amt P s e t2 y with
       |some m=>X7 (.val (.vec q e) (Sr l lo n m)) v p λv'=>k ((s.Ub i (.box T v')).Gm d (.i .i64 (RA n m.length)))
       |none=>none))<|none
      |_,_=>none
     |_=>none
    |_=>none
   |_=>none
def S0{R:Type}(P:Program)(s:S)(d:Option Nat)(t:TypeId)(parts:List (Nat×Operand))(k:S->Option R):Option R:=
 match P.underlying t,zeroOf P t with
 |some (.struct fs),some (.agg zs)=>Cm (WQ P fs.toList zs 0) ((match iX (parts.map λp=>(p.1,Ed s.sl p.2)) zs with
  |some l=>k (s.Gm d (.agg l))
  |none=>none))<|none
 |some (.array _ et),some (.val e l)=>match e,l with
  | .vec m a,l=>match P.info? et,zW a (parts.map λp=>(p.1,Ed s.sl p.2)) l with
   |some inf,some l'=>Cm (Nat.beq inf.size a.size) (k (s.Gm d (.val (.vec m a) l')))<|none
   |_,_=>none
  |_,_=>none
 |_,_=>none
def aV{R:Type}(P:Program)(s0:S)(d:Option Nat)(t:TypeId)(len:Nat)(parts:List (Nat×Operand))(k:S->Option R):Option R:=
 match tG P t with
 |none=>none
 |some E=>match Adt P Q E with
  |none=>none
  |some e=>Cm (B0 P E e&&Afm 0 parts&&Nat.beq parts.length len&&Nat.ble (len*e.size) 4096) ((match s0.EG (owns.go (parts.map λp=>Ed s0.sl p.2))with
   |none=>none
   |some s=>match K6 e (parts.map λp=>Ed s.sl p.2)with
    |some l=>k ((s.add (.arr E e l)).Gm d (.own s.new))
    |none=>none))<|none
def Acf{R:Type}(P:Program)(s:S)(d:Option Nat)(t:TypeId)(a b:Operand)(k:S->Option R):Option R:=
 match tG P t with
 |none=>none
 |some E=>match Adt P Q E with
  |none=>none
  |some e=>Cm (B0 P E e) ((match asInt (Ed s.sl a),asInt (Ed s.sl b),zeroOf P E with
   |some n,some n',some z=>match e.of z with
    |some z=>Option.bind (mkI n z) λl=>Option.bind (Ik (geq n' n)) λ_=>k ((s.add (.arr E e l)).Gm d (.own s.new))
    |none=>none
   |_,_,_=>none))<|none
def ET.G7:ET->Bool| .list _=>true| .vec _ e=>e.G7| .cons a r=>a.G7||r.G7|_=>false
def Ami:ET×Option TypeId->Bool|(.list e,some _)=>e.G7|(e,_)=>e.G7
def Arl(rs:List Sh):Bool:=(Rt rs).any Ami
def yT(c:Con):Bool:=Arl c.rs
def L6(l:List (ET×Option TypeId)):Bool:=l.all λp=>p.2.isNone
def Ad2{R:Type}(P:Program)(T:Tab)(inl:sZ R)(s0:S)(d:Option Nat)(f:Nat)(caps:List PV)(as:List Operand)(k:S->Option R):Option R:=
 match T.get f with
 |some c=>match caps with
  |[]=>match Ag1 c.ps (as.map (Ed s0.sl))with
   |none=>none
   |some ls0=>match(match yT c with|true=>s0.EG (Tf (Rt c.ps) ls0)|false=>some s0)with
    |none=>none
    |some s=>Cm (!Aaa (as.map (Ed s.sl))) (none)<|match Ag1 c.ps (as.map (Ed s.sl))with
     |none=>none
     |some ls=>Cm (yT c&& !(Tf (Rt c.ps) ls).isEmpty) (none)<|match PN s (Rt c.ps) ls with
      |none=>none
      |some x=>match consume s (Rt c.ps) ls with
       |none=>none
       |some is=>Cm (!((Tf (Rt c.ps) ls).all λi=>!Xt i is)) (none)<|match s.vG is with
        |none=>none
        |some s1=>Option.bind (c.fn x) λy=>
         match Fc (Rt c.rs) y s1 with
         |(us,s')=>match fK c.rs us with
          |some vs=>k (s'.Gm d (uq vs))
          |none=>none
  |_=>none
 |none=>Cm (Aaa (as.map (Ed s0.sl))) (inl f (as.map (Ed s0.sl)++caps) s0 (λs v=>k (s.Gm d v)))<|none
open Classical in
noncomputable def both{R:Type}(a:Option R):List (Option R)->Option R
 |[]=>a
 |b::r=>if a=b then both a r else none
theorem rV{R:Type}(a:Option R):both a [a]=a:=by simp[both]
noncomputable def R6{R α:Type}(l:List α)(a b:Option R):Option R:=match l with|[]=>both a [b]|_::_=>b
theorem Ars{R α:Type}{l:List α}{a b:Option R}(h:l=[]->a=b):R6 l a b=b:=by
 cases l with
 |nil=>rw[h rfl];simp[R6,rV]
 |cons _ _=>rfl
noncomputable def Al3{R:Type}(P:Program)(s:S)(dn:Nat)(o:BinOp)(t:TypeId)(x:PV)(k:S->Option R):Option R:=
 match yX o,P.underlying t with
 |some y,some (.slice _)=>match x with
  | .nils=>k (s.set dn (.b y))
  | .val e l=>match e,l with
   | .list e,l=>Cm (Nat.ble 1 e.size) (R6 l (k (s.set dn (.b y))) (k (s.set dn (.b (!y)))))<|none
   |_,_=>none
  | .own i=>match Cb s.it i with
   | .arr _ e l=>Cm (Nat.ble 1 e.size) (R6 l (k (s.set dn (.b y))) (k (s.set dn (.b (!y)))))<|none
   |_=>none
  |_=>none
 |_,_=>none
def nX{R:Type}(P:Program)(T:Tab)(s:S)(dn:Nat)(g:Nat)(o:Op)(k:S->Option R):Option R:=
 match o with
 | .load t _=>match T.glv P g t with
  |some v=>Cm (Mu P t v) (k (s.set dn v))<|none
  |none=>none
 | .indexAddr t _ ix=>match bY (Ed s.sl ix),P.underlying t,T.glv P g t with
  |some j,some (.array m et),some (.val e l)=>match P.info? et,e,l with
   |some inf, .vec m' e,l=>Cm (Nat.beq m' m&&Nat.beq inf.size e.size&&Nat.ble 1 e.size) (Option.bind (Aj l j) λy=>k (s.set dn (.rptr (e.pv y))))<|none
   |_,_,_=>none
  |_,_,_=>none
 | .slice t _ lo hi none=>match Afy P t with
  |some (u,m,et)=>match T.glv P g u with
   |some (.val e l)=>match P.info? et,e,l with
    |some inf, .vec m' e,l=>Cm (Nat.beq m' m&&Nat.beq inf.size e.size&&Nat.ble 1 e.size) ((match UJ s.sl lo 0,UJ s.sl hi m with
     |some a,some b=>Option.bind (Bw l a b) λy=>k (s.set dn (.val (.list e) y))
     |_,_=>none))<|none
    |_,_,_=>none
   |_=>none
  |none=>none
 |_=>none
noncomputable def op2{R:Type}(P:Program)(T:Tab)(inl:sZ R)(s:S)(dn:Nat)(ty:TypeId)(o:Op)(k:S->Option R):Option R:=
 match o with
 | .binOp o t x y _=>match Ed s.sl x,Ed s.sl y with
  | .val (.int a) u, .val (.int b) v=>match Ag9 o b v,Ajl o a u b v with
   |some c,some r=>Option.bind (Ik c) λ_=>k (s.set dn r)
   |_,_=>none
  | .val .str u, .val .str v=>match o with
   | .add=>Option.bind (Db u v) λr=>k (s.set dn (.val .str r))
   |_=>none
  |a, .nils=>Al3 P s dn o t a k
  |_,_=>none
 | .index t x ix=>match bY (Ed s.sl ix),Ed s.sl x with
  |some j, .val e0 l0=>match e0,l0,P.underlying t with
   | .str,l,some .string=>Option.bind (Aj l j) λy=>k (s.set dn (.i .u8 y))
   | .vec n e,l,some (.array m et)=>Cm (Nat.beq m n) (Option.bind (Aj l j) λy=>Cm (Mu P et (e.pv y)) (k (s.set dn (e.pv y)))<|none)<|none
   |_,_,_=>none
  |_,_=>none
 | .slice t x lo hi none=>match x with
  | .global g=>nX P T s dn g (.slice t x lo hi none) k
  |x=>T9 T.vw s (some dn) t x lo hi k P
 | .indexAddr t x ix=>match x with
  | .global g=>nX P T s dn g (.indexAddr t x ix) k
  |x=>sD P s (some dn) t x ix k
 | .load t x=>match x with
  | .global g=>nX P T s dn g (.load t x) k
  |x=>Acm P s (some dn) t x k
 | .alloc t=>match zeroOf P t with
  |some v=>k ((s.add (.box t v)).Gm (some dn) (.ptr s.new []))
  |none=>none
 | .box t x=>Cm (wL (Ed s.sl x)) (k ((s.add (.box t (Ed s.sl x))).Gm (some dn) (.ptr s.new [])))<|none
 | .assign (.const (.agg cs))=>match nA P ty (.agg cs)with
  |some v=>Cm (v.isA) (k (s.set dn v))<|none
  |none=>none
 | .move (.const (.agg cs))=>match nA P ty (.agg cs)with
  |some v=>Cm (v.isA) (k (s.set dn v))<|none
  |none=>none
 | .build t ps=>S0 P s (some dn) t ps.toList k
 | .buildSlice t n ps=>aV P s (some dn) t n ps.toList k
 | .makeSlice t a b=>Acf P s (some dn) t a b k
 | .convert a t x=>match P.underlying a,P.underlying t with
  |some .string,some (.slice e)=>match P.underlying e,Ed s.sl x with
   |some (.int .u8), .val .str l=>k ((s.add (.arr e (.int .u8) l)).Gm (some dn) (.own s.new))
   |_,_=>none
  |some (.slice _),some (.slice e)=>Cm (Nat.beq a t) ((match P.underlying e,Ed s.sl x with
   |some (.int .u8), .own i=>(match Cb s.it i with
    | .arr _ e' l=>match e',l with
     | .int .u8,_::_=>k (s.Gm (some dn) (.own i))
     |_,_=>none
    |_=>none)
   |_,_=>none))<|none
  |_,_=>none
 | .call ⟨.builtin .append,as,ts⟩=>match as.toList,ts.toList with
  |[x,y],[t,t2]=>yA P s (some dn) x y t t2 k
  |_,_=>none
 | .call ⟨.builtin .copy,as,ts⟩=>match as.toList,ts.toList with
  |[x,y],[t,t2]=>U6 P s (some dn) x y t t2 k
  |_,_=>none
 | .call ⟨.builtin .cap,as,ts⟩=>match as.toList,ts.toList with
  |[x],[t]=>match P.underlying t,Ed s.sl x with
   |some (.slice _), .nils=>k (s.set dn (.i .i64 (0:Int)))
   |_,_=>none
  |_,_=>none
 | .call ⟨.value g,as,_⟩=>match Ed s.sl g with
  | .fn f caps=>Ad2 P T inl s (some dn) f caps as.toList k
  |_=>none
 | .slice t x lo (some hi) (some mx)=>zF s (some dn) t x lo hi mx k P
 |_=>none
noncomputable def exU{R:Type}(P:Program)(T:Tab)(inl:sZ R)(o:Oper)(s:S)(k:S->Option R):Option R:=
 match op0 P s o.op with
 |some v=>k (s.Gm o.dst v)
 |none=>match op1 P s o.op with
  |some v=>k (s.Gm o.dst v)
  |none=>match o.dst with
   |some dn=>op2 P T inl s dn o.type o.op k
   |none=>match o.op with
    | .store t a x=>U9 P s t a x k
    | .call ⟨.builtin .copy,as,ts⟩=>match as.toList,ts.toList with
     |[x,y],[t,t2]=>U6 P s none x y t t2 k
     |_,_=>none
    |_=>none
noncomputable def exG{R:Type}(P:Program)(T:Tab)(inl:sZ R)(o:Oper)(t:Nat)(want:Bool)(s:S)(k:S->Option R):Option R:=
 let on (bv:Bool):Option R:=Cm (mJ want bv) (exU P T inl o (s.res t bv) k)<|k ((s.res t bv).Gm o.dst .off)
 match AV s.sl t with
 | .cst (.bool b)=>Cm (mJ want b) (exU P T inl o s k)<|k (s.Gm o.dst .off)
 | .off=>k (s.Gm o.dst .off)
 | .val .bool b=>match o.dst,op0 P (s.res t want) o.op,op1 P (s.res t want) o.op with
  |some d,some v,_=>Cm (Nat.beq d t) (none)<|k (s.set d (.gd t want v))
  |some d,none,some v=>Cm (Nat.beq d t) (none)<|k (s.set d (.gd t want v))
  |_,_,_=>if b=true then on true else on false
 |_=>none
def Jt(n:Nat)(o:Oper):Bool:=match o.dst with|some d=>Nat.blt d n|none=>true
noncomputable def yK{R:Type}(P:Program)(T:Tab)(inl:sZ R)(n:Nat)(ops:Array Oper)(o:Oper)(s:S)(k:S->Option R):Option R:=
 Cm (!Jt n o) (none)<|match o.guard with
 |none=>exU P T inl o s k
 |some (j,want)=>match(ops[j]?).bind (·.dst)with
  |none=>none
  |some t=>match AV s.sl t with
   | .gd t2 w2 v=>match AV s.sl t2 with
    | .val .bool b=>if b=true then exG P T inl o t want (s.res t2 true) k else exG P T inl o t want (s.res t2 false) k
    |_=>none
   |_=>exG P T inl o t want s k
noncomputable def lO{R:Type}(P:Program)(T:Tab)(inl:sZ R)(n:Nat)(ops:Array Oper):List Oper->S-> (S->Option R)->Option R
 |[],s,k=>k s
 |o::r,s,k=>yK P T inl n ops o s λs'=>lO P T inl n ops r s' k
def brk(T:Tab)(o:Oper):Bool:=match o.op with
 | .store _ _ _=>true
 | .call ⟨.builtin .append,_,_⟩=>true
 | .call ⟨.builtin .copy,_,_⟩=>true
 | .call ⟨.value (.func f),_,_⟩=>match T.get f with|some c=>!L6 (Rt c.ps)|none=>true
 | .call ⟨.value _,_,_⟩=>true
 |_=>false
def N3(T:Tab)(s:S)(o:Oper):Bool:=match o.op with
 | .slice _ x _ _ _=>(owns (Ed s.sl x)).isEmpty
 | .buildSlice _ _ ps=>(owns.go (ps.toList.map λp=>Ed s.sl p.2)).isEmpty
 | .call ⟨.value (.func f),as,_⟩=>match T.get f with
  |some c=>L6 (Rt c.ps)&&(!yT c||(owns.go (as.toList.map (Ed s.sl))).isEmpty)
  |none=>false
 |_=>!brk T o
def tw(z:Array Bool)(i:Nat):Bool:=z.getD i false
def calm(o:Oper):Bool:=o.guard.isNone&&(match o.op with
 | .load _ _=>true| .fieldAddr _ _ _=>true| .move _=>true| .binOp _ _ _ _ _=>true| .unOp _ _ _=>true| .extract _ _=>true| .pick _ _ _=>true
 | .buildSlice _ _ ps=>ps.isEmpty
 |_=>false)
def At7(T:Tab)(listed:Array Bool):List Oper->Nat->Bool->Array Bool->Array Bool
 |[],_,_,acc=>acc
 |o::r,i,ahead,acc=>Cm (brk T o&& !(listed.getD i true)) (At7 T listed r (i+1) false (acc.push false))<|At7 T listed r (i+1) ahead (acc.push (ahead||(listed.getD i false||(calm o&&o.after.all λe=>acc.getD e.on false))))
def Aum(P:Program)(T:Tab):Op->Option PV
 | .load t (.global g)=>match T.glv P g t with
  |some v=>Cm (Mu P t v) (some v)<|none
  |none=>none
 |_=>none
def uC(P:Program)(T:Tab)(mem:Bool)(s:S)(o:Op):Option PV:=match op0 P s o with
 |some v=>some v
 |none=>match(Cm (mem) (op1 P s o)<|none)with|some v=>some v|none=>Aum P T o
def eu(P:Program)(T:Tab)(n:Nat)(mem:Bool)(ops:Array Oper)(o:Oper)(s:S):Option (Nat×PV):=
 match o.dst with
 |none=>none
 |some d=>Cm (!Nat.blt d n) (none)<|match o.guard with
  |none=>(uC P T mem s o.op).map λv=>(d,v)
  |some (j,want)=>match(ops[j]?).bind (·.dst)with
   |none=>none
   |some t=>match AV s.sl t with
    | .cst (.bool b)=>Cm (mJ want b) ((uC P T mem s o.op).map λv=>(d,v))<|some (d, .off)
    | .val .bool b=>Cm (Nat.beq d t) (none)<|(uC P T mem (s.res t want) o.op).map λv=>(d, .gd t want v)
    |_=>none
def AD(P:Program)(Tb:Tab)(n:Nat)(mem:Bool)(ops:Array Oper)(T:Array Bool)(listed:Array Bool)(s:S):List Nat->Option (Nat×Nat×PV)
 |[]=>none
 |i::r=>match ops[i]? with
  |none=>none
  |some o=>match(Cm (AK ops (tw T) listed i) (eu P Tb n mem ops o s)<|none)with
   |some (d,v)=>some (i,d,v)
   |none=>AD P Tb n mem ops T listed s r
structure BV where
 X:Type
 E:Option X
 v:X->PV
def bnd(P:Program)(s:S)(o:Op):Option BV:=match o with
 | .binOp o _ x y _=>match Ed s.sl x,Ed s.sl y with
  | .val (.int a) u, .val (.int b) v=>match Ag9 o b v,Ajl o a u b v with
   |some c,some r=>some ⟨Unit,Ik c,λ_=>r⟩
   |_,_=>none
  | .val .str u, .val .str v=>match o with
   | .add=>some ⟨List UInt8,Db u v, .val .str⟩
   |_=>none
  |_,_=>none
 | .index t x ix=>match bY (Ed s.sl ix),Ed s.sl x,P.underlying t with
  |some j, .val .str l,some .string=>some ⟨UInt8,Aj l j, .i .u8⟩
  |_,_,_=>none
 | .slice t x lo hi mx=>match mx,P.underlying t with
  |none,some .string=>match Ed s.sl x with
   | .val .str l=>match UJ s.sl lo 0,UJ s.sl hi (Ac l)with
    |some a,some b=>some ⟨List UInt8,Bw l a b, .val .str⟩
    |_,_=>none
   |_=>none
  |none,some (.slice et)=>match Ed s.sl x with
   | .val e l=>match e,l with
    | .list e,l=>match P.info? et with
     |some i=>Cm (Nat.beq i.size e.size&&Nat.ble 1 e.size) ((match UJ s.sl lo 0,UJ s.sl hi (Ac l)with
      |some a,some b=>some ⟨List e.T,Bw l a b, .val (.list e)⟩
      |_,_=>none))<|none
     |none=>none
    |_,_=>none
   |_=>none
  |_,_=>none
 | .indexAddr t x ix=>match bY (Ed s.sl ix)with
  |none=>none
  |some j=>match P.underlying t with
   |some (.slice et)=>match P.info? et with
    |none=>none
    |some inf=>match Ed s.sl x with
     | .val e l=>match e,l with
      | .list e,l=>Cm (Nat.beq inf.size e.size&&Nat.ble 1 e.size) (some ⟨e.T,Aj l j,λy=> .rptr (e.pv y)⟩)<|none
      |_,_=>none
     | .own i=>match Cb s.it i with
      | .arr _ e l=>Cm (Nat.beq inf.size e.size&&Nat.ble 1 e.size) (some ⟨e.T,Aj l j,λ_=> .ptr i [.idx j e.size]⟩)<|none
      |_=>none
     | .view _ i p e lo n=>Cm (Nat.beq inf.size e.size&&Nat.ble 1 e.size) (some ⟨Unit,Ik (decide (0<=j/\j<n)),λ_=> .ptr i (p++[.idx (lo+j) e.size])⟩)<|none
     |_=>none
   |some (.array n et)=>match P.info? et with
    |none=>none
    |some inf=>match Ed s.sl x with
     | .ptr i p=>match Cb s.it i with
      | .box _ v=>match vR v p with
       |some (.val e l)=>match e,l with
        | .vec m e,l=>Cm (Nat.beq inf.size e.size&&Nat.ble 1 e.size&&Nat.beq m n) (some ⟨e.T,Aj l j,λ_=> .ptr i (p++[.idx j e.size])⟩)<|none
        |_,_=>none
       |_=>none
      |_=>none
     |_=>none
   |_=>none
 |_=>none
inductive BG|on (b:BV)|ask (t:Nat) (want bv:Bool) (b:BV)
def M5(P:Program)(n:Nat)(ops:Array Oper)(o:Oper)(s:S):Option (Nat×BG):=
 match o.dst with
 |none=>none
 |some d=>Cm (!Nat.blt d n) (none)<|match o.guard with
  |none=>(bnd P s o.op).map λb=>(d, .on b)
  |some (j,want)=>match(ops[j]?).bind (·.dst)with
   |none=>none
   |some t=>match AV s.sl t with
    | .cst (.bool b)=>Cm (mJ want b) ((bnd P s o.op).map λb=>(d, .on b))<|none
    | .val .bool b=>Cm (Nat.beq d t) (none)<|(bnd P (s.res t want) o.op).map λB=>(d, .ask t want b B)
    |_=>none
def JE(P:Program)(n:Nat)(ops:Array Oper)(T:Array Bool)(listed:Array Bool)(s:S):List Nat->Option (Nat×Nat×BG)
 |[]=>none
 |i::r=>match ops[i]? with
  |none=>none
  |some o=>match(Cm (AK ops (tw T) listed i) (M5 P n ops o s)<|none)with
   |some (d,v)=>some (i,d,v)
   |none=>JE P n ops T listed s r
def Aqd(s:S)(d:Nat)(o:Op):Option (Nat×TypeId×Nat×List Step):=match o with
 | .load t x=>match Ed s.sl x with
  | .ptr i p=>match Cb s.it i with| .dead=>none|_=>some (d,t,i,p)
  |_=>none
 |_=>none
def Arh(n:Nat)(ops:Array Oper)(o:Oper)(s:S):Option (Nat×TypeId×Nat×List Step):=
 match o.dst with
 |none=>none
 |some d=>Cm (!Nat.blt d n) (none)<|match o.guard with
  |none=>Aqd s d o.op
  |some (j,want)=>match(ops[j]?).bind (·.dst)with
   |none=>none
   |some t=>match AV s.sl t with
    | .cst (.bool b)=>Cm (mJ want b) (Aqd s d o.op)<|none
    |_=>none
def TG(n:Nat)(ops:Array Oper)(T:Array Bool)(listed:Array Bool)(s:S):List Nat->Option (Nat×Nat×TypeId×Nat×List Step)
 |[]=>none
 |i::r=>match ops[i]? with
  |none=>none
  |some o=>match(Cm (AK ops (tw T) listed i) (Arh n ops o s)<|none)with
   |some v=>some (i,v)
   |none=>TG n ops T listed s r
def gOk(ops:Array Oper)(s:S)(o:Oper):Bool:=match o.guard with
 |none=>true
 |some (j,_)=>match(ops[j]?).bind (·.dst)with
  |none=>false
  |some t=>match AV s.sl t with| .cst (.bool _)=>true|_=>false
def Acj(ops:Array Oper)(s:S)(i:Nat):Option (Nat×Bool):=match ops[i]? with
 |none=>none
 |some o=>match o.guard with
  |none=>none
  |some (j,_)=>match(ops[j]?).bind (·.dst)with
   |none=>none
   |some t=>match AV s.sl t with
    | .val .bool b=>some (t,b)
    | .gd t2 _ _=>match AV s.sl t2 with
     | .val .bool b=>some (t2,b)
     |_=>none
    |_=>none
def ZN{R:Type}(ops:Array Oper):List Nat->S-> (S->Option R)->Option R
 |[],s,k=>k s
 |i::r,s,k=>match Acj ops s i with
  |some (t,b)=>if b=true then ZN ops r (s.res t true) k else ZN ops r (s.res t false) k
  |none=>ZN ops r s k
noncomputable def SW{R:Type}(P:Program)(T:Tab)(inl:sZ R)(n:Nat)(mem:Bool)(ops:Array Oper):Nat->Array Bool->Array Bool->S-> (S->Option R)->Option R
 |fuel,z0,listed,s,k=>match Region.ready .any ops listed with
  |[]=>k s
  |i::is=>match fuel with
   |0=>none
   |fuel+1=>
    let z:=Cm (mem&&QX (tw z0) listed) (At7 T listed ops.toList 0 true #[])<|z0
    let main (s:S) (fin:S->Option R):Option R:=
     match AD P T n mem ops z listed s (i::is)with
     |some (i,d,v)=>SW P T inl n mem ops fuel z (listed.setIfInBounds i true) (s.set d v) k
     |none=>match JE P n ops z listed s (i::is)with
     |some (i,d, .on b)=>Option.bind b.E λx=>SW P T inl n mem ops fuel z (listed.setIfInBounds i true) (s.set d (b.v x)) k
     |some (i,d, .ask t want bv b)=>
      let on (c:Bool):Option R:=Cm (mJ want c) (Option.bind b.E λx=>SW P T inl n mem ops fuel z (listed.setIfInBounds i true) ((s.res t c).set d (b.v x)) k)<|SW P T inl n mem ops fuel z (listed.setIfInBounds i true) ((s.res t c).set d .off) k
      if bv=true then on true else on false
     |none=>match(Cm (mem) (TG n ops z listed s (i::is))<|none)with
     |some (i,d,t,j,p)=>getRoot (Cb s.it j) p λu=>Cm (Mu P t u) (SW P T inl n mem ops fuel z (listed.setIfInBounds i true) (s.set d u) k)<|none
     |none=>fin s
    let one (s:S) (i:Nat):Option R:=match ops[i]? with
      |some o=>Cm (mem&& !((N3 T s o&&gOk ops s o)||(!tw z i&&QX (tw z) (listed.setIfInBounds i true)))) (none)<|
       yK P T inl n ops o s λs'=>SW P T inl n mem ops fuel z (listed.setIfInBounds i true) s' k
      |none=>none
    let rest (s:S):Option R:=both (one s i) (is.map (one s))
    main s λs=>Cm mem (ZN ops ((i::is)++(i::is)) s λs=>main s rest)<|rest s
inductive Co|own (E:TypeId) (e:ET)|ro (e:ET)
structure At where
 t:Nat
 p:List Nat
 c:Co
def atV:PV->List Nat->Option PV
 |v,[]=>some v
 | .agg l,n::r=>match l[n]? with|some v=>atV v r|none=>none
 |_,_=>none
def Adp(new:PV):PV->List Nat->Option PV
 |_,[]=>some new
 | .agg l,n::r=>match l[n]? with
  |some v=>match Adp new v r with|some v'=>some (.agg (l.set n v'))|none=>none
  |none=>none
 |_,_=>none
def Ads(t:Nat)(new:PV):Slots->Slots
 |[]=>[]
 |(q,v)::r=>Cm (Nat.beq q t) ((q,new)::r)<|(q,v)::Ads t new r
def Av4:PV->List Nat->Option (Nat×List Nat)
 | .ptr i [],p=>some (i,p)
 | .fn _ l,n::r=>match l[n]? with
  |some v=>(match v with| .ptr i []=>some (i,r)|_=>none)
  |none=>none
 |_,_=>none
def Aup(s:S)(a:At):Option S:=
 let go (v:PV) (put:S->PV->Option S):Option S:=match a.c,v with
  | .own E e, .nils=>put (s.add (.arr E e [])) (.own s.new)
  | .own _ _, .own _=>some s
  | .ro e, .nils=>put s (.val (.list e) [])
  | .ro _, .own i=>s.freeze i
  | .ro _, .val (.list _) _=>some s
  |_,_=>none
 match Av4 (AV s.sl a.t) a.p with
 |some (i,q)=>(match Cb s.it i with
  | .box T v=>match atV v q with
   |some u=>go u λs' n=>match Adp n v q with
    |some v'=>some (s'.Ub i (.box T v'))
    |none=>none
   |none=>none
  |_=>none)
 |none=>match AV s.sl a.t with
 | .view o i p e1 lo n=>match a.c,a.p with
  | .own E e,[]=>Cm (Nat.blt 0 e.size) ((match Afd s E e (.view o i p e1 lo n)with
   |some (s',j)=>some ⟨Ads a.t (.own j) s'.sl,s'.it,s'.st⟩
   |none=>none))<|none
  |_,_=>none
 |v=>match atV v a.p with
  |some u=>go u λs' n=>match Adp n v a.p with
   |some v'=>some ⟨Ads a.t v' s'.sl,s'.it,s'.st⟩
   |none=>none
  |none=>none
def Aky(s:S):List At->Option S
 |[]=>some s
 |a::r=>match Aup s a with|some s'=>Aky s' r|none=>none
def mE(s:Slots):List Nat->Slots
 |[]=>[]
 |t::r=>match AV s t with
  | .undef=>mE s r
  | .off=>mE s r
  | .gd _ _ _=>mE s r
  |v=>(t,v)::mE s r
def Atl:Item->List Nat| .box _ v=>Atb v|_=>[]
def reach(it:List Item):Nat->List Nat->List Nat->List Nat
 |0,_,seen=>seen
 |_+1,[],seen=>seen
 |q+1,i::r,seen=>Cm (Xt i seen) (reach it q r seen)<|reach it q (r++Atl (Cb it i)) (seen++[i])
def posOf(i:Nat):List Nat->Nat->Option Nat
 |[],_=>none
 |j::r,n=>Cm (Nat.beq i j) (some n)<|posOf i r (n+1)
def E6(o:List Nat):PV->PV
 | .own i=>match posOf i o 0 with|some j=> .own j|none=> .any
 | .ptr i p=>match posOf i o 0 with|some j=> .ptr j p|none=> .any
 | .view w i p e lo n=>match posOf i o 0 with|some j=> .view w j p e lo n|none=> .any
 | .agg l=> .agg (go o l)
 | .tup l=> .tup (go o l)
 | .fn f l=> .fn f (go o l)
 | .gd t w v=> .gd t w (E6 o v)
 | .rptr v=> .rptr (E6 o v)
 |v=>v
where go (o:List Nat):List PV->List PV
 |[]=>[]
 |a::r=>E6 o a::go o r
def Ar7(o:List Nat):Item->Item| .box T v=> .box T (E6 o v)|a=>a
def Ag0(o:List Nat)(l:Slots):Slots:=l.map λp=>(p.1,E6 o p.2)
def jm(l:Slots):List Nat:=(l.map λp=>Atb p.2).flatten
def S.canon(s:S)(lv:List Nat):S:=
 let sl:=mE s.sl lv
 let o:=reach s.it 200 (jm sl++(s.st.map jm).flatten) []
 ⟨Ag0 o sl,o.map λi=>Ar7 o (Cb s.it i),s.st.map (Ag0 o)⟩
def S.cn(s:S)(lv:List Nat)(co:List At):Option S:=match Aky s co with|some s'=>some (s'.canon lv)|none=>none
inductive An
 |d
 |seq (a b:An)
 |cut (lv:List Nat) (co:List At) (a b:An)
 |blk (a:An)
 |loop (lv:List Nat) (co:List At) (a:An)
 |cond (a b:An)
 |mode (mem:Bool)
 |keep (lv:List Nat) (mem:Bool)
def sI:An->Bool| .mode b=>b| .keep _ b=>b|_=>true
def jg{R:Type}(an:An)(inl:sZ R):sZ R:=match an with| .keep lv _=>λf as s k=>inl f as ⟨mE s.sl lv,s.it,s.st⟩ k|_=>inl
def An.l:An->An| .seq a _=>a| .cut _ _ a _=>a| .cond a _=>a| .blk a=>a| .loop _ _ a=>a|_=> .d
def An.r:An->An| .seq _ b=>b| .cut _ _ _ b=>b| .cond _ b=>b|_=> .d
structure K (R:Type)where
 n:S->Option R
 x:Nat->S->Option R
 r:S->Option R
def hold{R:Type}(k:S->Option R)(s:S):Option R:=k s
def G4{R:Type}(an:An)(k:S->Option R)(s:S):Option R:=match an with
 | .cut lv co _ _=>match s.cn lv co with|some s'=>hold k s'|none=>none
 |_=>k s
def TL{R:Type}(an:An)(k:S->Option R)(s:S):Option R:=match an with
 | .loop lv co _=>match s.cn lv co with|some s'=>k s'|none=>none
 |_=>none
def iter{R:Type}(an:An)(body:(S->Option R)->S->Option R):Nat->S->Option R
 |0,_=>none
 |q+1,s=>body (TL an (iter an body q)) s
noncomputable def Asm:{n:Nat//n=Ar}:=Classical.choice ⟨⟨Ar,rfl⟩⟩
noncomputable def Cy:Nat:=Asm.1
theorem Az:Cy=Ar:=Asm.2
noncomputable def ex{R:Type}(P:Program)(T:Tab)(inl:sZ R)(n:Nat):Code->An->K R->S->Option R
 | .skip,_,k,s=>k.n s
 | .ret,_,k,s=>k.r s
 | .exit id,_,k,s=>k.x id s
 | .seq a b,an,k,s=>ex P T inl n a an.l {k with n:=G4 an λs'=>ex P T inl n b an.r k s'} s
 | .cond c a b,an,k,s=>match Ed s.sl c with
  | .val .bool t=>if t=true then ex P T inl n a an.l k s else ex P T inl n b an.r k s
  |_=>none
 | .block id a,an,k,s=>ex P T inl n a an.l {k with x:=λid' s'=>Cm (Nat.beq id' id) (k.n s')<|k.x id' s'} s
 | .loop a,an,k,s=>TL an (iter an (λkn s'=>ex P T inl n a an.l {k with n:=kn} s') Cy) s
 | .region _ ops false,an,k,s=>Cm (mF ops.toList) (lO P T (jg an inl) n ops ops.toList s k.n)<|none
 | .region _ ops true,an,k,s=>Cm (mF ops.toList) (SW P T (jg an inl) n (sI an) ops ops.size (Cm (sI an) (#[])<|Array.replicate ops.size true) (Array.replicate ops.size false) s k.n)<|none
 |_,_,_,_=>none
def Xk:Nat->List PV->Slots
 |_,[]=>[]
 |n,a::r=>(n,a)::Xk (n+1) r
def Adi(P:Program)(s:S):ResultVar->Option PV
 | .tmp t=>Cm ((Ed s.sl (.tmp t)).jf) (some (Ed s.sl (.tmp t)))<|none
 | .cell a t=>match AV s.sl a with
  | .ptr i p=>match Cb s.it i with
   | .box _ v=>match vR v p with
    |some u=>Cm (Mu P t u) (some u)<|none
    |none=>none
   |_=>none
  |_=>none
def tN(P:Program)(s:S):List ResultVar->Option (List PV)
 |[]=>some []
 |r::rs=>match Adi P s r,tN P s rs with|some v,some vs=>some (v::vs)|_,_=>none
noncomputable def GM{R:Type}(P:Program)(T:Tab):Nat->List (Nat×An)->sZ R
 |0,_=>λ_ _ _ _=>none
 |q+1,ans=>λf as s k=>match I1 ans f,P.funcs[f]? with
  |some an,some fn=>match fn.body with
   |none=>none
   |some c=>Cm (Nat.ble as.length fn.ntmps) (
    ex P T (GM P T q ans) fn.ntmps c an {n:=Ajy P fn.results.toList k,x:=λ_ _=>none,r:=Ajy P fn.results.toList k} ⟨Xk 0 as,s.it,s.sl::s.st⟩)<|none
  |_,_=>none
where
 I1:List (Nat×An)->Nat->Option An|[],_=>none|(g,a)::r,f=>Cm (Nat.beq g f) (some a)<|I1 r f
 Ajy {R:Type} (P:Program) (vars:List ResultVar) (k:S->PV->Option R) (s':S):Option R:=match tN P s' vars,s'.st with
  |some vs,sl::st=>k ⟨sl,s'.it,st⟩ (uq vs)
  |_,_=>none
def WT(s:S):List (ET×Option TypeId)->List PV->List Nat->Bool
 |[],[],_=>true
 |(e,o)::r,v::vs,seen=>match o with
  |none=>(owns v).isEmpty&&WT s r vs seen
  |some E=>match e,v with
   | .list a, .nils=>WT s r vs seen
   | .list a, .own i=>!Xt i seen&&(match Cb s.it i with| .arr E' a' _=>Nat.beq E' E&&decide (a'=a)|_=>false)&&WT s r vs (i::seen)
   |_,_=>false
 |_,_,_=>false
def yF:List (ET×Option TypeId)->List PV->List Nat
 |(_,none)::r,v::vs=>owns v++yF r vs
 |(_,some _)::r,_::vs=>yF r vs
 |_,_=>[]
def Aud(P:Program)(rs:List Sh)(vars:List ResultVar)(s:S):Option (List PV):=match tN P s vars with|some vs=>Ag1 rs vs|none=>none
def kX(P:Program)(rs:List Sh)(vars:List ResultVar)(s0:S):Option (AP (Rt rs)):=
 match Aud P rs vars s0 with
 |none=>none
 |some ls0=>match s0.EG (yF (Rt rs) ls0)with
  |none=>none
  |some s=>match Aud P rs vars s with
   |some ls=>Cm (WT s (Rt rs) ls []) (PN s (Rt rs) ls)<|none
   |none=>none
def args(ps:List Sh)(x:AP (Rt ps)):Option (List PV):=fK ps (Fc (Rt ps) x ⟨[],[],[]⟩).1
def jo(ps:List Sh)(x:AP (Rt ps)):List Item:=(Fc (Rt ps) x ⟨[],[],[]⟩).2.it
noncomputable def run(P:Program)(T:Tab)(ans:List (Nat×An))(f:Func)(an:An)(ps rs:List Sh)(x:AP (Rt ps)):Option (AP (Rt rs)):=
 match f.body,args ps x with
 |some c,some vs=>ex P T (GM P T 8 ans) f.ntmps c an {n:=kX P rs f.results.toList,x:=λ_ _=>none,r:=kX P rs f.results.toList} ⟨Xk 0 vs,jo ps x,[]⟩
 |_,_=>none
end Go.Rx
namespace Go.Rx
open Go Go.Lv
inductive MD|dead|box (b:Nat) (cells:List Value) (T:TypeId)|own (s:Nat) (E:TypeId) (v:Value) (cs:List Value)
def MD.Ia:MD->Mob
 | .dead=> .own 1 0 (.slice none 0 0) []
 | .box b c T=> .box b c T
 | .own s E v cs=> .own s E v cs
def MD.base:MD->Option Nat
 | .box b _ _=>some b
 | .own _ _ (.slice (some ⟨b,0,none⟩) _ _) _=>some b
 |_=>none
def Bq{α:Type}(f:α->List Value->Prop):List α->List Value->Prop
 |[],cs=>cs=[]
 |x::l,cs=>∃c1 c2,cs=c1++c2/\f x c1/\Bq f l c2
def Ap(B:Reg)(w:World):(e:ET)->e.T->List Value->Prop
 | .int k,x,cs=>cs=[iv (T:=k.T) (k:=k.k) x]
 | .bool,b,cs=>cs=[.bool b]
 | .str,s,cs=>cs=[sv s]
 | .list e,l,cs=>∃v c0,cs=[v]/\Rd B w e.size v c0/\Bq (Ap B w e) l c0
 | .vec n e,l,cs=>l.length=n/\Bq (Ap B w e) l cs
 | .cons a r,x,cs=>∃c1 c2,cs=c1++c2/\Ap B w a x.1 c1/\Ap B w r x.2 c2
 | .nil,_,cs=>cs=[]
def jS:Step->Nat| .fld _ off=>off| .idx j z=>j.toNat*z
def As:List Step->Nat|[]=>0|s::r=>jS s+As r
def S5(B:Reg)(w:World)(pv:Value)(cs:List Value):Prop:=
 ∃b off arr T fr,pv= .pointer (some ⟨b,off,none⟩)/\B b/\w.heap[b]? =some (.cells arr T fr)/\∀i,i<cs.length->arr[off+i]? =cs[i]?
def asV(agg:Bool)(f:List Value->Prop)(v:Value):Prop:=match agg with|true=>∃cs:List Value,v= .agg cs.toArray/\f cs|false=>f [v]
def Abu(o:Bool)(md:MD)(p:List Step)(z:Nat)(lo n:Int)(v:Value):Prop:=
 0<=lo/\0<=n/\ (∃pt cap,v= .slice pt n.toNat cap/\n.toNat<=cap/\ (pt=none->cap=0)/\ (0<cap->∃b,md.base=some b/\pt=some ⟨b,As p+lo.toNat*z,none⟩))/\
  (o=true->∃s E q len cap c0,md= .own s E (.slice q len cap) c0/\p=[]/\lo.toNat+n.toNat<=len/\ (∀pt m cap',v= .slice pt m cap'->lo.toNat+cap'<=cap)/\ (lo=0->v= .slice q n.toNat cap))/\ (o=false->∃b,md.base=some b)
def Ba(B:Reg)(w:World)(L:List MD):PV->List Value->Prop
 | .val e x,cs=>Ap B w e x cs
 | .agg l,cs=>go B w L l cs
 | .tup _,_=>False
 | .nils,cs=>cs=[.slice none 0 0]
 | .own i,cs=>∃s E v c0,L[i]? =some (.own s E v c0)/\cs=[v]
 | .ptr i p,cs=>∃md b,L[i]? =some md/\md.base=some b/\cs=[.pointer (some ⟨b,As p,none⟩)]
 | .rptr v,cs=>∃pv c0,cs=[pv]/\S5 B w pv c0/\Ba B w L v c0
 | .view o i p e lo n,cs=>∃md v,L[i]? =some md/\cs=[v]/\Abu o md p e.size lo n v
 | .fn f caps,cs=>∃vs:List Value,cs=[.func (.func f) #[] vs.toArray]/\goV B w L caps vs
 | .cst v,cs=>cs=[v]/\v.oneCell'=true
 | .any,cs=>∃v,cs=[v]/\v.oneCell'=true
 | .gd _ _ _,_=>False
 | .off,_=>False
 | .undef,_=>False
where
 go (B:Reg) (w:World) (L:List MD):List PV->List Value->Prop
 |[],cs=>cs=[]
 |a::r,cs=>∃c1 c2,cs=c1++c2/\Ba B w L a c1/\go B w L r c2
 goV (B:Reg) (w:World) (L:List MD):List PV->List Value->Prop
 |[],vs=>vs=[]
 |a::r,vs=>∃v vs',vs=v::vs'/\asV a.isA (Ba B w L a) v/\goV B w L r vs'
def Gl(B:Reg)(w:World)(L:List MD)(p:PV)(v:Value):Prop:=asV p.isA (Ba B w L p) v
abbrev Gk:=Ba.goV
def Ef(B:Reg)(w:World)(L:List MD):PV->Value->Prop
 | .tup l,v=>∃vs:List Value,v= .tuple vs.toArray/\Gk B w L l vs
 |p,v=>Gl B w L p v
def Hu(B:Reg)(w:World)(L:List MD)(σ:Env)(t:Nat):PV->Prop
 | .undef=>True
 | .off=>σ t=Go.undef
 | .gd j want p=>∃b,σ j= .bool b/\ (b=want->Ef B w L p (σ t))/\ (b≠want->σ t=Go.undef)
 |p=>Ef B w L p (σ t)
def Xv(B:Reg)(w:World)(L:List MD):Item->MD->Prop
 | .dead,_=>True
 | .box T v, .box b cells T'=>T'=T/\Ba B w L v cells
 | .arr E e l, .own s E' v cs=>E'=E/\s=e.size/\Bq (Ap B w e) l cs
 |_,_=>False
def Fv(B:Reg)(w:World)(L:List MD)(σ:Env)(sl:Slots):Prop:=∀p∈sl,Hu B w L σ p.1 p.2
def YV(B:Reg)(w:World)(L:List MD):List Env->List Slots->Prop
 |[],[]=>True
 |σ::σs,sl::st=>Fv B w L σ sl/\YV B w L σs st
 |_,_=>False
def Atz(B:Reg)(w:World)(L:List MD)(it:List Item):Prop:=it.length=L.length/\∀(i:Nat) (a:Item) (m:MD),it[i]? =some a->L[i]? =some m->Xv B w L a m
structure MemR (B:Reg) (w:World) (L:List MD) (s:S) (σs:List Env) (σ:Env):Prop where
 it:Atz B w L s.it
 sl:Fv B w L σ s.sl
 stk:YV B w L σs s.st
variable {B B':Reg} {w w':World} {L L':List MD}
theorem Bq.mono{α:Type}{f g:α->List Value->Prop}(h:∀x c,f x c->g x c):∀{l:List α} {cs:List Value},Bq f l cs->Bq g l cs
 |[],_,hh=>hh
 |_::_,_,⟨c1,c2,e,h1,h2⟩=>⟨c1,c2,e,h _ _ h1,Bq.mono h h2⟩
theorem Ap.step(hb:∀b,B b->B' b)(hs:Same B w w'):∀{e:ET} {x:e.T} {cs:List Value},Ap B w e x cs->Ap B' w' e x cs
 | .int k,x,cs,h=>h
 | .bool,x,cs,h=>h
 | .str,x,cs,h=>h
 | .list e,l,cs,⟨v,c0,e1,h1,h2⟩=>⟨v,c0,e1,h1.step hb hs,h2.mono λx c h=>Ap.step hb hs h⟩
 | .vec n e,l,cs,⟨h1,h2⟩=>⟨h1,h2.mono λx c h=>Ap.step hb hs h⟩
 | .cons a r,x,cs,⟨c1,c2,e,h1,h2⟩=>⟨c1,c2,e,Ap.step hb hs h1,Ap.step hb hs h2⟩
 | .nil,_,cs,h=>h
def cW(L L':List MD):Prop:=(∀(i s:Nat) (E:TypeId) (v:Value) (c:List Value),L[i]? =some (.own s E v c)->∃s' E' c',L'[i]? =some (.own s' E' v c'))/\ (∀(i:Nat) (md:MD) (b:Nat),L[i]? =some md->md.base=some b->∃md',L'[i]? =some md'/\md'.base=some b)
theorem cW.refl(L:List MD):cW L L:=⟨λ_ _ _ _ _ h=>⟨_,_,_,h⟩,λ_ md _ h h'=>⟨md,h,h'⟩⟩
theorem cW.append(L M:List MD):cW L (L++M):=by
 have key:∀(i:Nat) (a:MD),L[i]? =some a-> (L++M)[i]? =some a:=λi a h=>by
  rw[List.getElem?_append_left (List.getElem?_eq_some_iff.1 h).1];exact h
 exact⟨λi s E v c h=>⟨s,E,c,key _ _ h⟩,λi md b h h'=>⟨md,key _ _ h,h'⟩⟩
theorem S5.step{pv:Value}{cs:List Value}(hb:∀b,B b->B' b)(hs:Same B w w')(h:S5 B w pv cs):S5 B' w' pv cs:=by
 obtain⟨b,off,arr,T,fr,h1,h2,h3,h4⟩:=h;exact⟨b,off,arr,T,fr,h1,hb _ h2,(hs b h2).trans h3,h4⟩
theorem Abu.step{o:Bool}{i:Nat}{md:MD}{p:List Step}{z:Nat}{lo n:Int}{v:Value}(hl:cW L L')(hi:L[i]? =some md)(h:Abu o md p z lo n v):∃md',L'[i]? =some md'/\Abu o md' p z lo n v:=by
 obtain⟨h1,h2,⟨pt,cap,h3,h4,h5,h6⟩,h7,h8⟩:=h;cases o with
 |true=>
  obtain⟨s,E,q,len,cap0,c0,rfl,g2,g3,g4,g5'⟩:=h7 rfl;obtain⟨s',E',c',g5⟩:=hl.1 i s E _ c0 hi;refine⟨_,g5,h1,h2,⟨pt,cap,h3,h4,h5,λhc=>?_⟩,λ_=>⟨s',E',q,len,cap0,c',rfl,g2,g3,g4,g5'⟩,(λh=>by cases h)⟩;obtain⟨b,e1,e2⟩:=h6 hc;obtain⟨md',k1,k2⟩:=hl.2 i _ b hi e1;rw[g5]at k1;cases k1;exact⟨b,k2,e2⟩
 |false=>
  obtain⟨b0,hb0⟩:=h8 rfl;obtain⟨md',k1,k2⟩:=hl.2 i _ b0 hi hb0;refine⟨md',k1,h1,h2,⟨pt,cap,h3,h4,h5,λhc=>?_⟩,(λh=>by cases h),λ_=>⟨b0,k2⟩⟩;obtain⟨b,e1,e2⟩:=h6 hc;rw[hb0]at e1;cases e1;exact⟨b0,k2,e2⟩
theorem asV.mono{a:Bool}{f g:List Value->Prop}{v:Value}(h:∀c,f c->g c)(hv:asV a f v):asV a g v:=by
 cases a with
 |true=>obtain⟨cs,e,h1⟩:=hv;exact⟨cs,e,h _ h1⟩
 |false=>exact h _ hv
mutual
theorem Ba.step(hb:∀b,B b->B' b)(hs:Same B w w')(hl:cW L L'):∀{p:PV} {cs:List Value},Ba B w L p cs->Ba B' w' L' p cs
 | .val e x,cs,h=>Ap.step hb hs (show Ap B w e x cs from h)
 | .agg l,cs,h=>Ba.Ar9 hb hs hl (show Ba.go B w L l cs from h)
 | .tup _,_,h=>h.elim
 | .nils,cs,h=>h
 | .own i,cs,⟨s,E,v,c0,h1,h2⟩=>let⟨s',E',c',h3⟩:=hl.1 i s E v c0 h1;⟨s',E',v,c',h3,h2⟩
 | .ptr i p,cs,⟨md,b,h1,h2,h3⟩=>let⟨md',h4,h5⟩:=hl.2 i md b h1 h2;⟨md',b,h4,h5,h3⟩
 | .rptr v,cs,⟨pv,c0,h1,h2,h3⟩=>⟨pv,c0,h1,h2.step hb hs,Ba.step hb hs hl h3⟩
 | .view o i p e lo n,cs,⟨md,v,h1,h2,h3⟩=>let⟨md',h4,h5⟩:=h3.step hl h1;⟨md',v,h4,h2,h5⟩
 | .fn f caps,cs,⟨vs,h1,h2⟩=>⟨vs,h1,Ba.Afj hb hs hl h2⟩
 | .cst v,cs,h=>h
 | .any,cs,h=>h
 | .gd _ _ _,_,h=>h.elim
 | .off,_,h=>h.elim
 | .undef,_,h=>h.elim
theorem Ba.Ar9(hb:∀b,B b->B' b)(hs:Same B w w')(hl:cW L L'):∀{l:List PV} {cs:List Value},Ba.go B w L l cs->Ba.go B' w' L' l cs
 |[],cs,h=>h
 |a::r,cs,⟨c1,c2,e,h1,h2⟩=>⟨c1,c2,e,Ba.step hb hs hl h1,Ba.Ar9 hb hs hl h2⟩
theorem Ba.Afj(hb:∀b,B b->B' b)(hs:Same B w w')(hl:cW L L'):∀{l:List PV} {vs:List Value},Gk B w L l vs->Gk B' w' L' l vs
 |[],vs,h=>h
 |a::r,vs,⟨v,vs',e,h1,h2⟩=>⟨v,vs',e,h1.mono λc h=>Ba.step hb hs hl h,Ba.Afj hb hs hl h2⟩
end
theorem Gl.step(hb:∀b,B b->B' b)(hs:Same B w w')(hl:cW L L'){p:PV}{v:Value}(h:Gl B w L p v):Gl B' w' L' p v:=asV.mono (λ_ h=>Ba.step hb hs hl h) h
theorem Ef.step(hb:∀b,B b->B' b)(hs:Same B w w')(hl:cW L L'){p:PV}{v:Value}(h:Ef B w L p v):Ef B' w' L' p v:=by
 cases p<;>first
  |(obtain⟨vs,e,h1⟩:=h;exact⟨vs,e,Ba.Afj hb hs hl h1⟩)
  |(apply Gl.step hb hs hl;exact h)
def PV.isV:PV->Bool| .undef=>false| .off=>false| .gd _ _ _=>false|_=>true
theorem Hu.iff{σ:Env}{t:Nat}{p:PV}(hv:p.isV=true):Hu B w L σ t p↔Ef B w L p (σ t):=by
 cases p<;>first|exact Iff.rfl|cases hv
theorem Hu.step(hb:∀b,B b->B' b)(hs:Same B w w')(hl:cW L L'){σ:Env}{t:Nat}{p:PV}(h:Hu B w L σ t p):Hu B' w' L' σ t p:=by
 cases p
 case undef=>exact h
 case off=>exact h
 case gd=>obtain⟨b,h1,h2,h3⟩:=h;exact⟨b,h1,λe=>(h2 e).step hb hs hl,h3⟩
 all_goals exact(Hu.iff rfl).2 (((Hu.iff rfl).1 h).step hb hs hl)
theorem Fv.step(hb:∀b,B b->B' b)(hs:Same B w w')(hl:cW L L'){σ:Env}{sl:Slots}(h:Fv B w L σ sl):Fv B' w' L' σ sl:=λp hp=>(h p hp).step hb hs hl
theorem YV.step(hb:∀b,B b->B' b)(hs:Same B w w')(hl:cW L L'):∀{σs:List Env} {st:List Slots},YV B w L σs st->YV B' w' L' σs st
 |[],[],h=>h
 |_::_,_::_,⟨h1,h2⟩=>⟨h1.step hb hs hl,h2.step hb hs hl⟩
theorem Xv.step(hb:∀b,B b->B' b)(hs:Same B w w')(hl:cW L L'){a:Item}{m:MD}(h:Xv B w L a m):Xv B' w' L' a m:=by
 cases a<;>cases m<;>first
  |exact h
  |exact⟨h.1,Ba.step hb hs hl h.2⟩
  |exact⟨h.1,h.2.1,h.2.2.mono λx c h=>Ap.step hb hs h⟩
theorem MemR.step{s:S}{σs:List Env}{σ:Env}(h:MemR B w L s σs σ)(hb:∀b,B b->B' b)(hs:Same B w w'):MemR B' w' L s σs σ:=
 ⟨⟨h.it.1,λi a m h1 h2=>(h.it.2 i a m h1 h2).step hb hs (.refl L)⟩,h.sl.step hb hs (.refl L),h.stk.step hb hs (.refl L)⟩
def Ni(R:Reg)(L:List MD)(s:S)(σs:List Env)(σ:Env):Fact where
 holds A w:=MemR (λb=>A b/\R b) w L s σs σ
 step h ha hs _:=h.step (λb ⟨h1,h2⟩=>⟨ha b h1,h2⟩) (λb ⟨h1,_⟩=>hs b h1)
structure Fix where
 R:Reg
 M:Reg
 w0:World
 new:∀b,w0.heap.size<=b->R b
 mod:∀b,M b->R b
 gl:List (Nat×List Value)
 glok:∀p∈gl,R p.1/\ ¬M p.1/\p.1<w0.heap.size/\∃T fr,w0.heap[p.1]? =some (.cells p.2.toArray T fr)
abbrev Rel(Z:Fix)(s:S)(σs:List Env)(A:Reg)(L:List MD)(σ:Env)(w:World):Prop:=St A w [Ni Z.R L s σs σ, .old Z.M Z.w0] (L.map MD.Ia)
theorem Rel.mem{Z:Fix}{s:S}{σs:List Env}{A:Reg}{L:List MD}{σ:Env}{w:World}(h:Rel Z s σs A L σ w):MemR (λb=>A b/\Z.R b) w L s σs σ:=h.fact 0 rfl
theorem Rel.Acn{Z:Fix}{s:S}{σs:List Env}{A:Reg}{L:List MD}{σ:Env}{w:World}(h:Rel Z s σs A L σ w){p:Nat×List Value}(hp:p∈Z.gl):(A p.1/\Z.R p.1)/\∃T fr,w.heap[p.1]? =some (.cells p.2.toArray T fr):=by
 obtain⟨h1,h2,h3,T,fr,h4⟩:=Z.glok p hp;obtain⟨h5,h6⟩:=(h.fact 1 (f:= .old Z.M Z.w0) rfl).2 p.1 h3 h2;exact⟨⟨h5,h1⟩,T,fr,h6.trans h4⟩
theorem Rel.as{Z:Fix}{s:S}{σs:List Env}{A:Reg}{L:List MD}{σ:Env}{w:World}{F:List Fact}{LL:List Mob}(h:St A w F LL){i:Nat}(hF:F[i]? =some (.old Z.M Z.w0))
  (hm:MemR (λb=>A b/\Z.R b) w L s σs σ) (hL:LL=L.map MD.Ia):Rel Z s σs A L σ w:=by
 subst hL;exact(h.noF.qC (f:= .old Z.M Z.w0) (h.fact i hF)).qC (f:=Ni Z.R L s σs σ) hm
end Go.Rx
namespace Go.Rx
open Go Go.Lv
variable {P:Program} {B:Reg} {w:World} {L:List MD} {s:S} {σs:List Env} {σ:Env}
theorem RO{k:Kd}{x:k.T}{v:Value}(h:Ef B w L (.val (.int k) x) v):v=iv (T:=k.T) (k:=k.k) x:=by
 have: [v]=[iv (T:=k.T) (k:=k.k) x]:=h;simpa using this
theorem HE{x:Bool}{v:Value}(h:Ef B w L (.val .bool x) v):v= .bool x:=by
 have: [v]=[.bool x]:=h;simpa using this
theorem yL{x:List UInt8}{v:Value}(h:Ef B w L (.val .str x) v):v=sv x:=by
 have: [v]=[sv x]:=h;simpa using this
theorem JZ{i:Nat}{p:List Step}{md:MD}{b:Nat}(h:L[i]? =some md)(hb:md.base=some b):Ef B w L (.ptr i p) (.pointer (some ⟨b,As p,none⟩)):=⟨md,b,h,hb,rfl⟩
theorem Xm{i:Nat}{p:List Step}{v:Value}(h:Ef B w L (.ptr i p) v):∃md b,L[i]? =some md/\md.base=some b/\v= .pointer (some ⟨b,As p,none⟩):=by
 obtain⟨md,b,h1,h2,h3⟩:=h;exact⟨md,b,h1,h2,by simpa using h3⟩
theorem KK{i:Nat}{v:Value}(h:Ef B w L (.own i) v):∃z E c0,L[i]? =some (.own z E v c0):=by
 obtain⟨z,E,v',c0,h1,h2⟩:=h;have:v=v':=by simpa using h2
 subst this;exact⟨z,E,c0,h1⟩
theorem Zp{e:ET}{l:List e.T}{v:Value}(h:Ef B w L (.val (.list e) l) v):∃c0,Rd B w e.size v c0/\Bq (Ap B w e) l c0:=by
 obtain⟨v',c0,h1,h2,h3⟩:=h;have:v=v':=by simpa using h1
 subst this;exact⟨c0,h2,h3⟩
theorem kT{e:ET}{l:List e.T}{v:Value}{c0:List Value}(h1:Rd B w e.size v c0)(h2:Bq (Ap B w e) l c0):Ef B w L (.val (.list e) l) v:=⟨v,c0,rfl,h1,h2⟩
theorem GJ{v:Value}(h:Ef B w L .nils v):v= .slice none 0 0:=by
 have: [v]=[.slice none 0 0]:=h;simpa using this
theorem Aev{f:Nat}{caps:List PV}{v:Value}(h:Ef B w L (.fn f caps) v):∃vs:List Value,v= .func (.func f) #[] vs.toArray/\Gk B w L caps vs:=by
 obtain⟨vs,h1,h2⟩:=h;exact⟨vs,by simpa using h1,h2⟩
theorem rP{p:PV}{v:Value}(h:Ef B w L (.rptr p) v):∃c0,S5 B w v c0/\Ba B w L p c0:=by
 obtain⟨pv,c0,h1,h2,h3⟩:=h;have:v=pv:=by simpa using h1
 subst this;exact⟨c0,h2,h3⟩
theorem ZG{p:PV}{v:Value}(hp:p.jf=true):Ef B w L p v↔Gl B w L p v:=by cases p<;>first|exact Iff.rfl|cases hp
theorem PV.N5{p:PV}(hp:p.jf=true):p.isV=true:=by cases p<;>first|rfl|cases hp
theorem Zw{p:PV}(h:p.isV=false):p= .undef\/p= .off\/∃j w q,p= .gd j w q:=by
 cases p
 case undef=>exact .inl rfl
 case off=>exact .inr (.inl rfl)
 case gd j w q=>exact .inr (.inr ⟨j,w,q,rfl⟩)
 all_goals cases h
def known(p:PV):Option PV:=match p with| .undef=>none| .off=>none| .gd _ _ _=>none|v=>some v
theorem zP{p q:PV}(h:known p=some q):p=q/\q.isV=true:=by
 cases hv:p.isV with
 |true=>
  have:known p=some p:=by cases p<;>first|rfl|cases hv
  rw[this]at h;cases h;exact⟨rfl,hv⟩
 |false=>rcases Zw hv with rfl|rfl|⟨_,_,_,rfl⟩<;>cases h
theorem ng:∀(sl:Slots) (t:Nat),AV sl t= .undef\/ (t,AV sl t)∈sl
 |[],_=> .inl rfl
 |(q,v)::r,t=>by
  simp only[AV];cases h:Nat.beq q t with
  |true=>
   have:=Ast h;subst this;exact .inr (by simp)
  |false=>exact(ng r t).imp (λh=>h) (λh=>Aj2 _ h)
theorem Sm{t:Nat}(hm:Fv B w L σ s.sl):Hu B w L σ t (AV s.sl t):=by
 rcases ng s.sl t with h|h
 ·rw[h];exact trivial
 ·exact hm _ h
theorem Asp{k:IntKind}{kd:Kd}(h:Kd.of k=some kd):kd.k=k:=by
 cases k<;>simp[Kd.of]at h<;>subst h<;>rfl
theorem hU(v:Value):ofConst v= .undef\/ ((ofConst v).jf=true/\Gl B w L (ofConst v) v):=by
 unfold ofConst;split
 ·rename_i k n;split
  ·rename_i kd hk;have hk':=Asp hk;subst hk';cases hd:decide (kd.gi.toZ (kd.gi.ofZ n)=n)with
   |true=>
    refine .inr ⟨rfl,?_⟩;have:kd.gi.toZ (kd.gi.ofZ n)=n:=by simpa using hd
    show [_]=[_];simp[iv,this]
   |false=>exact .inr ⟨rfl,rfl,rfl⟩
  ·exact .inr ⟨rfl,rfl,rfl⟩
 ·exact .inr ⟨rfl,rfl⟩
 ·rename_i b;refine .inr ⟨rfl,?_⟩
  show [_]=[_];simp[sv,bytesOf]
 ·exact .inr ⟨rfl,rfl⟩
 ·exact .inl rfl
 ·exact .inl rfl
 ·rename_i h1 h2 h3 h4 h5 h6;refine .inr ⟨rfl,rfl,?_⟩;cases v<;>first|rfl|exact(h5 _ rfl).elim|exact(h6 _ rfl).elim
theorem Qs(hm:Fv B w L σ s.sl)(x:Operand)(hv:(Ed s.sl x).isV=true):Ef B w L (Ed s.sl x) (ev σ x):=by
 cases x with
 |tmp t=>
  have h:=Sm (t:=t) hm
  revert hv
  simp only[Ed,ev];split
  ·rename_i b hb;intro _;rw[hb]at h;have h2: [σ t]=[Value.bool b]:=h.1;have h3:σ t= .bool b:=by simpa using h2
   rw[h3];rfl
  ·rename_i hv';intro hv;exact(Hu.iff hv).1 h
 |const v=>
  rcases hU (B:=B) (w:=w) (L:=L) v with h|h
  ·rw[show Ed s.sl (.const v)= .undef from h]at hv;cases hv
  ·exact(ZG h.1).2 h.2
 |global g=>cases hv
 |func f=>exact⟨[],rfl,rfl⟩
theorem Cu{x:Operand}{p:PV}(hm:Fv B w L σ s.sl)(h:Ed s.sl x=p)(hv:p.isV=true):Ef B w L p (ev σ x):=by
 subst h;exact Qs hm x hv
theorem Yd{x:Operand}{k:Kd}{a:k.T}(hm:Fv B w L σ s.sl)(h:Ed s.sl x= .val (.int k) a):ev σ x=iv (T:=k.T) (k:=k.k) a:=RO (Cu hm h rfl)
theorem qK{x:Operand}{a:Bool}(hm:Fv B w L σ s.sl)(h:Ed s.sl x= .val .bool a):ev σ x= .bool a:=HE (Cu hm h rfl)
theorem Tw{x:Operand}{a:List UInt8}(hm:Fv B w L σ s.sl)(h:Ed s.sl x= .val .str a):ev σ x=sv a:=yL (Cu hm h rfl)
theorem Aln{k:Kd}{o:BinOp}{x y:k.T}{v:PV}{t:TypeId}(h:Anc k o x y=some v):v.isV=true/\∃val,Jq P o t (iv (T:=k.T) (k:=k.k) x) (iv (T:=k.T) (k:=k.k) y) val/\Ef B w L v val:=by
 cases o<;>simp only[Anc,Ajx,reduceCtorEq]at h<;>subst h
 ·exact⟨rfl,_,Bin.add _ _,rfl⟩
 ·exact⟨rfl,_,Bin.sub _ _,rfl⟩
 ·exact⟨rfl,_,Bin.mul _ _,rfl⟩
 ·exact⟨rfl,_,Bin.and _ _,rfl⟩
 ·exact⟨rfl,_,Bin.or _ _,rfl⟩
 ·exact⟨rfl,_,Bin.xor _ _,rfl⟩
 ·exact⟨rfl,_,Bin.eql _ _,rfl⟩
 ·exact⟨rfl,_,Bin.neq _ _,rfl⟩
 ·exact⟨rfl,_,Bin.lss _ _,rfl⟩
 ·exact⟨rfl,_,Bin.leq _ _,rfl⟩
 ·exact⟨rfl,_,Bin.gtr _ _,rfl⟩
 ·exact⟨rfl,_,Bin.geq _ _,rfl⟩
theorem Ac8{k:Kd}(h:k.isU=true)(y:k.T):0<=k.gi.toZ y:=by
 cases k<;>first|exact Ay6 _|cases h
theorem yw(k:Kd):k.gi.toZ (k.gi.ofZ 0)=0:=by cases k<;>rfl
theorem vZ{o:BinOp}{k k':Kd}{x:k.T}{y:k'.T}{v:PV}{t:TypeId}(h:Ajl o k x k' y=some v)(hc:Ag9 o k' y=some true):
  v.isV=true/\∃val,Jq P o t (iv (T:=k.T) (k:=k.k) x) (iv (T:=k'.T) (k:=k'.k) y) val/\Ef B w L v val:=by
 have hnz:Bm y (k'.gi.ofZ 0)=true->k'.gi.toZ y≠0:=λh hz=>by
  simp[Bm,yw,hz]at h
 have hsh:(Cm (k'.isU) (true)<|Ll y (k'.gi.ofZ 0))=true->0<=k'.gi.toZ y:=λh=>by
  cases hu:k'.isU with
  |true=>exact Ac8 hu y
  |false=>rw[hu]at h;simpa [Ll,yw]using h
 cases o<;>simp only[Ajl,Ag9,Ajx,reduceCtorEq]at h hc
 ·split at h
  ·rename_i hk;subst hk;cases h;exact⟨rfl,_,Bin.quo _ _ (hnz hc),rfl⟩
  ·cases h
 ·split at h
  ·rename_i hk;subst hk;have hz:=hnz hc;cases k'<;>simp only[Av1,Azk,Azj,Ajx,reduceCtorEq]at h<;>subst h
   ·exact⟨rfl,_,Bin.Arz _ _ hz,rfl⟩
   ·exact⟨rfl,_,Bin.Atx _ _ hz,rfl⟩
   ·exact⟨rfl,_,Bin.Aq3 _ _ hz,rfl⟩
   ·exact⟨rfl,_,Bin.Aol _ _ hz,rfl⟩
  ·cases h
 ·subst h;exact⟨rfl,_,Bin.shl _ _ (hsh hc),rfl⟩
 ·have h0:=hsh hc;cases k<;>simp only[Avi,Azk,Azj,Ajx,reduceCtorEq]at h<;>subst h
  ·exact⟨rfl,_,Bin.Apg _ _ h0,rfl⟩
  ·exact⟨rfl,_,Bin.Auf _ _ h0,rfl⟩
  ·exact⟨rfl,_,Bin.Ao0 _ _ h0,rfl⟩
  ·exact⟨rfl,_,Bin.Apn _ _ h0,rfl⟩
  ·exact⟨rfl,_,Bin.Aq2 _ _ h0,rfl⟩
theorem Bq.len{α:Type}{f:α->List Value->Prop}{z:Nat}(h:∀x c,f x c->c.length=z):∀{l:List α} {cs:List Value},Bq f l cs->cs.length=l.length*z
 |[],_,hh=>by rw[show _=[]from hh];simp
 |x::l,_,⟨c1,c2,e,h1,h2⟩=>by
  subst e;rw[Aby,h x c1 h1,Bq.len h h2,Aj1,Aza];omega
theorem Ap.len:∀{e:ET} {x:e.T} {cs:List Value},Ap B w e x cs->cs.length=e.size
 | .int k,x,cs,h=>by rw[show cs=_ from h];rfl
 | .bool,x,cs,h=>by rw[show cs=_ from h];rfl
 | .str,x,cs,h=>by rw[show cs=_ from h];rfl
 | .list e,l,cs,⟨v,c0,e1,_,_⟩=>by rw[e1];rfl
 | .vec n e,l,cs,⟨h1,h2⟩=>by rw[h2.len λx c h=>Ap.len h,h1];rfl
 | .cons a r,x,cs,⟨c1,c2,e,h1,h2⟩=>by rw[e,Aby,Ap.len h1,Ap.len h2];rfl
 | .nil,_,cs,h=>by rw[show cs=_ from h];rfl
mutual
theorem Ba.len:∀{p:PV} {cs:List Value},Ba B w L p cs->cs.length=p.size
 | .val e x,cs,h=>Ap.len (show Ap B w e x cs from h)
 | .agg l,cs,h=>Ba.Avb (show Ba.go B w L l cs from h)
 | .tup _,_,h=>h.elim
 | .nils,cs,h=>by rw[show cs=_ from h];rfl
 | .own i,cs,⟨_,_,_,_,_,h⟩=>by rw[h];rfl
 | .ptr i p,cs,⟨_,_,_,_,h⟩=>by rw[h];rfl
 | .rptr v,cs,⟨_,_,h,_⟩=>by rw[h];rfl
 | .fn f caps,cs,⟨_,h,_⟩=>by rw[h];rfl
 | .cst v,cs,h=>by rw[show cs=_ from h.1];rfl
 | .any,cs,⟨_,h,_⟩=>by rw[h];rfl
 | .view _ _ _ _ _ _,cs,⟨_,_,_,h,_⟩=>by rw[h];rfl
 | .gd _ _ _,_,h=>h.elim
 | .off,_,h=>h.elim
 | .undef,_,h=>h.elim
theorem Ba.Avb:∀{l:List PV} {cs:List Value},Ba.go B w L l cs->cs.length=PV.size.go l
 |[],cs,h=>by rw[show cs=_ from h];rfl
 |a::r,cs,⟨c1,c2,e,h1,h2⟩=>by rw[e,Aby,Ba.len h1,Ba.Avb h2];rfl
end
theorem Ba.field:∀{l:List PV} {n:Nat} {f:PV} {cs:List Value},Ba.go B w L l cs->l[n]? =some f->∃c1 c2 c3,cs=c1++(c2++c3)/\c1.length=xV l n/\Ba B w L f c2/\
  (∀f' c2',Ba B w L f' c2'->Ba.go B w L (l.set n f') (c1++(c2'++c3)))
 |[],n,f,cs,_,h=>by simp at h
 |a::r,0,f,cs,⟨c1,c2,e,h1,h2⟩,h=>by
  simp at h;subst h;exact⟨[],c1,c2,by simpa using e,rfl,h1,λf' c2' h'=>⟨c2',c2,by simp,h',h2⟩⟩
 |a::r,n+1,f,cs,⟨c1,c2,e,h1,h2⟩,h=>by
  obtain⟨d1,d2,d3,e',h3,h4,h5⟩:=Ba.field (n:=n) h2 (by simpa using h);refine⟨c1++d1,d2,d3,by rw[e,e'];simp,by rw[Aby,Ba.len h1,h3];rfl,h4,λf' c2' h'=>?_⟩;exact⟨c1,d1++(c2'++d3),by simp,h1,h5 f' c2' h'⟩
theorem Ba.sV{p:PV}{cs:List Value}(h:Ba B w L p cs):p.jf=true:=by
 cases p<;>first|rfl|exact h.elim
theorem Am7{p:PV}{v:Value}(h:Gl B w L p v):p.jf=true:=by
 unfold Gl asV at h;split at h
 ·obtain⟨cs,_,h⟩:=h;exact h.sV
 ·exact h.sV
theorem Jc{p:PV}{v:Value}(h:Gl B w L p v):p.isV=true/\Ef B w L p v:=⟨PV.N5 (Am7 h),(ZG (Am7 h)).2 h⟩
theorem Gk.get:∀{l:List PV} {vs:List Value} {i:Nat} {p:PV},Gk B w L l vs->l[i]? =some p->∃v,vs[i]? =some v/\Gl B w L p v
 |[],_,_,_,_,h=>by simp at h
 |a::r,_,0,p,⟨v,vs',e,h1,h2⟩,h=>by simp at h;subst h;subst e;exact⟨v,rfl,h1⟩
 |a::r,_,i+1,p,⟨v,vs',e,h1,h2⟩,h=>by subst e;simpa using Gk.get (i:=i) h2 (by simpa using h)
theorem wG(hm:Fv B w L σ s.sl):∀(l:List Operand),Aaa (l.map (Ed s.sl))=true->Gk B w L (l.map (Ed s.sl)) (l.map (ev σ))
 |[],_=>rfl
 |x::r,h=>by
  simp only[Aw7,Aaa,Abz]at h;exact⟨_,_,rfl,(ZG h.1).1 (Qs hm x (PV.N5 h.1)),wG hm r h.2⟩
theorem RM(p q:List Step):As (p++q)=As p+As q:=by
 induction p with
 |nil=>simp[As]
 |cons a r ih=>simp only[Axs,As,ih];omega
theorem HF{α:Type}{a:Array α}{l:List α}(h:a.toList=l):a=l.toArray:=by subst h;simp
def OpR(B:Reg)(w:World)(L:List MD)(σ:Env):PV->Value->Prop
 | .undef,_=>True
 | .off,v=>v=Go.undef
 | .gd j want p,v=>∃b,σ j= .bool b/\ (b=want->Ef B w L p v)/\ (b≠want->v=Go.undef)
 |p,v=>Ef B w L p v
theorem OpR.iff{p:PV}{v:Value}(hv:p.isV=true):OpR B w L σ p v↔Ef B w L p v:=by
 cases p<;>first|exact Iff.rfl|cases hv
theorem ZR(hm:Fv B w L σ s.sl)(x:Operand):OpR B w L σ (Ed s.sl x) (ev σ x):=by
 cases hv:(Ed s.sl x).isV with
 |true=>exact(OpR.iff hv).2 (Qs hm x hv)
 |false=>
  cases x with
  |tmp t=>
   have h:=Sm (t:=t) hm
   revert hv
   simp only[Ed,ev];split
   ·intro hv;cases hv
   ·intro hv
    revert h hv
    generalize AV s.sl t=p;intro h hv;cases p<;>first|exact h|cases hv
  |const v=>
   rcases hU (B:=B) (w:=w) (L:=L) v with h|h
   ·rw[show Ed s.sl (.const v)= .undef from h];exact trivial
   ·have h1:=PV.N5 h.1;simp only[Ed]at hv;rw[h1]at hv;cases hv
  |global g=>exact trivial
  |func f=>cases hv
theorem vU{t:Nat}{b:Bool}{p:PV}{v:Value}(ht:σ t= .bool b)(h:OpR B w L σ p v):OpR B w L σ (Ai1 t b p) v:=by
 unfold Ai1;split
 ·rename_i j want q;obtain⟨c,h1,h2,h3⟩:=h;cases hb:(Nat.beq j t&&mJ want b)with
  |true=>
   simp only[Abz]at hb;have hj:=Ast hb.1;subst hj;have hw:want=b:=by cases want<;>cases b<;>simp_all [mJ]
   subst hw;rw[ht]at h1;cases h1;have h4:=h2 rfl;cases hv:q.isV with
   |true=>exact(OpR.iff hv).2 h4
   |false=>
    cases q<;>first
     |exact trivial
     |exact absurd hv Bool.noConfusion
     |(exfalso;exact(show False from h4))
  |false=>exact trivial
 ·exact h
end Go.Rx
namespace Go.Rx
open Go Go.Lv
variable {P:Program} {B:Reg} {w w':World} {L L':List MD} {s:S} {σs:List Env} {σ:Env} {Z:Fix} {A A':Reg} {n:Nat}
theorem Ce{a b:Nat}(h:Nat.beq a b=true):a=b:=Ast h
theorem Ay{α:Type}{b:Bool}{x:Option α}{r:α}(h:(Cm (b) (x)<|none)=some r):b=true/\x=some r:=by
 cases b with
 |true=>exact⟨rfl,h⟩
 |false=>cases h
theorem Ant{a b:Bool}(h:mJ a b=true):a=b:=by cases a<;>cases b<;>simp_all [mJ]
structure OkLoad (P:Program) (t:TypeId) (u:PV):Prop where
 agg:∃d,P.underlying t=some d/\Aio d=u.isA
 size:Ic P t u.size
 one:u.isA=false->u.size=1
theorem Qa{t:TypeId}{u:PV}(h:Mu P t u=true):OkLoad P t u:=by
 unfold Mu at h;split at h
 ·rename_i b hb;simp only[Abz]at h;obtain⟨⟨h1,h2⟩,h3⟩:=h;have:=Ant h1;subst this;unfold Avm at hb;cases hu:P.underlying t with
  |none=>rw[hu]at hb;cases hb
  |some d=>
   rw[hu]at hb;refine⟨⟨d,hu,by simpa using hb⟩,?_,λhz=>?_⟩
   ·split at h2
    ·rename_i i hi;exact⟨i,hi,Ast h2⟩
    ·cases h2
   ·rw[hz]at h3;exact Ast (by simpa using h3)
 ·cases h
theorem X9:∀{e:ET} {x:e.T} {cs:List Value},Ba.go B w L (e.pvl x) cs↔Ap B w e x cs
 | .cons a r,(x,y),cs=>by
  have ih1:= @X9 a x;have ih2:= @X9 r y;have e1:∀c,Ba B w L (Cm (a.isS) (.agg (a.pvl x))<| .val a x) c↔Ap B w a x c:=λc=>by
   cases h:a.isS with
   |true=>exact ih1
   |false=>exact Iff.rfl
  constructor
  ·rintro⟨c1,c2,e,h1,h2⟩;exact⟨c1,c2,e,(e1 c1).1 h1,ih2.1 h2⟩
  ·rintro⟨c1,c2,e,h1,h2⟩;exact⟨c1,c2,e,(e1 c1).2 h1,ih2.2 h2⟩
 | .nil,_,cs=>Iff.rfl
 | .int k,x,cs=>⟨λ⟨c1,c2,e,h1,h2⟩=>by rw[e,show c2=[]from h2,Aun];exact h1,λh=>⟨cs,[],by simp,h,rfl⟩⟩
 | .bool,x,cs=>⟨λ⟨c1,c2,e,h1,h2⟩=>by rw[e,show c2=[]from h2,Aun];exact h1,λh=>⟨cs,[],by simp,h,rfl⟩⟩
 | .str,x,cs=>⟨λ⟨c1,c2,e,h1,h2⟩=>by rw[e,show c2=[]from h2,Aun];exact h1,λh=>⟨cs,[],by simp,h,rfl⟩⟩
 | .list e,x,cs=>⟨λ⟨c1,c2,e,h1,h2⟩=>by rw[e,show c2=[]from h2,Aun];exact h1,λh=>⟨cs,[],by simp,h,rfl⟩⟩
 | .vec n e,x,cs=>⟨λ⟨c1,c2,e,h1,h2⟩=>by rw[e,show c2=[]from h2,Aun];exact h1,λh=>⟨cs,[],by simp,h,rfl⟩⟩
theorem VL{e:ET}{x:e.T}{cs:List Value}:Ba B w L (e.pv x) cs↔Ap B w e x cs:=by
 unfold ET.pv;cases h:e.isS with
 |true=>exact X9
 |false=>exact Iff.rfl
theorem Alu{e e':ET}{x:e.T}{y:e'.T}{cs:List Value}(h:jB e e' x=some y)(hx:Ap B w e x cs):Ap B w e' y cs:=by
 unfold jB at h;split at h
 ·rename_i he;subst he;cases h;exact hx
 ·cases h
theorem Q9{e:ET}{rec:List PV->Option e.T}(hrec:∀l x cs,rec l=some x->Ba.go B w L l cs->Ap B w e x cs){p:PV}{x:e.T}{cs:List Value}(h:Aal e rec p=some x)(hp:Ba B w L p cs):Ap B w e x cs:=by
 unfold Aal at h;split at h
 ·exact Alu h hp
 ·exact hrec _ _ _ h hp
 ·cases e<;>simp only[ET.Avy,reduceCtorEq,Ajx]at h;subst h;exact⟨_,[],show cs=_ from hp,Rd.nil,rfl⟩
 ·cases h
theorem S3:∀{e:ET} {l:List PV} {x:e.T} {cs:List Value},e.ofl l=some x->Ba.go B w L l cs->Ap B w e x cs
 | .cons a r,[],x,cs,h,hl=>by simp[ET.ofl]at h
 | .cons a r,p::ps,x,cs,h,⟨c1,c2,e,h1,h2⟩=>by
  simp only[ET.ofl]at h;obtain⟨y,hy,h⟩:=bind_some h;obtain⟨z,hz,h⟩:=bind_some h;cases h;exact⟨c1,c2,e,Q9 (λl x cs h hl=>S3 h hl) hy h1,S3 hz h2⟩
 | .nil,[],x,cs,h,hl=>hl
 | .nil,_::_,x,cs,h,hl=>by simp[ET.ofl]at h
 | .int k,l,x,cs,h,hl=>by cases l<;>simp[ET.ofl]at h
 | .bool,l,x,cs,h,hl=>by cases l<;>simp[ET.ofl]at h
 | .str,l,x,cs,h,hl=>by cases l<;>simp[ET.ofl]at h
 | .list e,l,x,cs,h,hl=>by cases l<;>simp[ET.ofl]at h
 | .vec n e,l,x,cs,h,hl=>by cases l<;>simp[ET.ofl]at h
theorem RK{e:ET}{p:PV}{x:e.T}{cs:List Value}(h:e.of p=some x)(hp:Ba B w L p cs):Ap B w e x cs:=Q9 (λ_ _ _ h hl=>S3 h hl) h hp
theorem N0{e:ET}:∀{l:List PV} {x:List e.T} {cs:List Value},Q5.go e l=some x->Ba.go B w L l cs->Bq (Ap B w e) x cs
 |[],x,cs,hx,hl=>by simp only[Q5.go,Ajx]at hx;subst hx;exact hl
 |a::q,x,cs,hx,⟨c1,c2,e',h1,h2⟩=>by
  simp only[Q5.go]at hx;split at hx
  ·rename_i y ys hy hys;cases hx;exact⟨c1,c2,e',RK hy h1,N0 hys h2⟩
  ·cases hx
theorem Ag6{m:Nat}{e:ET}{l:List PV}{v:PV}{cs:List Value}(h:Q5 m e l=some v)(hl:Ba.go B w L l cs):Ba B w L v cs:=by
 unfold Q5 at h;split at h
 ·rename_i x hx;obtain⟨hb,h⟩:=Ay h;cases h;exact⟨Ce hb,N0 hx hl⟩
 ·cases h
theorem nR{f:TypeId->List Value->Option (PV×List Value)}(hf:∀t cs v q,f t cs=some (v,q)->∃c,cs=c++q/\Ba B w L v c):∀{ts:List TypeId} {cs:List Value} {vs:List PV} {q:List Value},sO f ts cs=some (vs,q)->∃c,cs=c++q/\Ba.go B w L vs c
 |[],cs,vs,q,h=>by simp only[sO,Ajx,Auu]at h;obtain⟨rfl,rfl⟩:=h;exact⟨[],rfl,rfl⟩
 |t::ts,cs,vs,q,h=>by
  simp only[sO]at h;split at h
  ·rename_i v cs' h1;split at h
   ·rename_i us r' h2;cases h;obtain⟨c1,rfl,h3⟩:=hf _ _ _ _ h1;obtain⟨c2,rfl,h4⟩:=nR hf h2;exact⟨c1++c2,by simp,c1,c2,rfl,h3,h4⟩
   ·cases h
  ·cases h
theorem Ahg(c:Value):(ofConst c).isA=false:=by
 unfold ofConst;split
 ·split
  ·rename_i m _ kd _;cases decide (kd.gi.toZ (kd.gi.ofZ m)=m)<;>rfl
  ·rfl
 all_goals rfl
theorem qj{c:Value}(hc:(ofConst c).jf=true):Ba B w L (ofConst c) [c]:=by
 rcases hU (B:=B) (w:=w) (L:=L) c with h|⟨_,h⟩
 ·rw[h]at hc;cases hc
 ·unfold Gl at h;rw[Ahg]at h;exact h
theorem XD:∀(q:Nat) {t:TypeId} {cs:List Value} {v:PV} {r:List Value},parse P q t cs=some (v,r)->∃c,cs=c++r/\Ba B w L v c
 |0,_,_,_,_,h=>by simp[parse]at h
 |q+1,t,cs,v,r,h=>by
  simp only[parse]at h;split at h
  ·split at h
   ·rename_i vs r' h1;cases h;obtain⟨c,h2,h3⟩:=nR (λt cs v q' h=>XD q h) h1;exact⟨c,h2,h3⟩
   ·cases h
  ·split at h
   ·rename_i a vs r' h0 h1;split at h
    ·rename_i u hu;cases h;obtain⟨c,h2,h3⟩:=nR (λt cs v q' h=>XD q h) h1;exact⟨c,h2,Ag6 hu h3⟩
    ·cases h
   ·cases h
  ·split at h
   ·rename_i c r';obtain⟨hb,h⟩:=Ay h;cases h;exact⟨[c],rfl,qj hb⟩
   ·cases h
  ·cases h
theorem mT{t:TypeId}{v:Value}{p:PV}(h:nA P t v=some p):Ba B w L p v.cells.toList:=by
 unfold nA at h;split at h
 ·rename_i p' h1;cases h;obtain⟨c,h2,h3⟩:=XD (B:=B) (w:=w) (L:=L) Q h1;rw[Aun]at h2;rw[h2];exact h3
 ·cases h
theorem wJ{t:TypeId}{a:PV}{c1 c2 c3:List Value}(ho:OkLoad P t a)(ha:Ba B w L a c2):∃v,Gl B w L a v/\∀w0,(part t (c1++(c2++c3)).toArray c1.length).run P w0= .ok v w0:=by
 obtain⟨d,hd,hA⟩:=ho.agg;have hlen:=ha.len;cases hb:a.isA with
 |true=>
  refine⟨.agg c2.toArray,by unfold Gl;rw[hb];exact⟨c2,rfl,ha⟩,λw0=>?_⟩;simp only[part,Aj3,Ev hd (hA.trans hb),Bk ho.size,Ab3,Az3,Aph];congr 2;apply Array.ext';rw[<-hlen];simp[List.take_append,List.drop_append]
 |false=>
  rw[ho.one hb]at hlen
  match c2,hlen with
  |[v],_=>
   refine⟨v,by unfold Gl;rw[hb];exact ha,λw0=>?_⟩;simp only[part,Aj3,Ev hd (hA.trans hb),Ab3,Ao4,Axj];simp
theorem Agn{rec:TypeId->PV->PV->Option Bool}{q:Nat}(hrec:∀{t:TypeId} {x y:PV} {b:Bool} {v v':Value},rec t x y=some b->Gl B w L x v->Gl B w L y v'->∀w0,(Op.equalIn q t v v').run P w0= .ok b w0):
  ∀{fs:List Field} {l m:List PV} {off:Nat} {b:Bool} {p1 p2 c1 c2:List Value},S6 P rec fs l m off=some b->Ba.go B w L l c1->Ba.go B w L m c2->p1.length=off->p2.length=off->
   ∀w0,(Op.eqFields q (p1++c1).toArray (p2++c2).toArray fs).run P w0= .ok b w0
 |[],[],[],off,b,p1,p2,c1,c2,h,_,_,_,_,w0=>by
  simp only[S6,Ajx]at h;subst h;rfl
 |f::fs,x::l,y::m,off,b,p1,p2,c1,c2,h,⟨d1,e1,hc1,hx,hl⟩,⟨d2,e2,hc2,hy,hm⟩,h1,h2,w0=>by
  subst hc1 hc2;simp only[S6]at h;cases hc:(f.name== "_"|| !Nat.beq f.offset off|| !Mu P f.type x|| !Mu P f.type y|| !Nat.beq x.size y.size)with
  |true=>rw[hc]at h;cases h
  |false=>
   rw[hc]at h
   try dsimp only[Cm,cond]at h
   simp only[Bool.or_eq_false_iff,Bool.not_eq_false']at hc;obtain⟨⟨⟨⟨hn,ho⟩,hlx⟩,hly⟩,hsz⟩:=hc;have hoff:=Ce ho;have hsz':=Ce hsz;split at h
   ·rename_i bx br hbx hbr;cases h;obtain⟨v,hv,hpx⟩:=wJ (c1:=p1) (c3:=e1) (Qa hlx) hx;obtain⟨v',hv',hpy⟩:=wJ (c1:=p2) (c3:=e2) (Qa hly) hy;have hr:=hrec hbx hv hv';have hnm:f.name≠ "_":=by simpa using hn
    have ih:=Agn hrec (p1:=p1++d1) (p2:=p2++d2) hbr hl hm (by simp[h1,hx.len]) (by simp[h2,hy.len,hsz']);rw[Adn,Adn]at ih;rw[h1,<-hoff]at hpx;rw[h2,<-hoff]at hpy;simp only[Op.eqFields,hnm,ne_eq,not_false_eq_true,Az3,Aj3,hpx,hpy,Ab3,hr];cases bx with
    |true=>simpa using ih w0
    |false=>simp
   ·cases h
 |[],_::_,_,_,_,_,_,_,_,h,_,_,_,_,_=>by simp[S6]at h
 |[],[],_::_,_,_,_,_,_,_,h,_,_,_,_,_=>by simp[S6]at h
 |_::_,[],_,_,_,_,_,_,_,h,_,_,_,_,_=>by simp[S6]at h
 |_::_,_::_,[],_,_,_,_,_,_,h,_,_,_,_,_=>by simp[S6]at h
theorem xF{te:TypeId}{k:Kd}{d:Nat}(ho:∀x:k.T,OkLoad P te (.val (.int k) x))(hi:Ab8 P te=true):∀{a b:List k.T} {p1 p2 c1 c2:List Value},Bq (Ap B w (.int k)) a c1->Bq (Ap B w (.int k)) b c2->a.length=b.length->p1.length=p2.length->
  ∀w0,(Op.eqItems (d+1) te 1 (p1++c1).toArray (p2++c2).toArray (List.range' p1.length a.length)).run P w0= .ok (Akl a b) w0
 |[],[],_,_,_,_,_,_,_,_,w0=>by simp[Op.eqItems,Akl]
 |x::a,y::b,p1,p2,c1,c2,⟨d1,e1,hc1,hx,ha⟩,⟨d2,e2,hc2,hy,hb⟩,hl,hp,w0=>by
  subst hc1 hc2;obtain⟨v,hv,hpx⟩:=wJ (B:=B) (w:=w) (L:=[]) (a:= .val (.int k) x) (c1:=p1) (c3:=e1) (ho x) hx;obtain⟨v',hv',hpy⟩:=wJ (B:=B) (w:=w) (L:=[]) (a:= .val (.int k) y) (c1:=p2) (c3:=e2) (ho y) hy;have q1:=RO (show Ef B w [] (.val (.int k) x) v from hv);have q2:=RO (show Ef B w [] (.val (.int k) y) v' from hv');have hk:∃k0,P.underlying te=some (.int k0):=by
   unfold Ab8 at hi;split at hi
   ·exact⟨_,by assumption⟩
   ·cases hi
  obtain⟨k0,hk⟩:=hk;have hr:=run_equalIn_int w0 d te k.k k0 (GI.toZ x) (GI.toZ y) hk;have n1:d1.length=1:=by have:d1=_:=hx;rw[this];rfl
  have n2:d2.length=1:=by have:d2=_:=hy;rw[this];rfl
  have ih:=xF (d:=d) ho hi (p1:=p1++d1) (p2:=p2++d2) ha hb (by simpa using hl) (by simp[hp,n1,n2]);rw[Adn,Adn,Aby,n1]at ih;simp only[Aj1,List.range'_succ,Op.eqItems,Aj3,Azh,hpx,Ab3];rw[hp,hpy];simp only[Ab3,q1,q2,iv,hr];rw[<-hp];simp only[Akl,geq];cases hz:(GI.toZ x==GI.toZ y)with
  |true=>simpa [hz]using ih w0
  |false=>simp[hz]
 |[],_::_,_,_,_,_,_,_,h,_,_=>by simp at h
 |_::_,[],_,_,_,_,_,_,h,_,_=>by simp at h
theorem Alx:∀(q:Nat) {t:TypeId} {x y:PV} {b:Bool} {v v':Value} (d:Nat),eqV P q t x y=some b->Gl B w L x v->Gl B w L y v'->∀w0,(Op.equalIn (d+q) t v v').run P w0= .ok b w0
 |0,_,_,_,_,_,_,_,h,_,_,_=>by simp[eqV]at h
 |q+1,t,x,y,b,v,v',d,h,hx,hy,w0=>by
  simp only[eqV]at h;split at h
  ·rename_i k0 k a k' c hu;split at h
   ·rename_i hk;subst hk;cases h;have e1:=RO (show Ef B w L (.val (.int k') a) v from hx);have e2:=RO (show Ef B w L (.val (.int k') c) v' from hy);rw[e1,e2];exact run_equalIn_int w0 (d+q) t k'.k k0 _ _ hu
   ·cases h
  ·rename_i a c hu;cases h;rw[HE (show Ef B w L (.val .bool a) v from hx),HE (show Ef B w L (.val .bool c) v' from hy)];exact run_equalIn_bool w0 (d+q) t _ _ hu
  ·rename_i a c hu;cases h;rw[yL (show Ef B w L (.val .str a) v from hx),yL (show Ef B w L (.val .str c) v' from hy)];have:=run_equalIn_string w0 (d+q) t ⟨a.toArray⟩ ⟨c.toArray⟩ hu;rw[<-Auz];rw[this,jP,jP]
  ·rename_i fs l m hu;cases hst:P.stoodInHeld t with
   |true=>rw[hst]at h;cases h
   |false=>
    rw[hst]at h
    try dsimp only[Cm,cond]at h
    obtain⟨c1,rfl,h1⟩:=hx;obtain⟨c2,rfl,h2⟩:=hy;have hf:P.fieldsOf t=fs:=by simp[Program.fieldsOf,hu]
    have:=run_equalIn_struct w0 (d+q) t c1.toArray c2.toArray (by rw[hf];exact hu) hst;rw[<-Auz,this,hf];have:=Agn (p1:=[]) (p2:=[]) (q:=d+q) (λh hx hy w0=>Alx q d h hx hy w0) h h1 h2 rfl rfl w0;simpa using this
  ·rename_i n te m k a m' k' c hu;obtain⟨hb,h⟩:=Ay h;simp only[Abz]at hb;obtain⟨⟨⟨⟨hm,hm'⟩,hq⟩,hl⟩,hi⟩:=hb;split at h
   ·rename_i hk;subst hk;cases h;have hm:=Ce hm;have hm':=Ce hm';subst hm;subst hm';obtain⟨c1,rfl,h1⟩:=hx;obtain⟨c2,rfl,h2⟩:=hy;obtain⟨l1,h1⟩:a.length=m'/\Bq (Ap B w (.int k')) a c1:=h1;obtain⟨l2,h2⟩:c.length=m'/\Bq (Ap B w (.int k')) c c2:=h2;obtain⟨q,rfl⟩:∃p,q=p+1:=⟨q-1,by have:=Au4 hq;omega⟩;have ho:=Qa hl;obtain⟨i,g1,g2⟩:=ho.size;have hce:P.cellsOf te=1:=by simp[Program.cellsOf,g1];exact g2
    have:=run_equalIn_array (w:=w0) (d+(q+1)) c1.toArray c2.toArray hu g1;rw[<-Auz,this,List.range_eq_range',hce,<-l1];have:=xF (p1:=[]) (p2:=[]) (d:=d+q) (λx=>(⟨ho.agg,ho.size,ho.one⟩:OkLoad P te (.val (.int k') x))) hi h1 h2 (l1.trans l2.symm) rfl w0;simpa [Auz]using this
   ·cases h
  ·cases h
theorem Af6{t:TypeId}{x:Operand}{l:List PV}(hm:Fv B w L σ s.sl)(h:Ark P s t x=some (.agg l)):Gl B w L (.agg l) (ev σ x):=by
 unfold Ark at h;split at h
 ·rename_i cs;have:=mT (B:=B) (w:=w) (L:=L) h;exact⟨cs.toList,by simp[ev],this⟩
 ·have e:Ed s.sl x= .agg l:=At5 h;exact Cu (p:= .agg l) hm e rfl
theorem Arv{o:BinOp}{t t':TypeId}{x y:Operand}{v:PV}(hm:Fv B w L σ s.sl)(h:Auk P s o t x y=some v):∃b,v= .b b/\∀w',XO P σ w' (.binOp o t x y t') (.bool b):=by
 unfold Auk at h;split at h
 ·rename_i q l m hq hl hm';have hx:=Af6 hm hl;have hy:=Af6 hm hm';cases hg:P.eqGuardType P.depth t with
  |true=>rw[hg]at h;cases h
  |false=>
   rw[hg]at h;simp only[Az5,P6,Ayt]at h;obtain⟨b,hb,rfl⟩:=h;refine⟨_,rfl,λw'=>?_⟩;have he:=Alx Q (10000-Q) hb hx hy;obtain⟨c1,e1,_⟩:=hx;obtain⟨c2,e2,_⟩:=hy;rw[e1,e2]at he;refine X.bin e1 e2 λox oy w0=>?_;have hgd:=run_eqGuard_agg (P:=P) w0 o t ox oy c1.toArray c2.toArray hg;have he':(Op.equalIn 10000 t (.agg c1.toArray) (.agg c2.toArray)).run P w0= .ok b w0:=he w0;cases o<;>simp only[yX,Ajx,reduceCtorEq]at hq<;>subst hq
   ·simp only[Aj3,hgd,Ab3,run_eql_struct,he',cond_true,B9]
   ·simp only[Aj3,hgd,Ab3,run_neq_struct,he',Az5,P6]
 ·cases h
end Go.Rx
namespace Go.Rx
open Go Go.Lv
variable {P:Program} {B:Reg} {w:World} {L:List MD} {s:S} {σs:List Env} {σ:Env}
abbrev Yields(P:Program)(B:Reg)(w:World)(L:List MD)(σ:Env)(W:World->Prop)(o:Op)(v:PV):Prop:=v.isV=true/\∃val,(∀w',W w'->XO P σ w' o val)/\Ef B w L v val
theorem An1{W:World->Prop}{c x y:Operand}{b:Bool}{a a' p:PV}(hc:ev σ c= .bool b)(ha:b=true->OpR B w L σ a (ev σ x))(ha':b=false->OpR B w L σ a' (ev σ y))(h:Asb b a a'=some p):
  Yields P B w L σ W (.pick c x y) p:=by
 have key:∀(q:PV) (v:Value),OpR B w L σ q v->known q=some p->p.isV=true/\Ef B w L p v:=λq v hq hp=>by
  obtain⟨rfl,hv⟩:=zP hp;exact⟨hv,(OpR.iff hv).1 hq⟩
 cases b with
 |true=>
  obtain⟨h1,h2⟩:=key a _ (ha rfl) h;exact⟨h1,_,λw' _=>X.pick hc rfl rfl rfl,h2⟩
 |false=>
  obtain⟨h1,h2⟩:=key a' _ (ha' rfl) h;exact⟨h1,_,λw' _=>X.pick hc rfl rfl rfl,h2⟩
theorem Aei{x:Operand}{b:Bool}(h:Aid x=some b):ev σ x= .bool b:=by
 unfold Aid at h;split at h
 ·cases h;rfl
 ·cases h
theorem Ahe{W:World->Prop}{c x y:Operand}{b:Bool}{a a' p:PV}{lit:Option Bool}(hc:ev σ c= .bool b)(ha:b=true->OpR B w L σ a (ev σ x))(ha':b=false->OpR B w L σ a' (ev σ y))
  (hl:lit=some true->Aid x=some true) (hl':lit=some false->Aid y=some false) (h:Acu b lit a a'=some p):
  Yields P B w L σ W (.pick c x y) p:=by
 unfold Acu at h;split at h
 ·rename_i u v;have hu:b=true->ev σ x= .bool u:=λhb=>HE (ha hb);have hv:b=false->ev σ y= .bool v:=λhb=>HE (ha' hb);split at h
  ·have:=Aei (σ:=σ) (hl rfl);cases h;refine⟨rfl, .bool (b||v),λw' _=>X.pick hc rfl rfl ?_,rfl⟩;cases b with
   |true=>simpa using this
   |false=>simpa using hv rfl
  ·have:=Aei (σ:=σ) (hl' rfl);cases h;refine⟨rfl, .bool (b&&u),λw' _=>X.pick hc rfl rfl ?_,rfl⟩;cases b with
   |true=>simpa using hu rfl
   |false=>simpa using this
  ·cases h;refine⟨rfl, .bool (Cm (b) (u)<|v),λw' _=>X.pick hc rfl rfl ?_,rfl⟩;cases b with
   |true=>simpa using hu rfl
   |false=>simpa using hv rfl
 ·rename_i e u e' v _;split at h
  ·rename_i he;subst he;cases h;refine⟨rfl,if b then ev σ x else ev σ y,λw' _=>X.pick hc rfl rfl rfl,?_⟩;cases b with
   |true=>simpa using(show Ef B w L (.val e' u) (ev σ x)from ha rfl)
   |false=>simpa using(show Ef B w L (.val e' v) (ev σ y)from ha' rfl)
  ·cases h
 ·cases h
theorem zO{t:TypeId}{f off z:Nat}(h:fieldInfo P t f=some (off,z))(hz:Nat.beq z 0=false):kI P t f off:=
 kI.mk h (by intro e;subst e;cases hz)
theorem Adz{l:List PV}{f off:Nat}{u:PV}{v:Value}(h:Ef B w L (.rptr (.agg l)) v)(hl:l[f]? =some u)(ho:xV l f=off):
  ∃b o,v= .pointer (some ⟨b,o,none⟩)/\Ef B w L (.rptr u) (.pointer (some ⟨b,o+off,none⟩)):=by
 obtain⟨c0,⟨b,o,arr,T,fr,rfl,h2,h3,h4⟩,h5⟩:=rP h;obtain⟨c1,c2,c3,e,h6,h7,_⟩:=Ba.field (show Ba.go B w L l c0 from h5) hl;refine⟨b,o,rfl,_,c2,rfl,⟨b,o+off,arr,T,fr,rfl,h2,h3,λi hi=>?_⟩,h7⟩;have:=h4 (off+i) (by rw[e];simp;omega);rw[Auz,this,e,List.getElem?_append_right (by omega),h6,ho];rw[show off+i-off=i by omega,List.getElem?_append_left hi]
theorem Aq4{o:BinOp}{q:Bool}{k k':Kd}{a:k.T}{c:k'.T}{v:PV}{t:TypeId}(h:At3 o q k a k' c=some v):
  v.isV=true/\∃val,Jq P o t (iv (T:=k.T) (k:=k.k) a) (iv (T:=k'.T) (k:=k'.k) c) val/\Ef B w L v val:=by
 unfold At3 at h;cases hd:Awk o with
 |true=>
  rw[hd]at h;cases q with
  |true=>
   try dsimp only[Cm,cond]at h
   split at h
   ·rename_i hc;exact vZ h hc
   ·cases h
  |false=>
   try dsimp only[Cm,cond]at h
   cases hb:(k'.isU&&Atm o)with
   |true=>
    rw[hb]at h;simp only[Abz]at hb;refine vZ h ?_;have h1:=hb.2;have h2:=hb.1;cases o<;>simp[Atm]at h1<;>simp[Ag9,h2]
   |false=>rw[hb]at h;cases h
 |false=>
  rw[hd]at h
  try dsimp only[Cm,cond]at h
  split at h
  ·rename_i hk;subst hk;exact Aln h
  ·cases h
theorem Ac0(W:World->Prop)(hm:Fv B w L σ s.sl){o:Op}{v:PV}(h:op0 P s o=some v):Yields P B w L σ W o v:=by
 unfold op0 at h;split at h
 ·
  rename_i x;have hx:=ZR hm x;obtain⟨h1,hv⟩:=zP (show known (Ed s.sl x)=some v from h);rw[h1]at hx;exact⟨hv,_,λw' _=>X.move rfl,(OpR.iff hv).1 hx⟩
 ·rename_i x;have hx:=ZR hm x;obtain⟨h1,hv⟩:=zP (show known (Ed s.sl x)=some v from h);rw[h1]at hx;exact⟨hv,_,λw' _=>X.assign rfl,(OpR.iff hv).1 hx⟩
 ·
  rename_i o t x y t';split at h
  ·rename_i k a k' c hx hy;have ex:=Yd hm hx;have ey:=Yd hm hy;obtain⟨hv,val,hb,hr⟩:=Aq4 (P:=P) (B:=B) (w:=w) (L:=L) (t:=t) h;exact⟨hv,val,λw' _=>X.bin ex ey hb,hr⟩
  ·rename_i a c hx hy;have ex:=qK hm hx;have ey:=qK hm hy;split at h
   ·rename_i hu;split at h
    ·cases h;exact⟨rfl,_,λw' _=>X.bin ex ey (Bin.Amp hu _ _),rfl⟩
    ·cases h;exact⟨rfl,_,λw' _=>X.bin ex ey (Bin.Anm hu _ _),rfl⟩
    ·cases h
   ·cases h
  ·rename_i a c hx hy;have ex:=Tw hm hx;have ey:=Tw hm hy;split at h
   ·cases h;exact⟨rfl,_,λw' _=>X.bin ex ey (Bin.Arm _ _),rfl⟩
   ·cases h;exact⟨rfl,_,λw' _=>X.bin ex ey (Bin.Aqw _ _),rfl⟩
   ·cases h
  ·obtain⟨b,rfl,hb⟩:=Arv (t':=t') hm h;exact⟨rfl,_,λw' _=>hb w',rfl⟩
 ·
  rename_i o t x;split at h
  ·rename_i k a hx;have ex:=Yd hm hx;split at h
   ·cases h;exact⟨rfl,_,λw' _=>X.neg ex,rfl⟩
   ·cases h;exact⟨rfl,_,λw' _=>X.Av2 ex,rfl⟩
   ·cases h
  ·rename_i a hx;have ex:=qK hm hx;split at h
   ·cases h;exact⟨rfl,_,λw' _=>X.not ex,rfl⟩
   ·cases h
  ·cases h
 ·
  rename_i c a b;split at h
  ·rename_i t x hx;have hs:=Sm (t:=t) hm;rw[hx]at hs;have hc:σ t= .bool x:=by have: [σ t]=[Value.bool x]:=hs.1;simpa using this
   exact An1 hc (λe=>vU (by rw[hc,e]) (ZR hm a)) (λe=>vU (by rw[hc,e]) (ZR hm b)) h
  ·rename_i t x hx;have hs:=Sm (t:=t) hm;rw[hx]at hs;have hc:σ t= .bool x:=HE hs;refine Ahe hc (λe=>vU (by rw[hc,e]) (ZR hm a)) (λe=>vU (by rw[hc,e]) (ZR hm b)) (λe=>?_) (λe=>?_) h
   ·split at e
    ·rename_i hl;exact hl
    ·split at e<;>cases e
   ·split at e
    ·cases e
    ·split at e
     ·rename_i hl;exact hl
     ·cases e
  ·cases h
 ·
  rename_i x i;split at h
  ·rename_i l hx;obtain⟨vs,e1,h1⟩:=Cu hm hx rfl;obtain⟨val,h2,h3⟩:=Gk.get h1 h;obtain⟨h4,h5⟩:=Jc h3;exact⟨h4,val,λw' _=>X.extract e1 h2,h5⟩
  ·cases h
 ·
  rename_i a t x;split at h
  ·rename_i k u k' d hx ht ha;have ex:=Yd hm hx;split at h
   ·rename_i kd hk;have hk':=Asp hk;subst hk';cases h;exact⟨rfl,_,λw' _=>X.conv (T':=kd.T) ha ht ex,rfl⟩
   ·cases h
  ·cases h
 ·
  rename_i f fs cs;split at h
  ·rename_i hfs;have hf:=HF hfs;subst hf;cases ha:Aaa (cs.toList.map (Ed s.sl))with
   |true=>
    rw[ha]at h;cases h;refine⟨rfl,_,λw' _=>?_,⟨_,rfl,wG hm _ ha⟩⟩;have:=X.makeFunc (P:=P) (σ:=σ) (w:=w') (f:=f) (cap:=cs.toList) (vs:=cs.toList.map (ev σ)) rfl;simpa using this
   |false=>rw[ha]at h;cases h
  ·cases h
 ·
  rename_i x;split at h
  ·rename_i i p hx;cases h;have hr:=Cu hm hx rfl;obtain⟨md,b,h1,h2,h3⟩:=Xm hr;exact⟨rfl,_,λw' _=>X.nilCheck h3,JZ h1 h2⟩
  ·rename_i u hx;cases h;have hr:=Cu hm hx rfl;obtain⟨c0,⟨b,off,arr,T,fr,h1,h2⟩,h3⟩:=rP hr;exact⟨rfl,_,λw' _=>X.nilCheck h1,by rw[<-h1];exact hr⟩
  ·cases h
 ·
  rename_i t x f;split at h
  ·rename_i i p off z hx hf;cases hz:Nat.beq z 0 with
   |true=>rw[hz]at h;cases h
   |false=>
    rw[hz]at h;cases h;obtain⟨md,b,h1,h2,h3⟩:=Xm (Cu hm hx rfl);refine⟨rfl,_,λw' _=>X.fieldAddr (off':=As (p++[.fld f off])) (zO hf hz) h3 ?_,JZ h1 h2⟩;rw[RM];rfl
  ·rename_i l off z hx hf;split at h
   ·rename_i u hl;cases hz:(!Nat.beq z 0&&Nat.beq (xV l f) off)with
    |true=>
     rw[hz]at h;cases h;simp only[Abz,Au3]at hz;obtain⟨b,o,h1,h2⟩:=Adz (Cu hm hx rfl) hl (Ast hz.2);exact⟨rfl,_,λw' _=>X.fieldAddr (zO hf hz.1) h1 rfl,h2⟩
    |false=>rw[hz]at h;cases h
   ·cases h
  ·cases h
 ·
  rename_i as ts;split at h
  ·rename_i x y ha;have:=HF ha;subst this;split at h
   ·rename_i k a k' c hx hy;split at h
    ·rename_i hk;subst hk;cases h;exact⟨rfl,_,λw' _=>X.min (Yd hm hx) (Yd hm hy),rfl⟩
    ·cases h
   ·cases h
  ·cases h
 ·rename_i as ts;split at h
  ·rename_i x y ha;have:=HF ha;subst this;split at h
   ·rename_i k a k' c hx hy;split at h
    ·rename_i hk;subst hk;cases h;exact⟨rfl,_,λw' _=>X.max (Yd hm hx) (Yd hm hy),rfl⟩
    ·cases h
   ·cases h
  ·cases h
 ·cases h
end Go.Rx
namespace Go.Rx
open Go Go.Lv
variable {P:Program} {B:Reg} {w:World} {L:List MD} {s:S} {σs:List Env} {σ:Env} {Z:Fix} {A:Reg}
theorem oA:∀{it:List Item} {i:Nat} {a:Item},Cb it i=a->a≠ .dead->it[i]? =some a
 |[],_,a,h,hd=>absurd h.symm (by simpa [Cb]using hd)
 |b::r,0,a,h,_=>by simpa [Cb]using h
 |b::r,i+1,a,h,hd=>by simpa using oA (it:=r) (by simpa [Cb]using h) hd
theorem MemR.item(hm:MemR B w L s σs σ){i:Nat}{a:Item}(h:Cb s.it i=a)(hd:a≠ .dead):∃md,L[i]? =some md/\Xv B w L a md:=by
 have h1:=oA h hd;have hl:i<L.length:=by rw[<-hm.it.1];exact(List.getElem?_eq_some_iff.1 h1).1
 exact⟨L[i],by simp[hl],hm.it.2 i a _ h1 (by simp[hl])⟩
theorem MemR.box(hm:MemR B w L s σs σ){i:Nat}{T:TypeId}{v:PV}(h:Cb s.it i= .box T v):∃b cells,L[i]? =some (.box b cells T)/\Ba B w L v cells:=by
 obtain⟨md,h1,h2⟩:=hm.item h (by intro e;cases e);cases md with
 |dead=>exact h2.elim
 |box b cells T'=>obtain⟨rfl,h3⟩:=h2;exact⟨b,cells,h1,h3⟩
 |own _ _ _ _=>exact h2.elim
theorem MemR.arr(hm:MemR B w L s σs σ){i:Nat}{E:TypeId}{e:ET}{l:List e.T}(h:Cb s.it i= .arr E e l):∃v cs,L[i]? =some (.own e.size E v cs)/\Bq (Ap B w e) l cs:=by
 obtain⟨md,h1,h2⟩:=hm.item h (by intro e;cases e);cases md with
 |dead=>exact h2.elim
 |box b cells T'=>exact h2.elim
 |own z E' v cs=>obtain⟨rfl,rfl,h3⟩:=h2;exact⟨v,cs,h1,h3⟩
theorem Rel.Ia(hr:Rel Z s σs A L σ w){i:Nat}{md:MD}(h:L[i]? =some md):(L.map MD.Ia)[i]? =some md.Ia:=by simp[h]
structure Ext (Z:Fix) (s:S) (σs:List Env) (A:Reg) (L:List MD) (σ:Env) (w w':World):Prop where
 ex:∃(A':Reg) (L':List MD) (it':List Item),(∀b,A b->A' b)/\Rel Z ⟨s.sl,s.it++it',s.st⟩ σs A' (L++L') σ w'
 same:Same A w w'
theorem Ext.refl(hr:Rel Z s σs A L σ w):Ext Z s σs A L σ w w:=⟨⟨A,[],[],λ_ h=>h,by simpa using hr⟩,λ_ _=>rfl⟩
theorem Aga{c1 c2 c3:List Value}{o:Nat}(h:c1.length=o):((c1++(c2++c3)).drop o).take c2.length=c2:=by
 subst h;simp
theorem bR:∀{p:List Step} {v u:PV} {cs:List Value},vR v p=some u->Ba B w L v cs->∃c1 c2 c3,cs=c1++(c2++c3)/\c1.length=As p/\Ba B w L u c2
 |[],v,u,cs,h,hv=>by simp only[vR,Ajx]at h;subst h;exact⟨[],cs,[],by simp,rfl,hv⟩
 | .fld n off::r,v,u,cs,h,hv=>by
  cases v<;>simp only[vR,reduceCtorEq]at h;rename_i l;split at h
  ·rename_i f hf;cases hb:Nat.beq (xV l n) off with
   |false=>rw[hb]at h;cases h
   |true=>
    rw[hb]at h;obtain⟨c1,c2,c3,e,h1,h2,_⟩:=Ba.field (show Ba.go B w L l cs from hv) hf;obtain⟨d1,d2,d3,e',h3,h4⟩:=bR h h2;refine⟨c1++d1,d2,d3++c3,by rw[e,e'];simp,?_,h4⟩;rw[Aby,h1,h3,Ast hb];rfl
  ·cases h
 | .idx j z::r,v,u,cs,h,hv=>by cases v<;>simp[vR]at h
theorem Am8{t T:TypeId}{u:PV}{x:Operand}{b:Nat}{c1 c2 c3:List Value}{F:List Fact}{LL:List Mob}{w':World}(h:OkLoad P t u)(hu:Ba B w L u c2):
  ∃val,Gl B w L u val/\∀(A':Reg) (F:List Fact) (LL:List Mob) (w':World) (i:Nat),St A' w' F LL->LL[i]? =some (.box b (c1++(c2++c3)) T)->ev σ x= .pointer (some ⟨b,c1.length,none⟩)->XO P σ w' (.load t x) val:=by
 obtain⟨d,hd,ha⟩:=h.agg;have hlen:=hu.len;cases hA:u.isA with
 |true=>
  refine⟨.agg c2.toArray,by unfold Gl;rw[hA];exact⟨c2,rfl,hu⟩,λA' F LL w' i hs hL hx=>?_⟩;exact X.Air hs hL ⟨d,hd,ha.trans hA⟩ h.size hx (by rw[<-hlen];exact Aga rfl) hlen
 |false=>
  have h1:=h.one hA;rw[h1]at hlen
  match c2,hlen with
  |[v],_=>
   refine⟨v,by unfold Gl;rw[hA];exact hu,λA' F LL w' i hs hL hx=>?_⟩;exact X.Ala hs hL ⟨d,hd,ha.trans hA⟩ hx (by simp)
theorem Apy{t:TypeId}{u:PV}{x:Operand}{c2:List Value}{v:Value}(h:OkLoad P t u)(hu:Ba B w L u c2)(hp:S5 B w v c2)(hx:ev σ x=v):
  ∃val,Gl B w L u val/\∀w',Same B w w'->XO P σ w' (.load t x) val:=by
 obtain⟨d,hd,ha⟩:=h.agg;have hlen:=hu.len;obtain⟨b,off,arr,T,fr,rfl,hB,hb,hc⟩:=hp;have hcell:∀w',Same B w w'->∀k,k<c2.length->w'.cell? ⟨b,off+k,none⟩=c2[k]? :=λw' hs k hk=>by
  rw[cell_of ((hs b hB).trans hb)];exact hc k hk
 cases hA:u.isA with
 |true=>
  refine⟨.agg c2.toArray,by unfold Gl;rw[hA];exact⟨c2,rfl,hu⟩,λw' hs _ _ _ _ _=>?_⟩;have h1:=Lh (P:=P) (w:=w') (b:=b) (off:=off) c2 (hcell w' hs);rw[hlen]at h1;simp only[execOp,hx,Instr.loadAt,Instr.sureAddr,Aj3,Aph,Ab3,loadVar,Ev hd (ha.trans hA),Az3,Bk h.size,h1]
 |false=>
  have h1:=h.one hA;rw[h1]at hlen
  match c2,hlen with
  |[v],_=>
   refine⟨v,by unfold Gl;rw[hA];exact hu,λw' hs _ _ _ _ _=>?_⟩;have h2:w'.cell? ⟨b,off,none⟩=some v:=by simpa using hcell w' hs 0 (by simp)
   simp only[execOp,hx,Instr.loadAt,Instr.sureAddr,Aj3,Aph,Ab3,loadVar,Ev hd (ha.trans hA),Ao4,Axj,HU h2]
theorem Bq.EN{k:Kd}:∀{l:List k.T} {cs:List Value},Bq (Ap B w (.int k)) l cs->cs=Go.Lv.EN (k:=k.k) l
 |[],_,h=>h
 |x::l,_,⟨c1,c2,e,h1,h2⟩=>by rw[e,show c1=_ from h1,Bq.EN h2];rfl
theorem Bq.nil{α:Type}{f:α->List Value->Prop}:Bq f [] []:=rfl
theorem Bq.take{α:Type}{f:α->List Value->Prop}{z:Nat}(hz:∀x c,f x c->c.length=z):∀{l:List α} {cs:List Value} (k:Nat),Bq f l cs->Bq f (l.take k) (cs.take (k*z))
 |[],cs,k,h=>by rw[show cs=[]from h];simp[Bq]
 |a::l,cs,0,_=>by simp[Bq]
 |a::l,cs,k+1,⟨c1,c2,e,h1,h2⟩=>by
  subst e;refine⟨c1,c2.take (k*z),?_,h1,Bq.take hz k h2⟩;have:(k+1)*z=c1.length+k*z:=by rw[hz _ _ h1,Aza];omega
  rw[this,List.take_length_add_append]
theorem Bq.drop{α:Type}{f:α->List Value->Prop}{z:Nat}(hz:∀x c,f x c->c.length=z):∀{l:List α} {cs:List Value} (k:Nat),Bq f l cs->Bq f (l.drop k) (cs.drop (k*z))
 |[],cs,k,h=>by rw[show cs=[]from h];simp[Bq]
 |a::l,cs,0,h=>by simpa using h
 |a::l,cs,k+1,⟨c1,c2,e,h1,h2⟩=>by
  subst e;have:(k+1)*z=c1.length+k*z:=by rw[hz _ _ h1,Aza];omega
  have h3:(c1++c2).drop (c1.length+k*z)=c2.drop (k*z):=by simp[List.drop_append]
  rw[this,h3];exact Bq.drop hz k h2
theorem Rd.part{z:Nat}{E:TypeId}{u v:Value}{cs:List Value}{p:List Step}{lo n:Int}(hv:Abu true (.own z E u cs) p z lo n v)(h:Rd B w z u cs):Rd B w z v ((cs.drop (lo.toNat*z)).take (n.toNat*z)):=by
 obtain⟨h1,h2,⟨pt,cap,rfl,h4,h5,h6⟩,h7,_⟩:=hv;obtain⟨s',E',q,len,cap0,c0,e0,rfl,g2,g3,_⟩:=h7 rfl;cases e0;obtain⟨q',len',cap',e1,k1,k2,k3,k4⟩:=h;cases e1;have k5:=g3 _ _ _ rfl;have e5:lo.toNat*z+n.toNat*z<=len*z:=by rw[<-Aux];exact Ab4 z g2
 refine⟨pt,n.toNat,cap,rfl,?_,h4,h5,λhc=>?_⟩
 ·rw[Afw,Asn,k1];omega
 ·obtain⟨b,e2,e3⟩:=h6 hc;obtain⟨b',off,arr,T,fr,e4,m1,m2,m3,m4⟩:=k4 (by omega);subst e4;have e6:b'=b/\off=0:=by
   unfold MD.base at e2;split at e2
   ·rename_i heq;cases heq
   ·rename_i heq;cases heq;cases e2;exact⟨rfl,rfl⟩
   ·cases e2
  obtain⟨rfl,rfl⟩:=e6;refine⟨b',lo.toNat*z,arr,T,fr,by rw[e3];simp[As],m1,m2,?_,λi hi=>?_⟩
  ·have:lo.toNat*z+cap*z<=cap0*z:=by rw[<-Aux];exact Ab4 z k5
   omega
  ·have:=m4 (lo.toNat*z+i) (by omega);rw[Au1]at this;rw[this,List.getElem?_take,Abb hi,List.getElem?_drop]
theorem pH{e:ET}{p:PV}{l:List e.T}{v:Value}(hm:MemR B w L s σs σ)(h:elems s e p=some l)(hv:Ef B w L p v):
  ∃c0,Bq (Ap B w e) l c0/\ ((Rd B w e.size v c0)\/ (∃i E u cs,i∈owns p/\L[i]? =some (.own e.size E u cs)/\∀(B:Reg) (w:World),Rd B w e.size u cs->Rd B w e.size v c0)):=by
 unfold elems at h;split at h
 ·rename_i e' x;split at h
  ·rename_i a l';split at h
   ·rename_i ha;subst ha;cases h;obtain⟨c0,h1,h2⟩:=Zp hv;exact⟨c0,h2, .inl h1⟩
   ·cases h
  ·cases h
 ·cases h;rw[GJ hv];exact⟨[],rfl, .inl Rd.nil⟩
 ·rename_i i;split at h
  ·rename_i E a l' hi;split at h
   ·rename_i ha;subst ha;cases h;obtain⟨v',cs,h1,h2⟩:=hm.arr hi;obtain⟨z,E',c',h3⟩:=KK hv;rw[h1]at h3;cases h3;exact⟨cs,h2, .inr ⟨i,E,_,cs, .head _,h1,λ_ _ h=>h⟩⟩
   ·cases h
  ·cases h
 ·rename_i i p e1 lo n;split at h
  ·rename_i E a l' hi;split at h
   ·rename_i ha;subst ha;cases he:decide (e1=a)with
    |false=>rw[he]at h;cases h
    |true=>
     rw[he]at h;cases h;have:=Ay1 he;subst this;obtain⟨v',cs,h1,h2⟩:=hm.arr hi;obtain⟨md,v1,h3,h4,h5⟩:=hv;rw[h1]at h3;cases h3;have h6:v=v1:=by simpa using h4
     subst h6;exact⟨_,Bq.take (λx c h=>Ap.len h) _ (Bq.drop (λx c h=>Ap.len h) _ h2), .inr ⟨i,E,v',cs, .head _,h1,λ_ _ h=>Rd.part h5 h⟩⟩
   ·cases h
  ·cases h
 ·cases h
theorem Rd.slice{z:Nat}{v:Value}{cs:List Value}(h:Rd B w z v cs)(hz:0<z):∃p len cap,v= .slice p len cap/\cs.length=len*z:=by
 obtain⟨p,len,cap,h1,h2,_⟩:=h;exact⟨p,len,cap,h1,h2⟩
theorem Anz{t e':TypeId}{e:ET}{x:Operand}{p:Option Addr}{len cap:Nat}{l:List e.T}{cs:List Value}(ht:P.underlying t=some (.slice e'))(hz:Nat.beq e.size 0=false)(hc:Bq (Ap B w e) l cs)
  (hl:cs.length=len*e.size) (hx:ev σ x= .slice p len cap):∀w',XO P σ w' (.call ⟨.builtin .len, #[x], #[t]⟩) (iv (Ac l)):=by
 have h1:=hc.len λx c h=>Ap.len h;have hp:0<e.size:=by
  rcases Nat.eq_zero_or_pos e.size with h|h
  ·rw[h]at hz;cases hz
  ·exact h
 have:len=l.length:=Aoj hp (hl.symm.trans h1);subst this;intro w';exact X.sH ht hx
theorem Rel.Tc(hr:Rel Z s σs A L σ w){i z:Nat}{E:TypeId}{v:Value}{cs:List Value}(h:L[i]? =some (.own z E v cs)):Rd (λ_=>True) w z v cs:=
 St.Tc (E:=E) hr (j:=i) (hr.Ia h)
theorem Adb(hr:Rel Z s σs A L σ w){o:Op}{v:PV}(h:op1 P s o=some v):Yields P (λb=>A b/\Z.R b) w L σ (Ext Z s σs A L σ w) o v:=by
 have hm:=hr.mem;have hS:∀w',Ext Z s σs A L σ w w'->Same (λb=>A b/\Z.R b) w w':=λw' he b hb=>he.same b hb.1;unfold op1 at h;split at h
 ·
  rename_i t x;split at h
  ·rename_i i p hx;obtain⟨md,b,h1,h2,h3⟩:=Xm (Cu hm.sl hx rfl);split at h
   ·rename_i T v0 hi;split at h
    ·rename_i u hu;cases hk:Mu P t u with
     |false=>rw[hk]at h;cases h
     |true=>
      rw[hk]at h;cases h;obtain⟨b',cells,h4,h5⟩:=hm.box hi;rw[h4]at h1;cases h1;cases h2;obtain⟨c1,c2,c3,e,h6,h7⟩:=bR hu h5;obtain⟨val,h8,h9⟩:=Am8 (σ:=σ) (x:=x) (b:=b) (T:=T) (c1:=c1) (c3:=c3) (F:=[]) (LL:=[]) (w':=w) (Qa hk) h7;obtain⟨hv,hv'⟩:=Jc h8;refine⟨hv,val,λw' he=>?_,hv'⟩;obtain⟨A',L',it',ha,hr'⟩:=he.ex;have h10:(L++L')[i]? =some (.box b cells T):=by rw[List.getElem?_append_left (List.getElem?_eq_some_iff.1 h4).1];exact h4
      exact h9 A' _ _ w' i hr' (by rw[hr'.Ia h10,<-e];rfl) (by rw[h3,h6])
    ·cases h
   ·cases h
  ·rename_i u hx;cases hk:Mu P t u with
   |false=>rw[hk]at h;cases h
   |true=>
    rw[hk]at h;cases h;obtain⟨c0,h1,h2⟩:=rP (Cu hm.sl hx rfl);obtain⟨val,h3,h4⟩:=Apy (P:=P) (Qa hk) h2 h1 rfl;obtain⟨hv,hv'⟩:=Jc h3;exact⟨hv,val,λw' he=>h4 w' (hS w' he),hv'⟩
  ·cases h
 ·
  rename_i a t x;split at h
  ·rename_i ht;split at h
   ·rename_i e ha;split at h
    ·rename_i he;cases hel:elems s (.int .u8) (Ed s.sl x)with
     |none=>rw[hel]at h;cases h
     |some l=>
      rw[hel]at h;cases h;have hx:=ZR hm.sl x;have hV:(Ed s.sl x).isV=true:=by
       cases hq:(Ed s.sl x).isV with
       |true=>rfl
       |false=>rcases Zw hq with h|h|⟨_,_,_,h⟩<;>rw[h]at hel<;>cases hel
      obtain⟨c0,h1,h2⟩:=pH hm hel ((OpR.iff hV).1 hx);have h3:=Bq.EN (k:= .u8) h1;subst h3;refine⟨rfl,sv l,λw' hext=>?_,rfl⟩;rcases h2 with h2|⟨i,E,u,cs,_,h2,hpart⟩
      ·exact X.b2s (l:=l) ha he ht (h2.step (λ_ h=>h) (hS w' hext)) rfl
      ·obtain⟨A',L',it',ha',hr'⟩:=hext.ex;have h4:(L++L')[i]? =some (.own 1 E u cs):=by rw[List.getElem?_append_left (List.getElem?_eq_some_iff.1 h2).1];exact h2
       exact X.b2s (l:=l) ha he ht (hpart _ _ (hr'.Tc h4)) rfl
    ·cases h
   ·cases h
  ·cases h
 ·
  rename_i as ts;split at h
  ·rename_i x t has hts;have h1:=HF has;have h2:=HF hts;subst h1 h2;split at h
   ·rename_i ht;split at h
    ·rename_i l hx;cases h;exact⟨rfl,_,λw' _=>X.Are ht (Tw hm.sl hx),rfl⟩
    ·cases h
   ·rename_i e' ht;split at h
    ·rename_i e l hx;cases hz:Nat.beq e.size 0 with
     |true=>rw[hz]at h;cases h
     |false=>
      rw[hz]at h;cases h;obtain⟨c0,h3,h4⟩:=Zp (Cu hm.sl hx rfl);obtain⟨p,len,cap,h5,h6,_⟩:=h3;exact⟨rfl,_,λw' _=>Anz ht hz h4 h6 h5 w',rfl⟩
    ·rename_i hx;cases h;have h3:=GJ (Cu hm.sl hx rfl);exact⟨rfl,_,λw' _=>X.sH ht h3,rfl⟩
    ·rename_i o i p e n lo hx;cases h;obtain⟨md,v1,h3,h4,h5⟩:=Cu hm.sl hx rfl;obtain⟨k1,k2,⟨pt,cap,k3,_⟩,_⟩:=h5;have h6:ev σ x=v1:=by simpa using h4
     refine⟨rfl,_,λw' _=>X.sH ht (h6.trans k3),?_⟩
     show [_]=[_];simp[iv,GI.toZ,Int.toNat_of_nonneg k2]
    ·rename_i i hx;split at h
     ·rename_i E e l hi;cases hz:Nat.beq e.size 0 with
      |true=>rw[hz]at h;cases h
      |false=>
       rw[hz]at h;cases h;obtain⟨v',cs,h3,h4⟩:=hm.arr hi;obtain⟨z,E',c',h5⟩:=KK (Cu hm.sl hx rfl);rw[h3]at h5;cases h5;obtain⟨p,len,cap,h6,h7,_⟩:=hr.Tc h3;exact⟨rfl,_,λw' _=>Anz ht hz h4 h7 h6 w',rfl⟩
     ·cases h
    ·cases h
   ·rename_i n _ ht;cases h;exact⟨rfl,_,λw' _=>X.Aqi ht rfl,rfl⟩
   ·cases h
  ·cases h
 ·cases h
end Go.Rx
namespace Go.Rx
open Go Go.Lv
variable {P:Program} {B:Reg} {w w':World} {L L':List MD} {s:S} {σs:List Env} {σ:Env} {Z:Fix} {A A':Reg} {n:Nat}
theorem XU:∀{sl:Slots} {d t:Nat} {p:PV},(t,p)∈tZ d sl-> (t,p)∈sl/\t≠d/\∀j w q,p= .gd j w q->j≠d
 |[],_,_,_,h=>by simp[tZ]at h
 |(q,v)::r,d,t,p,h=>by
  have key:∀{j:Nat},Nat.beq j d=false->j≠d:=λh e=>by subst e;simp at h
  simp only[tZ]at h;cases hq:Nat.beq q d with
  |true=>rw[hq]at h;obtain⟨h1,h2⟩:=XU h;exact⟨.tail _ h1,h2⟩
  |false=>
   rw[hq]at h;dsimp only[Cm,cond]at h;split at h
   ·rename_i j w u;cases hj:Nat.beq j d with
    |true=>rw[hj]at h;obtain⟨h1,h2⟩:=XU h;exact⟨.tail _ h1,h2⟩
    |false=>
     rw[hj]at h;rcases List.mem_cons.1 h with h|h
     ·cases h;exact⟨.head _,key hq,λj' w' q' e=>by cases e;exact key hj⟩
     ·obtain⟨h1,h2⟩:=XU h;exact⟨.tail _ h1,h2⟩
   ·rename_i hg;rcases List.mem_cons.1 h with h|h
    ·cases h;exact⟨.head _,key hq,λj' w' q' e=>(hg _ _ _ e).elim⟩
    ·obtain⟨h1,h2⟩:=XU h;exact⟨.tail _ h1,h2⟩
theorem Hu.other{d t:Nat}{p:PV}{v:Value}(h:Hu B w L σ t p)(ht:t≠d)(hg:∀j w q,p= .gd j w q->j≠d):Hu B w L (Ub σ d v) t p:=by
 cases hv:p.isV with
 |true=>
  refine(Hu.iff hv).2 ?_;rw[oD _ _ ht];exact(Hu.iff hv).1 h
 |false=>
  rcases Zw hv with rfl|rfl|⟨j,w,q,rfl⟩
  ·exact trivial
  ·show Go.Lv.Ub σ d v t=_;rw[oD _ _ ht];exact h
  ·obtain⟨b,h1,h2,h3⟩:=h;have hj:=hg _ _ _ rfl;exact⟨b,by rw[oD _ _ hj];exact h1,by rw[oD _ _ ht];exact h2,by rw[oD _ _ ht];exact h3⟩
theorem Fv.set{sl:Slots}{d:Nat}{p:PV}{v:Value}(h:Fv B w L σ sl)(hp:Hu B w L (Ub σ d v) d p):Fv B w L (Ub σ d v) (Aia sl d p):=by
 rintro⟨t,q⟩ hq;rcases List.mem_cons.1 hq with hq|hq
 ·cases hq;exact hp
 ·obtain⟨h1,h2,h3⟩:=XU hq;exact(h _ h1).other h2 h3
theorem Rel.sj{s':S}{σ':Env}(hr:Rel Z s σs A L σ w)(hi:s'.it=s.it)(ht:s'.st=s.st)(h:Fv (λb=>A b/\Z.R b) w L σ' s'.sl):Rel Z s' σs A L σ' w:=
 Rel.as hr (i:=1) rfl ⟨by rw[hi];exact hr.mem.it,h,by rw[ht];exact hr.mem.stk⟩ rfl
theorem Hu.put{d:Nat}{p:PV}{v:Value}(hv:p.isV=true)(h:Ef B w L p v):Hu B w L (Ub σ d v) d p:=by
 refine(Hu.iff hv).2 ?_;rw[SG];exact h
theorem Rel.set{d:Nat}{p:PV}{v:Value}(hr:Rel Z s σs A L σ w)(h:Hu (λb=>A b/\Z.R b) w L (Ub σ d v) d p):Rel Z (s.set d p) σs A L (Ub σ d v) w:=
 hr.sj rfl rfl (hr.mem.sl.set h)
def Ail(σ:Env)(d:Option Nat)(v:Value):Env:=match d with|some d=>Ub σ d v|none=>σ
theorem Rel.Gm{d:Option Nat}{p:PV}{v:Value}(hr:Rel Z s σs A L σ w)(hv:p.isV=true)(h:Ef (λb=>A b/\Z.R b) w L p v):Rel Z (s.Gm d p) σs A L (Ail σ d v) w:=by
 cases d with
 |none=>exact hr
 |some d=>exact hr.set (.put hv h)
theorem Rel.Aop{d:Option Nat}(hr:Rel Z s σs A L σ w):Rel Z (s.Gm d .off) σs A L (Ail σ d Go.undef) w:=by
 cases d with
 |none=>exact hr
 |some d=>exact hr.set (show Ub σ d Go.undef d=Go.undef from SG _ _ _)
theorem yc:∀{sl:Slots} {t q:Nat} {b:Bool} {p:PV},(q,p)∈Ahu t b sl-> (q=t/\p= .cst (.bool b))\/ (∃p0,(q,p0)∈sl/\ (p=p0\/∃want u,p0= .gd t want u/\p=(Cm (mJ want b) (u)<| .off)))
 |[],_,_,_,_,h=>by simp[Ahu]at h
 |(q',v)::r,t,q,b,p,h=>by
  simp only[Ahu]at h;rcases List.mem_cons.1 h with g|g
  ·clear h;cases hq:Nat.beq q' t with
   |true=>
    rw[hq]at g;simp only[cond_true,B9,Auu]at g;exact .inl ⟨g.1.trans (Ast hq),g.2⟩
   |false=>
    rw[hq]at g;dsimp only[Cm,cond]at g;split at g
    ·rename_i j want u;cases hj:Nat.beq j t with
     |true=>
      rw[hj]at g;simp only[cond_true,B9,Auu]at g;have:=Ast hj;subst this;exact .inr ⟨_,by rw[g.1];exact .head _, .inr ⟨want,u,rfl,g.2⟩⟩
     |false=>
      rw[hj]at g;cases g;exact .inr ⟨_, .head _, .inl rfl⟩
    ·cases g;exact .inr ⟨_, .head _, .inl rfl⟩
  ·rcases yc g with h|⟨p0,h1,h2⟩
   ·exact .inl h
   ·exact .inr ⟨p0, .tail _ h1,h2⟩
theorem Fv.res{sl:Slots}{t:Nat}{b:Bool}(h:Fv B w L σ sl)(ht:σ t= .bool b):Fv B w L σ (Ahu t b sl):=by
 rintro⟨q,p⟩ hp;rcases yc hp with⟨h1,h2⟩|⟨p0,h1,h2⟩
 ·subst h1;subst h2;exact⟨show [σ q]=[_] by rw[ht],rfl⟩
 ·have h3:=h _ h1;rcases h2 with rfl|⟨want,u,rfl,rfl⟩
  ·exact h3
  ·obtain⟨c,h4,h5,h6⟩:=h3;rw[ht]at h4;cases h4;cases hw:mJ want b with
   |true=>
    have hb:=Ant hw;subst hb;have h7:=h5 rfl;cases hv:u.isV with
    |true=>exact(Hu.iff hv).2 h7
    |false=>
     rcases Zw hv with rfl|rfl|⟨j,w',q',rfl⟩
     ·exact trivial
     ·exact(show False from h7).elim
     ·exact(show False from h7).elim
   |false=>
    show σ q=_;refine h6 λe=>?_;subst e;cases b<;>cases hw
theorem Rel.res{t:Nat}{b:Bool}(hr:Rel Z s σs A L σ w)(ht:σ t= .bool b):Rel Z (s.res t b) σs A L σ w:=hr.sj rfl rfl (hr.mem.sl.res ht)
structure Grow (A:Reg) (L:List MD) (it:List Item) (w:World) (A':Reg) (L':List MD) (it':List Item) (w':World):Prop where
 reg:∀b,A b->A' b
 same:Same A w w'
 md:∃M,L'=L++M
 it:∃m,it'=it++m
theorem Grow.refl{it:List Item}:Grow A L it w A L it w:=⟨λ_ h=>h,λ_ _=>rfl,⟨[],by simp⟩,⟨[],by simp⟩⟩
theorem Grow.trans{A'':Reg}{L'':List MD}{it it' it'':List Item}{w'':World}(h:Grow A L it w A' L' it' w')(h':Grow A' L' it' w' A'' L'' it'' w''):Grow A L it w A'' L'' it'' w'':=by
 obtain⟨M,e1⟩:=h.md;obtain⟨m,e2⟩:=h.it;obtain⟨M',e3⟩:=h'.md;obtain⟨m',e4⟩:=h'.it;exact⟨λb hb=>h'.reg b (h.reg b hb),λb hb=>(h'.same b (h.reg b hb)).trans (h.same b hb),⟨M++M',by rw[e3,e1,Adn]⟩,⟨m++m',by rw[e4,e2,Adn]⟩⟩
theorem Grow.ext{s':S}{σ':Env}(hg:Grow A L s.it w A' L' s'.it w')(hr:Rel Z s σs A L σ w)(hr':Rel Z s' σs A' L' σ' w'):Ext Z s σs A L σ w w':=by
 obtain⟨M,e1⟩:=hg.md;obtain⟨m,e2⟩:=hg.it;refine⟨⟨A',M,m,hg.reg,?_⟩,hg.same⟩;rw[<-e1];have hl:cW L L':=by rw[e1];exact cW.append _ _
 exact Rel.as hr' (i:=1) rfl ⟨by rw[<-e2];exact hr'.mem.it,hr.mem.sl.step (λb hb=>⟨hg.reg b hb.1,hb.2⟩) (λb hb=>hg.same b hb.1) hl,
  hr.mem.stk.step (λb hb=>⟨hg.reg b hb.1,hb.2⟩) (λb hb=>hg.same b hb.1) hl⟩ rfl
theorem Ct.bO{F:List Fact}{LL LL':List Mob}(h:St A w F LL)(hp:LL.Perm LL'):St A w F LL':=⟨h.lt,h.facts,h.mobs.perm hp⟩
theorem Rel.push{md:MD}{a:Item}(h:St A' w' [Ni Z.R L s σs σ, .old Z.M Z.w0] (md.Ia::L.map MD.Ia))(ha:Xv (λb=>A' b/\Z.R b) w' (L++[md]) a md):
  Rel Z (s.add a) σs A' (L++[md]) σ w':=by
 have hm:MemR (λb=>A' b/\Z.R b) w' L s σs σ:=h.fact 0 rfl;have hl:=cW.append L [md];refine Rel.as (h:=Ct.bO h ?_) (i:=1) rfl ⟨⟨?_,?_⟩,hm.sl.step (λ_ h=>h) (λ_ _=>rfl) hl,hm.stk.step (λ_ h=>h) (λ_ _=>rfl) hl⟩ rfl
 ·rw[List.map_append];exact(List.perm_append_comm (l₁:=[md.Ia]) (l₂:=L.map MD.Ia))
 ·simp[S.add,hm.it.1]
 ·intro i a' m h1 h2;simp only[S.add]at h1;rcases Ay8 i s.it.length with hi|hi
  ·rw[List.getElem?_append_left hi]at h1;rw[List.getElem?_append_left (by rw[<-hm.it.1];exact hi)]at h2;exact(hm.it.2 i a' m h1 h2).step (λ_ h=>h) (λ_ _=>rfl) hl
  ·rw[List.getElem?_append_right hi]at h1;rw[List.getElem?_append_right (by rw[<-hm.it.1];exact hi)]at h2;rw[hm.it.1]at h1;cases hq:i-L.length with
   |zero=>rw[hq]at h1 h2;simp at h1 h2;subst h1 h2;exact ha
   |succ q=>rw[hq]at h1;simp at h1
theorem jW:∀{it:List Item} {i j:Nat} {a b:Item},(DB it i a)[j]? =some b-> (j=i/\b=a)\/ (j≠i/\it[j]? =some b)
 |[],_,_,_,_,h=>by simp[DB]at h
 |c::r,0,0,a,b,h=>by simp[DB]at h;exact .inl ⟨rfl,h.symm⟩
 |c::r,0,j+1,a,b,h=>by simp[DB]at h;exact .inr ⟨by omega,by simpa using h⟩
 |c::r,i+1,0,a,b,h=>by simp[DB]at h;exact .inr ⟨by omega,by simpa using h⟩
 |c::r,i+1,j+1,a,b,h=>by
  simp[DB]at h;rcases jW h with⟨h1,h2⟩|⟨h1,h2⟩
  ·exact .inl ⟨by omega,h2⟩
  ·exact .inr ⟨by omega,by simpa using h2⟩
theorem jZ:∀{it:List Item} {i:Nat} {a:Item},(DB it i a).length=it.length
 |[],_,_=>rfl
 |_::_,0,_=>rfl
 |_::r,i+1,a=>by simp[DB,jZ]
theorem Rel.change{i:Nat}{md md':MD}{a:Item}(h:St A' w' [Ni Z.R L s σs σ, .old Z.M Z.w0] ((L.map MD.Ia).set i md'.Ia))(hi:L[i]? =some md)
  (hle:cW L (L.set i md')) (ha:Xv (λb=>A' b/\Z.R b) w' (L.set i md') a md'):Rel Z (s.Ub i a) σs A' (L.set i md') σ w':=by
 have hm:MemR (λb=>A' b/\Z.R b) w' L s σs σ:=h.fact 0 rfl;refine Rel.as h (i:=1) rfl ⟨⟨?_,?_⟩,hm.sl.step (λ_ h=>h) (λ_ _=>rfl) hle,hm.stk.step (λ_ h=>h) (λ_ _=>rfl) hle⟩ (by rw[Azw])
 ·simp[S.Ub,jZ,hm.it.1]
 ·intro j b m h1 h2;simp only[S.Ub]at h1;rcases jW h1 with⟨rfl,rfl⟩|⟨h3,h4⟩
  ·rw[List.getElem?_set_self (List.getElem?_eq_some_iff.1 hi).1]at h2;cases h2;exact ha
  ·rw[List.getElem?_set_ne (Az4 h3)]at h2;exact(hm.it.2 j b m h4 h2).step (λ_ h=>h) (λ_ _=>rfl) hle
theorem cW.set{i:Nat}{md md':MD}(hi:L[i]? =some md)(h1:∀s E v c,md= .own s E v c->∃s' E' c',md'= .own s' E' v c')(h2:∀b,md.base=some b->md'.base=some b):cW L (L.set i md'):=by
 have hl:=(List.getElem?_eq_some_iff.1 hi).1;refine⟨λj s E v c h=>?_,λj m b h h'=>?_⟩
 ·by_cases hj:j=i
  ·subst hj;rw[hi]at h;cases h;obtain⟨s',E',c',rfl⟩:=h1 _ _ _ _ rfl;exact⟨s',E',c',by rw[List.getElem?_set_self hl]⟩
  ·exact⟨s,E,c,by rw[List.getElem?_set_ne (Az4 hj)];exact h⟩
 ·by_cases hj:j=i
  ·subst hj;rw[hi]at h;cases h;exact⟨md',by rw[List.getElem?_set_self hl],h2 b h'⟩
  ·exact⟨m,by rw[List.getElem?_set_ne (Az4 hj)];exact h,h'⟩
end Go.Rx
namespace Go.Rx
open Go Go.Lv
variable {P:Program} {B:Reg} {w w':World} {L L':List MD} {s:S} {σs:List Env} {σ:Env} {Z:Fix} {A A':Reg} {n:Nat}
theorem Bq.get{α:Type}{f:α->List Value->Prop}{z:Nat}(hz:∀x c,f x c->c.length=z):∀{l:List α} {i:Nat} {x:α} {cs:List Value},Bq f l cs->l[i]? =some x->
  ∃c1 c2 c3,cs=c1++(c2++c3)/\c1.length=i*z/\f x c2/\∀y c2',f y c2'->Bq f (l.set i y) (c1++(c2'++c3))
 |[],_,_,_,_,h=>by simp at h
 |a::l,0,x,cs,⟨c1,c2,e,h1,h2⟩,h=>by
  simp at h;subst h;exact⟨[],c1,c2,by simpa using e,by simp,h1,λy c2' hy=>⟨c2',c2,by simp,hy,h2⟩⟩
 |a::l,i+1,x,cs,⟨c1,c2,e,h1,h2⟩,h=>by
  obtain⟨d1,d2,d3,e',h3,h4,h5⟩:=Bq.get hz (i:=i) h2 (by simpa using h);refine⟨c1++d1,d2,d3,by rw[e,e'];simp,by rw[Aby,hz _ _ h1,h3,Aza];omega,h4,λy c2' hy=>?_⟩;exact⟨c1,d1++(c2'++d3),by simp,h1,h5 y c2' hy⟩
theorem Bq.append{α:Type}{f:α->List Value->Prop}:∀{l m:List α} {cs ds:List Value},Bq f l cs->Bq f m ds->Bq f (l++m) (cs++ds)
 |[],m,cs,ds,h,h'=>by rw[show cs=[]from h];exact h'
 |a::l,m,cs,ds,⟨c1,c2,e,h1,h2⟩,h'=>⟨c1,c2++ds,by rw[e];simp,h1,Bq.append h2 h'⟩
theorem Ap.one:∀{e:ET} {x:e.T} {cs:List Value},Ap B w e x cs->∀v∈cs,v.oneCell'=true
 | .int k,x,cs,h,v,hv=>by rw[show cs=_ from h]at hv;simp at hv;subst hv;rfl
 | .bool,x,cs,h,v,hv=>by rw[show cs=_ from h]at hv;simp at hv;subst hv;rfl
 | .str,x,cs,h,v,hv=>by rw[show cs=_ from h]at hv;simp at hv;subst hv;rfl
 | .list e,l,cs,⟨u,c0,e1,h,_⟩,v,hv=>by
  rw[e1]at hv;simp at hv;subst hv;obtain⟨p,len,cap,rfl,_⟩:=h;rfl
 | .vec n e,l,cs,⟨_,h⟩,v,hv=>by
  have key:∀(l:List e.T) (cs:List Value),Bq (Ap B w e) l cs->v∈cs->v.oneCell'=true:=by
   intro l
   induction l with
   |nil=>intro cs h hv;rw[show cs=[]from h]at hv;simp at hv
   |cons a l ih=>
    rintro cs ⟨c1,c2,e',h1,h2⟩ hv;subst e';rcases List.mem_append.1 hv with hv|hv
    ·exact Ap.one h1 v hv
    ·exact ih _ h2 hv
  exact key l cs h hv
 | .cons a r,x,cs,⟨c1,c2,e,h1,h2⟩,v,hv=>by
  subst e;rcases List.mem_append.1 hv with hv|hv
  ·exact Ap.one h1 v hv
  ·exact Ap.one h2 v hv
 | .nil,_,cs,h,v,hv=>by rw[show cs=[]from h]at hv;simp at hv
theorem Bq.one{e:ET}:∀{l:List e.T} {cs:List Value},Bq (Ap B w e) l cs->∀v∈cs,v.oneCell'=true
 |[],cs,h,v,hv=>by rw[show cs=[]from h]at hv;simp at hv
 |a::l,cs,⟨c1,c2,e',h1,h2⟩,v,hv=>by
  subst e';rcases List.mem_append.1 hv with hv|hv
  ·exact h1.one v hv
  ·exact Bq.one h2 v hv
theorem Bq.Y7{e:ET}{l:List e.T}{cs:List Value}(h:Bq (Ap B w e) l cs):cs.all (·.oneCell')=true:=List.all_eq_true.2 h.one
theorem vX{R:Type}{k:PV->Option R}{r:R}:∀{p:List Step} {v:PV} {cs:List Value},Abm v p k=some r->Ba B w L v cs->
  ∃u c1 c2 c3,k u=some r/\cs=c1++(c2++c3)/\c1.length=As p/\Ba B w L u c2
 |[],v,cs,h,hv=>⟨v,[],cs,[],by simpa [Abm]using h,by simp,rfl,hv⟩
 | .fld m off::p,v,cs,h,hv=>by
  cases v<;>simp only[Abm,reduceCtorEq]at h;rename_i l;split at h
  ·rename_i f hf;obtain⟨hb,h⟩:=Ay h;obtain⟨c1,c2,c3,e,h1,h2,_⟩:=Ba.field (show Ba.go B w L l cs from hv) hf;obtain⟨u,d1,d2,d3,hk,e',h3,h4⟩:=vX h h2;refine⟨u,c1++d1,d2,d3++c3,hk,by rw[e,e'];simp,?_,h4⟩;rw[Aby,h1,h3,Ce hb];rfl
  ·cases h
 | .idx j z::p,v,cs,h,hv=>by
  cases v<;>simp only[Abm,reduceCtorEq]at h;rename_i e x;split at h
  ·rename_i m a l;obtain⟨hb,h⟩:=Ay h;obtain⟨y,hy,h⟩:=bind_some h;obtain⟨hj,_,hl⟩:=Iz hy;obtain⟨c1,c2,c3,e,h1,h2,_⟩:=Bq.get (λx c h=>Ap.len h) (show Bq (Ap B w a) l cs from hv.2) hl;obtain⟨u,d1,d2,d3,hk,e',h3,h4⟩:=vX h (VL.2 h2);refine⟨u,c1++d1,d2,d3++c3,hk,by rw[e,e'];simp,?_,h4⟩;rw[Aby,h1,h3,Ce hb];rfl
  ·cases h
def mL(B:Reg)(w:World)(L:List MD):Item->List Value->Prop
 | .box _ v,cs=>Ba B w L v cs
 | .arr _ e l,cs=>Bq (Ap B w e) l cs
 | .dead,_=>False
theorem H2{R:Type}{k:PV->Option R}{r:R}{a:Item}{p:List Step}{cs:List Value}(h:getRoot a p k=some r)(hv:mL B w L a cs):
  ∃u c1 c2 c3,k u=some r/\cs=c1++(c2++c3)/\c1.length=As p/\Ba B w L u c2:=by
 unfold getRoot at h;split at h
 ·exact vX h hv
 ·rename_i E e l j z p;obtain⟨hb,h⟩:=Ay h;obtain⟨y,hy,h⟩:=bind_some h;obtain⟨hj,_,hl⟩:=Iz hy;obtain⟨c1,c2,c3,e',h1,h2,_⟩:=Bq.get (λx c h=>Ap.len h) (show Bq (Ap B w e) l cs from hv) hl;obtain⟨u,d1,d2,d3,hk,e'',h3,h4⟩:=vX h (VL.2 h2);refine⟨u,c1++d1,d2,d3++c3,hk,by rw[e',e''];simp,?_,h4⟩;rw[Aby,h1,h3,Ce hb];rfl
 ·cases h
theorem ZF{c1 c2 c3 ns:List Value}(h:ns.length=c2.length):Bb (c1++(c2++c3)) c1.length ns=c1++(ns++c3):=by
 unfold Bb;rw[List.take_left,h,<-Azb,Axy,Axy]
theorem VX{c1 c2 c3 ns:List Value}{o:Nat}(hc:c1.length=o)(off:Nat)(h:off+ns.length<=c2.length):Bb (c1++(c2++c3)) (o+off) ns=c1++(Bb c2 off ns++c3):=by
 subst hc;unfold Bb;rw[List.take_length_add_append,Av6 (by omega),Auz,<-Azb,Axy,List.drop_append_of_le_length (by omega)];simp
theorem oP{R:Type}{new:PV}{ns:List Value}(hn:Ba B w L new ns){r:R}:∀{p:List Step} {v:PV} {cs:List Value} {k:PV->Option R},X7 new v p k=some r->Ba B w L v cs->
  ∃v',k v'=some r/\As p+ns.length<=cs.length/\Ba B w L v' (Bb cs (As p) ns)
 |[],v,cs,k,h,hv=>by
  simp only[X7]at h;obtain⟨hb,h⟩:=Ay h;have h1:=hn.len;have h2:=hv.len;have h3:=Ce hb;refine⟨new,h,by simp[As];omega,?_⟩;have:Bb cs 0 ns=ns:=by
   unfold Bb;rw[Axm,Avj,Azt (by omega),Aun]
  rw[show As []=0 from rfl,this];exact hn
 | .fld m off::p,v,cs,k,h,hv=>by
  cases v<;>simp only[X7,reduceCtorEq]at h;rename_i l;split at h
  ·rename_i f hf;obtain⟨hb,h⟩:=Ay h;obtain⟨c1,c2,c3,e,h1,h2,h3⟩:=Ba.field (show Ba.go B w L l cs from hv) hf;obtain⟨f',hk,h4,h5⟩:=oP hn h h2;have ho:As (.fld m off::p)=c1.length+As p:=by rw[h1,Ce hb];rfl
   refine⟨_,hk,by rw[ho,e];simp;omega,?_⟩;rw[ho,e,VX rfl _ h4];exact h3 f' _ h5
  ·cases h
 | .idx j z::p,v,cs,k,h,hv=>by
  cases v<;>simp only[X7,reduceCtorEq]at h;rename_i e x;split at h
  ·rename_i m a l;obtain⟨hb,h⟩:=Ay h;have hz:=Ce hb;have key:∀(y y':a.T) (l':List a.T) (f:List Value->List Value),Aj l j=some y->Je l j y'=some l'-> (∀c2,Ap B w a y c2->As p+ns.length<=c2.length/\Ap B w a y' (Bb c2 (As p) ns))->
     As (.idx j z::p)+ns.length<=cs.length/\Ba B w L (.val (.vec m a) l') (Bb cs (As (.idx j z::p)) ns):=by
    intro y y' l' f hy hs hyp;obtain⟨hj,hlt,hl⟩:=Iz hy;obtain⟨_,_,rfl⟩:=XG hs;obtain⟨c1,c2,c3,e,h1,h2,h3⟩:=Bq.get (λx c h=>Ap.len h) (show Bq (Ap B w a) l cs from hv.2) hl;obtain⟨h4,h5⟩:=hyp c2 h2;have ho:As (.idx j z::p)=c1.length+As p:=by rw[h1,hz];rfl
    refine⟨by rw[ho,e];simp;omega,?_⟩;rw[ho,e,VX rfl _ h4];exact⟨by rw[Axa];exact hv.1,h3 y' _ h5⟩
   split at h
   ·split at h
    ·rename_i y' hy';obtain⟨l',hs,h⟩:=bind_some h;obtain⟨hj,hlt,_⟩:=XG hs;have hg:Aj l j=some l[j.toNat]:=by
      unfold Aj;rw[Abb (by omega)];simp[hlt]
     obtain⟨h1,h2⟩:=key _ y' l' id hg hs (λc2 hc2=>by
      have e1:=(RK hy' hn).len;have e2:=hc2.len;refine⟨by simp[As];omega,?_⟩;have:Bb c2 0 ns=ns:=by
       unfold Bb;rw[Axm,Avj,Azt (by omega),Aun]
      rw[show As []=0 from rfl,this];exact RK hy' hn)
     exact⟨_,h,h1,h2⟩
    ·cases h
   ·obtain⟨y,hy,h⟩:=bind_some h;obtain⟨hj,hlt,hl⟩:=Iz hy;obtain⟨c1,c2,c3,e,h1,h2,h3⟩:=Bq.get (λx c h=>Ap.len h) (show Bq (Ap B w a) l cs from hv.2) hl;obtain⟨q,hk,h4,h5⟩:=oP hn h (VL.2 h2);split at hk
    ·rename_i y' hy';obtain⟨l',hs,hk⟩:=bind_some hk;obtain⟨_,_,rfl⟩:=XG hs;have ho:As (.idx j z::p)=c1.length+As p:=by rw[h1,hz];rfl
     refine⟨_,hk,by rw[ho,e];simp;omega,?_⟩;rw[ho,e,VX rfl _ h4];exact⟨by rw[Axa];exact hv.1,h3 y' _ (RK hy' h5)⟩
    ·cases hk
  ·cases h
def sameKind:Item->Item->Prop| .box T _, .box T' _=>T'=T| .arr E e _, .arr E' e' _=>E'=E/\e'=e|_,_=>False
theorem Adc{R:Type}{new:PV}{ns:List Value}(hn:Ba B w L new ns){r:R}{a:Item}{p:List Step}{cs:List Value}{k:Item->Option R}(h:wF new a p k=some r)(hv:mL B w L a cs):
  ∃a',k a'=some r/\As p+ns.length<=cs.length/\mL B w L a' (Bb cs (As p) ns)/\sameKind a a':=by
 unfold wF at h;split at h
 ·obtain⟨v',hk,h1,h2⟩:=oP hn h hv;exact⟨_,hk,h1,h2,rfl⟩
 ·rename_i E a l j z p;obtain⟨hb,h⟩:=Ay h;have hz:=Ce hb;split at h
  ·split at h
   ·rename_i y' hy';obtain⟨l',hs,h⟩:=bind_some h;obtain⟨hj,hlt,rfl⟩:=XG hs;have hl:l[j.toNat]? =some l[j.toNat]:=by simp[hlt]
    obtain⟨c1,c2,c3,e,h1,h2,h3⟩:=Bq.get (λx c h=>Ap.len h) (show Bq (Ap B w a) l cs from hv) hl;have e1:=(RK hy' hn).len;have e2:=h2.len;have ho:As [.idx j z]=c1.length:=by rw[h1,hz];rfl
    refine⟨_,h,by rw[ho,e];simp;omega,?_,rfl,rfl⟩;rw[ho,e,ZF (by omega)];exact h3 y' _ (RK hy' hn)
   ·cases h
  ·obtain⟨y,hy,h⟩:=bind_some h;obtain⟨hj,hlt,hl⟩:=Iz hy;obtain⟨c1,c2,c3,e,h1,h2,h3⟩:=Bq.get (λx c h=>Ap.len h) (show Bq (Ap B w a) l cs from hv) hl;obtain⟨q,hk,h4,h5⟩:=oP hn h (VL.2 h2);split at hk
   ·rename_i y' hy';obtain⟨l',hs,hk⟩:=bind_some hk;obtain⟨_,_,rfl⟩:=XG hs;have ho:As (.idx j z::p)=c1.length+As p:=by rw[h1,hz];rfl
    refine⟨_,hk,by rw[ho,e];simp;omega,?_,rfl,rfl⟩;rw[ho,e,VX rfl _ h4];exact h3 y' _ (RK hy' h5)
   ·cases hk
 ·cases h
end Go.Rx
