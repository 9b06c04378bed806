/- A part of a proof (see the text that ends in Proof). No conditions. -/
import Derived.Tactics
import Derived.OrdersHeld
import Derived.Below
import Derived.LoopNIn
import Derived.OrdersIn
import Derived.TacticsIn
import Derived.RangeFuncCalls
import GoSem.Core.View
import Derived.Laws.Entries
import Derived.Laws.Strings
import Derived.Laws.Append
import Derived.Laws.IdiomStrings
import Derived.StillTail
import Derived.WalkKit
import Derived.OpenShut
import Derived.Laws.StructEq
import Derived.ChangeKeysEq
set_option linter.unusedVariables false
set_option linter.unusedSimpArgs false
namespace Go
theorem F0{p:Prop}(h:p:=by omega):p:=h
theorem F8{p:Prop}(h:p:=by simp):p:=h
end Go
set_option linter.defProp false
namespace Go
def A4:=@if_neg
def A7:=@if_pos
def B4:=@List.getD_eq_getElem?_getD
def A?:=@List.length_append
def A8:=@Option.bind_some
def A9:=@Bool.and_eq_true
def B2:=@decide_eq_true_eq
def C?:=@List.getElem?_eq_getElem
def B3:=@Nat.mod_eq_of_lt
def A_:=@Go.run_underlying
def B6:=@List.length_cons
def C2:=@Nat.mul_le_mul_right
def B8:=@Go.Result.andThen_ok
def C':=@Int.toNat_natCast
def I9:=@List.getElem?_append_left
def C0:=@List.append_assoc
def H9:=@List.mem_cons_of_mem
def E5:=@Nat.lt_of_lt_of_le
def J0:=@List.take_of_length_le
def HH:=@List.length_take
def HN:=@Option.some.injEq
def IV:=@Nat.pow_le_pow_right
def B5:=@Nat.add_mul
def F_:=@List.append_nil
def SF:=@List.getElem?_append_right
def C1:=@Go.Sem.run_bind
def R9:=@Int.eq_ofNat_of_zero_le
def KM:=@List.mem_cons_self
def SY:=@Nat.eq_of_mul_eq_mul_right
def S2:=@Nat.eq_of_beq_eq_true
def Sm:=@Array.getD_eq_getD_getElem?
def C4:=@Nat.le_refl
def S6:=@List.length_replicate
def P6:=@UInt64.toNat_ofNat'
def I!:=@Nat.mul_comm
def SH:=@List.length_drop
def QJ:=@UInt32.toNat_ofNat'
def O1:=@Bool.not_eq_true'
def T9:=@Int.fdiv_eq_ediv_of_nonneg
def N5:=@List.getElem_mem
def I7:=@Go.Sem.run_pure
def S8:=@UInt8.toNat_ofNat'
def IZ:=@List.map_cons
def NI:=@List.take_length
def U1:=@Int.natCast_mul
def N4:=@Bool.eq_iff_iff
def SI:=@List.getElem?_take
def O7:=@List.nil_append
def SZ:=@List.getElem?_set_ne
def SN:=@Bool.false_eq_true
def K7:=@Nat.add_assoc
def R!:=@Bool.or_eq_true
def VI:=@List.take_append_of_le_length
def VS:=@Array.getElem?_setIfInBounds_ne
def K1:=@Nat.zero_add
def U2:=@List.getElem?_set_self
def P8:=@Nat.mul_le_mul
def Q6:=@decide_eq_true
def N9:=@Nat.mul_assoc
def VT:=@List.eq_nil_of_length_eq_zero
def U3:=@Nat.le_of_ble_eq_true
def Ul:=@List.length_singleton
def V5:=@List.length_nil
def U?:=@List.drop_of_length_le
def L8:=@Nat.pow_succ
def R3:=@Nat.one_mul
def SU:=@List.cons_append
def VJ:=@Classical.byContradiction
def VU:=@Nat.two_pow_add_eq_or_of_lt
def UH:=@List.mem_of_getElem?
def SW:=@Nat.div_le_self
def T?:=@List.size_toArray
def TC:=@Nat.mul_mod_left
def Zu:=@Array.getElem?_setIfInBounds_self_of_lt
def SO:=@Prod.mk.injEq
def T!:=@Nat.min_eq_left
def VY:=@Go.World.putObj_heap_other
def V9:=@List.replicate_succ
def SJ:=@Nat.add_zero
def U4:=@List.ext_getElem
def UT:=@of_decide_eq_true
def Tx:=@List.map_append
def U0:=@Nat.not_lt_zero
def VA:=@List.getElem?_drop
def VC:=@BitVec.toNat_ofInt
def VZ:=@List.getElem?_toArray
def Vx:=@List.getElem?_eq_none
def UU:=@Nat.div_eq_of_lt
def YL:=@List.drop_append_of_le_length
def U5:=@List.length_map
def Ty:=@List.take_zero
def V?:=@List.getElem?_map
def Tz:=@List.drop_left
def T0:=@List.sum_cons
def WT:=@Array.getElem?_modify
def WW:=@List.take_append_drop
def VL:=@List.flatten_cons
def XU:=@decide_eq_false_iff_not
def Zy:=@Nat.and_two_pow_sub_one_eq_mod
def Vz:=@Nat.xor_lt_two_pow
def VM:=@beq_iff_eq
def UW:=@List.drop_drop
def KU:=@Eq.trans
def WY:=@Nat.div_mul_le_self
def Wt:=@Nat.div_eq_of_lt_le
def R5:=@Go.wpIn_mono
def W8:=@Int32.ofInt_toInt
def UY:=@Bool.true_and
def VN:=@Option.map_some
def YM:=@Nat.add_sub_cancel_left
def Vy:=@Nat.min_eq_right
def Zx:=@Int.tdiv_eq_ediv_of_nonneg
def YO:=@Option.map_eq_some_iff
def Sf:=@Nat.mod_lt
def XV:=@Nat.mul_le_mul_left
def VD:=@Nat.xor_assoc
def W9:=@List.cons.injEq
def YN:=@BitVec.eq_of_toNat_eq
def R8:=@if_false
def XW:=@Int.natCast_nonneg
def U7:=@Nat.pow_pos
def Wv:=@List.getElem_map
def YW:=@Bool.or_eq_false_iff
def YX:=@List.mem_of_mem_drop
def VQ:=@List.mem_cons
def VE:=@Nat.lt_or_ge
def VF:=@Nat.add_comm
def VG:=@Nat.succ_mul
def VH:=@List.map_nil
def W?:=@List.drop_zero
def XX:=@Int32.toInt_ofInt
def YZ:=@Array.length_toList
def Z!:=@Nat.testBit_two_pow
def Z0:=@List.map_congr_left
def X!:=@Nat.div_add_mod
def Z1:=@List.flatten_append
def XY:=@List.all_eq_true
def VR:=@List.map_set
def eR:=@List.drop_eq_getElem_cons
def aD:=@List.getElem?_append
def aF:=@List.mem_of_mem_take
def Z2:=@List.ext_getElem?
def XZ:=@Option.map_none
def eS:=@Array.getElem?_replicate
def S?:=@Ne.symm
def VP:=@Nat.sub_mul
def m?:=@Int.mul_le_mul_of_nonneg_left
def YS:=@UInt64.toNat_inj
def YU:=@List.drop_length
def eP:=@Array.getElem?_eq_none
def eQ:=@Nat.div_div_eq_div_mul
def Zz:=@Array.ext_getElem?
def a!:=@Nat.eq_zero_or_pos
def aB:=@List.getElem_range
def Z6:=@Option.some.inj
def X4:=@Nat.le_total
def eX:=@List.perm_append_comm
def Z7:=@List.length_set
def WA:=@Nat.mul_pos
def Z9:=@List.range_succ
def Xd:=@Bool.not_true
def eY:=@Nat.eq_of_testBit_eq
def Z?:=@Bool.false_and
def ZA:=@List.mem_range
def ZB:=@Nat.testBit_or
def ZC:=@Int.toNat_zero
def aM:=@UInt32.toNat_xor
def X5:=@Nat.pow_add
def Xm:=@Nat.le_trans
def Xn:=@Nat.zero_mul
def b?:=@decide_eq_false
def bB:=@BitVec.toNat_or
def m_:=@Nat.exists_eq_add_of_le
def eZ:=@Nat.mul_right_comm
def bK:=@Int.natCast_inj
def bL:=@Nat.testBit_and
def eu:=@Bool.not_eq_false'
def f?:=@List.mem_singleton
def fA:=@Nat.lt_of_le_of_lt
def mg:=@Nat.le_mul_of_pos_right
def eT:=@Nat.mul_div_cancel
def zN:=@List.take_succ_eq_append_getElem
def mX:=@Go.World.putObj_heap_same
def mY:=@UInt32.toNat_sub_of_le
def mZ:=@UInt32.le_iff_toNat_le
def eU:=@Nat.one_shiftLeft
def X0:=@cond_false
def eV:=@Int.bmod_eq_of_le
def eW:=@List.flatMap_cons
def aK:=@List.drop_take
def c!:=@List.take_left
def nB:=@Array.getElem?_toList
def ZD:=@Nat.le_of_eq
def ZE:=@List.map_map
def U9:=@if_true
def fF:=@Go.run_equalIn_bool
def fH:=@BitVec.toNat_and
def fI:=@BitVec.toNat_xor
def fJ:=@UInt32.toNat_and
def fK:=@UInt64.toNat_and
def fL:=@List.getElem_set
def fR:=@BitVec.toNat_not
def nF:=@Go.Region.noSelect_spec
def nG:=@List.range_eq_range'
def nH:=@Go.World.alloc_heap_new
def nL:=@Int32.toBitVec_ofInt
def nM:=@Nat.div_le_div_right
def Xq:=@Nat.mod_le
def nN:=@List.take_succ_cons
def ZF:=@Int.pow_pos
def fS:=@UInt8.toNat_and
def zR:=@List.take_length_add_append
def mh:=@List.getElem_of_mem
def fC:=@List.mem_append
def n!:=@Go.Value.pointer.injEq
def zO:=@Nat.mul_lt_mul_of_pos_right
def zP:=@Nat.testBit_two_pow_mul_add
def n?:=@List.flatMap_append
def zQ:=@Nat.shiftRight_xor_distrib
def bO:=@Int.bmod_def
def bU:=@Nat.sub_zero
def nA:=@Nat.and_one_is_mod
def cC:=@Nat.xor_comm
def cD:=@List.sum_nil
def nV:=@Nat.add_sub_cancel
def zS:=@Array.getElem?_eq_getElem
def zT:=@Nat.shiftRight_eq_div_pow
def zU:=@Nat.shiftLeft_xor_distrib
def zX:=@List.getElem_append_right
def ZH:=@Array.ext'
def nW:=@Nat.add_mod_right
def nY:=@Int.emod_eq_of_lt
def XA:=@and_true
def zY:=@List.getElem?_set_self'
def cG:=@Nat.mul_one
def cH:=@Nat.mod_mod
def zZ:=@Nat.mul_div_cancel_left
def zm:=@Nat.testBit_two_pow_mul
def n_:=@Nat.lt_succ_self
def ng:=@List.zipIdx_cons
def ni:=@UInt64.toNat_xor
def nu:=@List.range'_succ
def o!:=@List.drop_append
def o?:=@UInt32.toNat_add
def oC:=@Int.natCast_ediv
def oD:=@List.not_mem_nil
def gG:=@Go.wpList_plain
def gH:=@Int.le_of_lt
def nO:=@UInt8.toNat_xor
def fU:=@List.set_set
def fZ:=@Int.sub_self
def g!:=@List.mem_map
def nP:=@List.sum_append
def gD:=@Nat.zero_div
def nQ:=@Go.growslice_fits
def nR:=@Bool.not_false
def nT:=@Go.DataW.trod_int
def nU:=@List.take_take
def XB:=@Iff.rfl
def gJ:=@Nat.mul_add
def gK:=@Nat.pow_mul
def oH:=@Go.Addr.mk.injEq
def oI:=@Int.add_assoc
end Go
namespace Go.Lv
variable{a:Act}{b want:Bool}{c x y:Code}{f:FuncId}
abbrev Env:=Nat->Value
def Mr(σ:Env)(d:Nat)(v:Value):Env:=λt=>match Nat.beq t d with|true=>v|false=>σ t
def ev(σ:Env):Operand->Value
 | .tmp t=>σ t
 | .const v=>v
 | .global g=> .pointer (some ⟨g,0,none⟩)
 | .func f=> .func (.func f) #[] #[]
structure Fits (ds:List Deferred) (n:Nat) (a:Act) (σ:Env):Prop where
 size:a.tmps.size=n
 defers:a.defers=ds
 get:∀t,a.tmps.getD t undef=σ t
theorem Fits.eval{ds:List Deferred}{n:Nat}{a:Act}{σ:Env}(h:Fits ds n a σ):a.eval=ev σ:=by
 funext x;cases x<;>simp only[Act.eval,ev,h.get]
theorem Ww(σ:Env)(d:Nat)(v:Value):Mr σ d v d=v:=by simp[Mr]
theorem aT(σ:Env){d t:Nat}(v:Value)(h:t≠d):Mr σ d v t=σ t:=by
 unfold Mr;have:Nat.beq t d=false:=by
  cases hb:Nat.beq t d with
  |false=>rfl
  |true=>exact absurd (S2 hb) h
 rw[this]
theorem Fits.put{ds:List Deferred}{n:Nat}{a:Act}{σ:Env}(h:Fits ds n a σ){d:Nat}(hd:Nat.blt d n=true)(v:Value):Fits ds n (a.put (some d) v) (Mr σ d v):=by
 have hd':d<n:=by simpa [Nat.blt_eq]using hd
 refine⟨by simp[Act.put,h.size],h.defers,λt=>?_⟩;by_cases ht:t=d
 ·subst ht;rw[Ww];simp[Act.put,Array.getD,h.size,hd']
 ·rw[aT _ _ ht,<-h.get t];simp[Act.put,Sm,VS (S? ht)]
theorem Fits.T8{ds:List Deferred}{n:Nat}{σ:Env}(h:Fits ds n a σ)(v:Value):Fits ds n (a.put none v) σ:=h
variable {P:Program} {n:Nat}
def wr(ro:Option Nat):Fence:={Fence.wide with round:=ro}
theorem Au3{ro:Option Nat}{m:Nat}{args:Array Value}{w:World}{R:Ending->World->Prop}(h:Calls P f args w R):CallsIn (wr ro) m P f args w R:=callsIn_wide.2 h
theorem Ap7{ro:Option Nat}{m:Nat}{o:Oper}{next:Act->World->Prop}{Q:Exit->Act->World->Prop}{r:Result Next}(h:o.upon P a next Q r):o.uponIn (wr ro) m P a next Q r:=by
 cases r with
 |ok x w'=>
  cases x<;>first
   |exact h
   |exact⟨(λh=>by simp[wr,Fence.wide]at h),Au3 h⟩
   |exact⟨(λh=>by simp[wr,Fence.wide]at h),λc cs _=>let⟨v,w',r,s⟩:=h c cs;⟨v,w',r,stepsIn_wide.2 s⟩⟩
   |exact h.elim
 |halt x w'=>cases x<;>first|exact h|exact h.elim
def jG:List Oper->Bool
 |[]=>true
 |o::r=>(match o.op with| .defer _=>false|_=>true)&&jG r
theorem qM{l:List Oper}(h:jG l=true):∀o∈l,∀c,o.op≠ .defer c:=by
 induction l with
 |nil=>intro o ho;cases ho
 |cons o l ih=>
  simp only[jG,A9]at h;intro o' ho' c hc;rcases List.mem_cons.1 ho' with rfl|ho'
  ·rw[hc]at h;cases h.1
  ·exact ih h.2 o' ho' c hc
theorem xT{ro:Option Nat}{m:Nat}{o:Oper}{w:World}{next:Act->World->Prop}{Q:Exit->Act->World->Prop}(hd:∀c,o.op≠ .defer c)(h:o.wp P a w next Q):o.wpIn (wr ro) m P a w next Q:=
 ⟨λ_ _=>trivial,by rw[Oper.semAt_eq _ _ _ hd];exact Ap7 h⟩
def Nrm(Z:Act->World->Prop):Exit->Act->World->Prop:=λe a w=>e= .normal/\Z a w
theorem o_{Z:Act->World->Prop}(h:LetsOut (Nrm Z)):False:=by
 obtain⟨_,_,h,_⟩:=h;cases h
theorem mG{ro:Option Nat}{m:Nat}{ops:Array Oper}{Z:Act->World->Prop}:∀{l:List Oper} {a:Act} {w:World},(∀o∈l,∀c,o.op≠ .defer c)->wpList P ops (Nrm Z) l a w->wpListIn (wr ro) m P ops (Nrm Z) l a w
 |[],_,_,_,h=>h
 |o::l,a,w,hd,h=>by
  have hn:∀a w,wpList P ops (Nrm Z) l a w->wpListIn (wr ro) m P ops (Nrm Z) l a w:=λa w=>mG (λo ho=>hd o (H9 _ ho));simp only[wpList]at h;simp only[wpListIn];split
  ·rename_i hw;rw[A7 hw]at h;rcases h with h|⟨_,h⟩
   ·exact Oper.wpIn_mono hn (xT (hd o KM) h)
   ·exact(o_ h).elim
  ·rename_i hw;rw[A4 hw]at h;exact⟨λ_ _=>trivial,hn _ _ h⟩
theorem Apv{ro:Option Nat}{m:Nat}{ops:Array Oper}{Z:Act->World->Prop}{i:Nat}{K:Act->World->Prop}{w:World}(hd:∀o∈ops.toList,∀c,o.op≠ .defer c)(h:wpOp P ops (Nrm Z) i K a w):wpOpIn (wr ro) m P ops (Nrm Z) i K a w:=by
 unfold wpOp at h;unfold wpOpIn;split
 ·rename_i ho;rw[ho]at h;exact h
 ·rename_i o ho;rw[ho]at h;simp only at h;split
  ·rename_i hw;rw[A7 hw]at h;rcases h with h|⟨_,h⟩
   ·exact xT (hd o (by rw[<-nB]at ho;exact UH ho)) h
   ·exact(o_ h).elim
  ·rename_i hw;rw[A4 hw]at h;exact⟨λ_ _=>trivial,h⟩
theorem Afn{ro:Option Nat}{m:Nat}{md:Region.Mode}{ops:Array Oper}{Z:Act->World->Prop}(hd:∀o∈ops.toList,∀c,o.op≠ .defer c):∀{fuel:Nat} {listed:Array Bool} {a:Act} {w:World},wpAny P md ops (Nrm Z) fuel listed a w->wpAnyIn (wr ro) m P md ops (Nrm Z) fuel listed a w
 |0,_,_,_,h=>h
 |_+1,_,_,_,h=>⟨h.1,λi hi=>wpOpIn_mono (λ_ _ h=>Afn hd h) (Apv hd (h.2 i hi))⟩
def W(P:Program)(n:Nat)(c:Code)(Q:Exit->Env->World->Prop)(σ:Env)(w:World):Prop:=
 ∀(ro:Option Nat) (m:Nat) (ds:List Deferred) (a:Act),Fits ds n a σ->c.wpIn (wr ro) m P (λe a' w'=>∃σ',Fits ds n a' σ'/\Q e σ' w') a w
theorem W.wp{Q:Exit->Env->World->Prop}{σ:Env}{w:World}(h:W P n c Q σ w)(ha:Fits [] n a σ):c.wp P (λe a' w'=>∃σ',Fits [] n a' σ'/\Q e σ' w') a w:=wpIn_wide.1 (h none 0 [] a ha)
def yW(K:Env->World->Prop)(Q:Exit->Env->World->Prop):Exit->Env->World->Prop
 | .normal,σ,w=>K σ w
 |e,σ,w=>Q e σ w
def xk(id:Nat)(Q:Exit->Env->World->Prop):Exit->Env->World->Prop
 | .exit id',σ,w=>if id'=id then Q .normal σ w else Q (.exit id') σ w
 |e,σ,w=>Q e σ w
variable {Q:Exit->Env->World->Prop} {σ:Env} {w:World}
theorem W.mono{Q':Exit->Env->World->Prop}(h:W P n c Q σ w)(hq:∀e σ w,Q e σ w->Q' e σ w):W P n c Q' σ w:=
 λro m ds a ha=>R5 (h ro m ds a ha) λ_ _ _ ⟨σ',hf,hh⟩=>⟨σ',hf,hq _ _ _ hh⟩
theorem W.seq(h:W P n x (yW (W P n y Q) Q) σ w):W P n (.seq x y) Q σ w:=by
 intro ro m ds a ha;refine wpIn_seq (R5 (h ro m ds a ha) ?_);rintro e a' w' ⟨σ',hf,hh⟩;cases e<;>first|exact hh ro m ds a' hf|exact⟨σ',hf,hh⟩
theorem W.skip(h:Q .normal σ w):W P n .skip Q σ w:=λ_ _ _ _ ha=>wpIn_skip ⟨σ,ha,h⟩
theorem W.ret(h:Q .ret σ w):W P n .ret Q σ w:=λ_ _ _ _ ha=>wpIn_ret ⟨σ,ha,h⟩
theorem W.exit{id:Nat}(h:Q (.exit id) σ w):W P n (.exit id) Q σ w:=λ_ _ _ _ ha=>wpIn_exit ⟨σ,ha,h⟩
theorem W.block{id:Nat}(h:W P n c (xk id Q) σ w):W P n (.block id c) Q σ w:=by
 intro ro m ds a ha;refine wpIn_block (R5 (h ro m ds a ha) ?_);rintro e a' w' ⟨σ',hf,hh⟩;cases e with
 |exit id'=>
  simp only[xk]at hh;simp only[Exit.inBlock];split
  ·rename_i he;simp only[he,U9]at hh;exact⟨σ',hf,hh⟩
  ·rename_i he;simp only[he,R8]at hh;exact⟨σ',hf,hh⟩
 |_=>exact⟨σ',hf,hh⟩
theorem W.cond{c:Operand}{t:Bool}(hc:ev σ c= .bool t)(ht:t=true->W P n x Q σ w)(hf:t=false->W P n y Q σ w):
  W P n (.cond c x y) Q σ w:=by
 intro ro m ds a ha;exact wpIn_cond_split (by rw[ha.eval];exact hc) (λh=>ht h ro m ds a ha) (λh=>hf h ro m ds a ha)
theorem W.loop(I:Nat->Env->World->Prop)(m:Nat)(h0:I m σ w)
  (round:∀k σ w,I k σ w->W P n c (yW (λσ' w'=>∃j,j<k/\I j σ' w') Q) σ w):W P n (.loop c) Q σ w:=by
 intro ro d ds a ha;have key:∀(q k:Nat) (σ:Env) (w:World) (a:Act),k<q->I k σ w->Fits ds n a σ->Code.roundsIn (wr ro) d P c (λe a' w'=>∃σ',Fits ds n a' σ'/\Q e σ' w') q a w:=by
  intro q
  induction q with
  |zero=>intro k σ w a hk;omega
  |succ q ih=>
   intro k σ w a hk hI ha;rw[roundsIn_succ];refine R5 (round k σ w hI ro d ds a ha) ?_;rintro e a' w' ⟨σ',hf,hh⟩;cases e with
   |normal=>
    obtain⟨j,hj,hI'⟩:=hh;exact ih j σ' w' a' F0 hI' hf
   |_=>exact⟨σ',hf,hh⟩
 exact wpIn_loop_rounds (m+1) (key (m+1) m σ w a (n_ _) h0 ha)
theorem Oper.j!{o:Oper}{w:World}{next next':Act->World->Prop}{Z:Act->World->Prop}{R:Exit->Act->World->Prop}
  (h:o.wp P a w next (λe a w=>e=Exit.normal/\Z a w)) (hn:∀a w,next a w->next' a w):o.wp P a w next' R:=by
 unfold Oper.wp at*
 generalize(execOp a.eval o).run P w=r at*
 cases r with
 |ok x w'=>
  cases x<;>simp only[Oper.upon]at h⊢<;>first
   |exact hn _ _ h
   |exact Rows.mono h λ_ _ hh=>hn _ _ hh
   |skip
  refine Calls.mono h ?_;intro e w'' hh;cases e with
  |returned v=>exact hn _ _ hh
  |panicked c=>exact absurd hh.1 F8
  |outgrown=>obtain⟨_,_,hh,_⟩:=hh;exact absurd hh F8
 |halt x w'=>
  cases x<;>simp only[Oper.upon]at h⊢;exact absurd h.1 F8
theorem Adx{ops:Array Oper}{Z:Act->World->Prop}{R:Exit->Act->World->Prop}{l:List Oper}(h2:∀a w,Z a w->wpList P ops R l a w):
  ∀(l1:List Oper) (a:Act) (w:World),wpList P ops (λe a w=>e=Exit.normal/\Z a w) l1 a w->wpList P ops R (l1++l) a w:=by
 intro l1
 induction l1 with
 |nil=>intro a w h;exact h2 _ _ h.2
 |cons o l1 ih=>
  intro a w h;simp only[wpList,SU]at h⊢;split
  ·rename_i hw;rw[A7 hw]at h;rcases h with h|⟨_,_,_,hh,_⟩
   ·exact .inl (Oper.j! h ih)
   ·exact absurd hh F8
  ·rename_i hw;rw[A4 hw]at h;exact ih _ _ h
def WL(P:Program)(n:Nat)(ops:Array Oper)(l:List Oper)(K:Env->World->Prop)(σ:Env)(w:World):Prop:=
 ∀(ds:List Deferred) (a:Act),Fits ds n a σ->wpList P ops (λe a' w'=>e=Exit.normal/\∃σ',Fits ds n a' σ'/\K σ' w') l a w
theorem W.region{id:Nat}{l:List Oper}(hd:jG l=true)(h:WL P n l.toArray l (λσ' w'=>Q .normal σ' w') σ w):W P n (.region id l.toArray false) Q σ w:=by
 intro ro m ds a ha;refine R5 (wpIn_region_lit (mG (Z:=λa' w'=>∃σ',Fits ds n a' σ'/\Q .normal σ' w') (qM hd) (h ds a ha))) ?_;rintro e a' w' ⟨rfl,h⟩;exact h
variable {ops:Array Oper} {rest:List Oper} {K:Env->World->Prop}
theorem WL.nil(h:K σ w):WL P n ops [] K σ w:=λ_ _ ha=>⟨rfl,σ,ha,h⟩
theorem WL.cut(J:Env->World->Prop)(l1:List Oper)(h1:WL P n ops l1 J σ w)(h2:∀σ w,J σ w->WL P n ops rest K σ w):WL P n ops (l1++rest) K σ w:=
 λds a ha=>Adx (λa' w' ⟨σ',hf,hj⟩=>h2 σ' w' hj ds a' hf) l1 a w (h1 ds a ha)
theorem WL.val{o:Oper}{d:Nat}{v:Value}{w':World}(hg:o.guard=none)(hd:o.dst=some d)(hdn:Nat.blt d n=true)
  (hx:(execOp (ev σ) o).run P w= .ok (.value v) w') (h:WL P n ops rest K (Mr σ d v) w'):WL P n ops (o::rest) K σ w:=by
 intro ds a ha;refine gG hg λK' hK'=>?_;unfold Oper.wp;rw[ha.eval,hx];exact hK' _ _ (by rw[hd];exact h _ _ (ha.put hdn v))
theorem WL.unit{o:Oper}{w':World}(hg:o.guard=none)(hd:o.dst=none)
  (hx:(execOp (ev σ) o).run P w= .ok .skip w') (h:WL P n ops rest K σ w'):WL P n ops (o::rest) K σ w:=by
 intro ds a ha;refine gG hg λK' hK'=>?_;unfold Oper.wp;rw[ha.eval,hx];exact hK' _ _ (by rw[hd];exact h _ _ ha)
theorem WL.enter{o:Oper}{d:Nat}{args:Array Value}{w1:World}{R1:Ending->World->Prop}(hg:o.guard=none)(hd:o.dst=some d)(hdn:Nat.blt d n=true)
  (hx:(execOp (ev σ) o).run P w= .ok (.enter f args) w1) (hc:Calls P f args w1 R1)
  (hr:∀e w',R1 e w'->∃r,e= .returned r/\WL P n ops rest K (Mr σ d r) w'):WL P n ops (o::rest) K σ w:=by
 intro ds a ha;refine gG hg λK' hK'=>?_;unfold Oper.wp;rw[ha.eval,hx];simp only[Oper.upon];refine hc.mono ?_;intro e w' h;obtain⟨r,rfl,hh⟩:=hr e w' h;exact hK' _ _ (by rw[hd];exact hh _ _ (ha.put hdn r))
theorem PX{ds:List Deferred}(ha:Fits ds n a σ){j t:Nat}(hj:(ops[j]?).bind (·.dst)=some t)(hb:σ t= .bool b):yielded ops a.tmps j=some b:=by
 unfold yielded;rw[hj];have h1:=ha.get t;rw[hb]at h1;have h2:a.tmps[t]? =some (.bool b):=by
  cases h:a.tmps[t]? with
  |none=>rw[Sm,h]at h1;simp[undef]at h1
  |some v=>rw[Sm,h]at h1;simpa using h1
 simp[h2]
theorem WL.off{o:Oper}{d j t:Nat}(hg:o.guard=some (j,want))(hj:(ops[j]?).bind (·.dst)=some t)(hb:σ t= .bool b)(hne:(b==want)=false)
  (hd:o.dst=some d) (hdn:Nat.blt d n=true) (h:WL P n ops rest K (Mr σ d undef) w):WL P n ops (o::rest) K σ w:=by
 intro ds a ha;refine wpList_step λK' hK'=>?_;have hw:Region.wanted o (yielded ops a.tmps)=false:=by
  simp only[Region.wanted,hg,PX ha hj hb];cases b<;>cases want<;>simp_all
 rw[A4 (by rw[hw];simp)];exact hK' _ _ (by rw[hd];exact h _ _ (ha.put hdn _))
theorem WL.on{o:Oper}{j t:Nat}(hg:o.guard=some (j,want))(hj:(ops[j]?).bind (·.dst)=some t)(hb:σ t= .bool b)(hne:(b==want)=true)
  (h:WL P n ops (({o with guard:=none}:Oper)::rest) K σ w):WL P n ops (o::rest) K σ w:=by
 intro ds a ha;have h1:=h ds a ha;have hw:Region.wanted o (yielded ops a.tmps)=true:=by
  simp only[Region.wanted,hg,PX ha hj hb];cases b<;>cases want<;>simp_all
 have hw':Region.wanted ({o with guard:=none}:Oper) (yielded ops a.tmps)=true:=rfl;unfold wpList at h1⊢;rw[A7 hw']at h1;rw[A7 hw];exact h1
end Go.Lv
namespace Go.Lv
variable{s i:Nat}{w w':World}
abbrev Reg:=Nat->Prop
def Same(A:Reg)(w w':World):Prop:=∀b,A b->w'.heap[b]? =w.heap[b]?
structure Gr (w w':World):Prop where
 le:w.heap.size<=w'.heap.size
 os:w'.os=w.os
 tape:w'.tape=w.tape
 output:w'.output=w.output
theorem Gr.refl(w:World):Gr w w:=⟨C4 _,rfl,rfl,rfl⟩
theorem Gr.trans{a b c:World}(h:Gr a b)(h':Gr b c):Gr a c:=⟨Xm h.le h'.le,h'.os.trans h.os,h'.tape.trans h.tape,h'.output.trans h.output⟩
structure Keep (w w':World):Prop where
 same:∀b,b<w.heap.size->w'.heap[b]? =w.heap[b]?
 gr:Gr w w'
theorem Keep.le{w w':World}(h:Keep w w'):w.heap.size<=w'.heap.size:=h.gr.le
theorem Keep.refl(w:World):Keep w w:=⟨λ_ _=>rfl, .refl _⟩
theorem Keep.trans{a b c:World}(h:Keep a b)(h':Keep b c):Keep a c:=
 ⟨λi hi=>(h'.same i (E5 hi h.le)).trans (h.same i hi),h.gr.trans h'.gr⟩
theorem lt_of_heap{b:Nat}{o:Obj}(h:w.heap[b]? =some o):b<w.heap.size:=by
 rcases VE b w.heap.size with h'|h'
 ·exact h'
 ·rw[eP h']at h;cases h
def Rd(A:Reg)(w:World)(s:Nat)(v:Value)(cs:List Value):Prop:=
 ∃(p:Option Addr) (len cap:Nat),v= .slice p len cap/\cs.length=len*s/\len<=cap/\ (p=none->cap=0)/\
  (0<cap->∃b off arr T fr,p=some ⟨b,off,none⟩/\A b/\w.heap[b]? =some (.cells arr T fr)/\off+cap*s<=arr.size/\∀i,i<len*s->arr[off+i]? =cs[i]?)
theorem Rd.step{A A':Reg}{v:Value}{cs:List Value}(h:Rd A w s v cs)(ha:∀b,A b->A' b)(hs:Same A w w'):Rd A' w' s v cs:=by
 obtain⟨p,len,cap,h1,h2,h3,h4,h5⟩:=h;refine⟨p,len,cap,h1,h2,h3,h4,λhc=>?_⟩;obtain⟨b,off,arr,T,fr,e1,e2,e3,e4⟩:=h5 hc;exact⟨b,off,arr,T,fr,e1,ha _ e2,(hs b e2).trans e3,e4⟩
theorem Rd.nil{A:Reg}:Rd A w s (.slice none 0 0) []:=⟨none,0,0,rfl,F8,C4 _,λ_=>rfl,λh=>absurd h F8⟩
structure Fact where
 holds:Reg->World->Prop
 step:∀{A A':Reg} {w w':World},holds A w-> (∀b,A b->A' b)->Same A w w'->Gr w w'->holds A' w'
def Fact.rd(R:Reg)(s:Nat)(v:Value)(cs:List Value):Fact where
 holds A w:=Rd (λb=>A b/\R b) w s v cs
 step h ha hs _:=h.step (λb ⟨h1,h2⟩=>⟨ha b h1,h2⟩) (λb ⟨h1,_⟩=>hs b h1)
def Fact.box(R:Reg)(b:Nat)(cells:List Value)(T:TypeId):Fact where
 holds A w:=A b/\R b/\∃fr,w.heap[b]? =some (.cells cells.toArray T fr)
 step h ha hs _:=⟨ha _ h.1,h.2.1,h.2.2.imp λ_ e=>(hs _ h.1).trans e⟩
def Fact.old(M:Reg)(w0:World):Fact where
 holds A w:=Gr w0 w/\∀b,b<w0.heap.size-> ¬M b->A b/\w.heap[b]? =w0.heap[b]?
 step:=λh ha hs hsz=>⟨h.1.trans hsz,λb hb hM=>⟨ha b (h.2 b hb hM).1,(hs b (h.2 b hb hM).1).trans (h.2 b hb hM).2⟩⟩
structure Mob where
 holds:Option Nat->World->Prop
 step:∀{o:Option Nat} {w w':World},holds o w-> (∀b,o=some b->w'.heap[b]? =w.heap[b]?)->holds o w'
def Mob.box(b:Nat)(cells:List Value)(T:TypeId):Mob where
 holds o w:=o=some b/\w.heap[b]? =some (.cells cells.toArray T (0,0))
 step h hs:=⟨h.1,(hs _ h.1).trans h.2⟩
def Mob.own(s:Nat)(E:TypeId)(v:Value)(cs:List Value):Mob where
 holds o w:=∃(p:Option Addr) (len cap:Nat),v= .slice p len cap/\cs.length=len*s/\len<=cap/\ (p=none->cap=0)/\
  (o=none->p=none)/\∀b,o=some b->∃arr fr,p=some ⟨b,0,none⟩/\w.heap[b]? =some (.cells arr E fr)/\arr.size=cap*s/\
   (fr.1=fr.2\/arr.size<=fr.1)/\∀i,i<len*s->arr[i]? =cs[i]?
 step:=by
  rintro o w w' ⟨p,len,cap,h1,h2,h3,h4,h5,h6⟩ hs;refine⟨p,len,cap,h1,h2,h3,h4,h5,λb hb=>?_⟩;obtain⟨arr,fr,e1,e2,e3⟩:=h6 b hb;exact⟨arr,fr,e1,(hs b hb).trans e2,e3⟩
def Cu(w:World):Reg->List Mob->Prop
 |_,[]=>True
 |A,m::L=>∃o,m.holds o w/\ (∀b,o=some b-> ¬A b/\b<w.heap.size)/\Cu w (λb=>A b\/o=some b) L
theorem Cu.Ii{w:World}:∀{L:List Mob} {A A':Reg},Cu w A L-> (∀b,A' b->A b)->Cu w A' L
 |[],_,_,_,_=>trivial
 |m::L,A,A',⟨o,h1,h2,h3⟩,ha=>⟨o,h1,λb hb=>⟨λh=>(h2 b hb).1 (ha b h),(h2 b hb).2⟩,h3.Ii (λb hb=>hb.imp (ha b) id)⟩
theorem Cu.step{w w':World}(hsz:w.heap.size<=w'.heap.size):∀{L:List Mob} {A:Reg},Cu w A L-> (∀b,b<w.heap.size-> ¬A b->w'.heap[b]? =w.heap[b]?)->Cu w' A L
 |[],_,_,_=>trivial
 |m::L,A,⟨o,h1,h2,h3⟩,hs=>⟨o,m.step h1 (λb hb=>hs b (h2 b hb).2 (h2 b hb).1),λb hb=>⟨(h2 b hb).1,E5 (h2 b hb).2 hsz⟩,
   h3.step hsz (λb hb hA=>hs b hb (λh=>hA (.inl h)))⟩
theorem Cu.lt{w:World}:∀{L:List Mob} {A:Reg},Cu w A L->Cu w (λb=>A b\/w.heap.size<=b) L
 |[],_,_=>trivial
 |m::L,A,⟨o,h1,h2,h3⟩=>⟨o,h1,λb hb=>⟨λh=>h.elim (h2 b hb).1 (λh=>absurd (h2 b hb).2 (Nat.not_lt.2 h)),(h2 b hb).2⟩,
   h3.lt.Ii (λb hb=>by rcases hb with(h|h)|h<;>simp[h])⟩
theorem Cu.swap{A:Reg}{m1 m2:Mob}{L:List Mob}:Cu w A (m1::m2::L)->Cu w A (m2::m1::L):=by
 rintro⟨o1,h1,h2,o2,h3,h4,h5⟩;refine⟨o2,h3,λb hb=>⟨λh=>(h4 b hb).1 (.inl h),(h4 b hb).2⟩,o1,h1,λb hb=>⟨?_,(h2 b hb).2⟩,h5.Ii ?_⟩
 ·rintro(h|h)
  ·exact(h2 b hb).1 h
  ·exact(h4 b h).1 (.inr hb)
 ·rintro b ((h|h)|h)<;>simp[h]
theorem Cu.perm{L L':List Mob}(hp:L.Perm L'):∀{A:Reg},Cu w A L->Cu w A L':=by
 induction hp with
 |nil=>exact λh=>h
 |cons m _ ih=>exact λ⟨o,h1,h2,h3⟩=>⟨o,h1,h2,ih h3⟩
 |swap m1 m2 L=>exact Cu.swap
 |trans _ _ ih1 ih2=>exact λh=>ih2 (ih1 h)
theorem Cu.drop{w:World}{m:Mob}{L:List Mob}{A:Reg}:Cu w A (m::L)->Cu w A L
 |⟨_,_,_,h3⟩=>h3.Ii (λ_ h=> .inl h)
structure St (A:Reg) (w:World) (F:List Fact) (L:List Mob):Prop where
 lt:∀b,A b->b<w.heap.size
 facts:∀f∈F,f.holds A w
 mobs:Cu w A L
theorem St.fact{A:Reg}{F:List Fact}{L:List Mob}(h:St A w F L)(i:Nat){f:Fact}(hi:F[i]? =some f):f.holds A w:=
 h.facts f (UH hi)
theorem aX{α:Type}{l:List α}{m:α}(h:l[i]? =some m):(m::l.eraseIdx i).Perm l:=by
 induction l generalizing i with
 |nil=>simp at h
 |cons x l ih=>
  cases i with
  |zero=>simp at h;subst h;exact .refl _
  |succ i=>
   simp at h;exact(List.Perm.swap x m _).trans ((ih h).cons x)
theorem Ws{α:Type}{l:List α}{m m':α}(h:l[i]? =some m):(m'::l.eraseIdx i).Perm (l.set i m'):=by
 induction l generalizing i with
 |nil=>simp at h
 |cons x l ih=>
  cases i with
  |zero=>simp
  |succ i=>
   simp at h;exact(List.Perm.swap x m' _).trans ((ih h).cons x)
theorem St.front{A:Reg}{F:List Fact}{L:List Mob}(h:St A w F L){m:Mob}(hi:L[i]? =some m):St A w F (m::L.eraseIdx i):=
 ⟨h.lt,h.facts,h.mobs.perm (aX hi).symm⟩
theorem St.back{A:Reg}{F:List Fact}{L:List Mob}{m m':Mob}(hi:L[i]? =some m)(h:St A w F (m'::L.eraseIdx i)):St A w F (L.set i m'):=
 ⟨h.lt,h.facts,h.mobs.perm (Ws hi)⟩
theorem St.Ax7{A:Reg}{F:List Fact}{L:List Mob}{m:Mob}(h:St A w F (m::L)):St A w F L:=⟨h.lt,h.facts,h.mobs.drop⟩
theorem St.xV{A:Reg}{F:List Fact}{L:List Mob}{f:Fact}(h:St A w (f::F) L):St A w F L:=⟨h.lt,λg hg=>h.facts g (.tail _ hg),h.mobs⟩
theorem St.qP{A:Reg}{F:List Fact}{L:List Mob}{f:Fact}(h:St A w F L)(hf:f.holds A w):St A w (f::F) L:=
 ⟨h.lt,λg hg=>by cases hg with|head=>exact hf|tail _ hg=>exact h.facts g hg,h.mobs⟩
theorem St.keep{A:Reg}{F:List Fact}{L:List Mob}(h:St A w F L)(hk:Keep w w'):St A w' F L:=
 ⟨λb hb=>E5 (h.lt b hb) hk.le,λf hf=>f.step (h.facts f hf) (λ_ h=>h) (λb hb=>hk.same b (h.lt b hb)) hk.gr,
  h.mobs.step hk.le (λb hb _=>hk.same b hb)⟩
structure Fr (w w':World) (F1:List Fact) (L1:List Mob):Prop where
 keep:Keep w w'
 own:∃A1:Reg,(∀b,A1 b->w.heap.size<=b/\b<w'.heap.size)/\ (∀f∈F1,f.holds A1 w')/\Cu w' (λb=>A1 b\/b<w.heap.size) L1
theorem Fr.nil(h:Keep w w'):Fr w w' [] []:=⟨h,λ_=>False,λ_ h=>h.elim,λ_ h=>(by cases h),trivial⟩
theorem Cu.append{w:World}:∀{L1 L2:List Mob} {A:Reg} (B:Reg),(∀b,B b->b<w.heap.size)->Cu w (λb=>A b\/B b) L1->Cu w (λb=>A b\/ ¬B b) L2->Cu w A (L1++L2)
 |[],L2,A,B,_,_,h2=>h2.Ii (λ_ h=> .inl h)
 |m::L1,L2,A,B,hB,⟨o,h1,h2,h3⟩,h4=>by
  refine⟨o,h1,λb hb=>⟨λh=>(h2 b hb).1 (.inl h),(h2 b hb).2⟩,?_⟩;refine Cu.append B hB (h3.Ii ?_) (h4.Ii ?_)
  ·rintro b ((h|h)|h)<;>simp[h]
  ·rintro b ((h|h)|h)
   ·exact .inl h
   ·exact .inr (λhb=>(h2 b h).1 (.inr hb))
   ·exact .inr h
theorem St.call{A:Reg}{F F1:List Fact}{L L1:List Mob}(h:St A w F L)(hf:Fr w w' F1 L1):∃A',St A' w' (F1++F) (L1++L):=by
 have hk:=h.keep hf.keep;obtain⟨A1,h1,h2,h3⟩:=hf.own;refine⟨λb=>A b\/A1 b,λb hb=>hb.elim (hk.lt b) (λh=>(h1 b h).2),λf hf'=>?_,?_⟩
 ·rcases List.mem_append.1 hf' with hf'|hf'
  ·exact f.step (h2 f hf') (λ_ h=> .inr h) (λ_ _=>rfl) (.refl _)
  ·exact f.step (hk.facts f hf') (λ_ h=> .inl h) (λ_ _=>rfl) (.refl _)
 ·refine Cu.append (λb=>b<w.heap.size) (λb hb=>E5 hb hf.keep.le) (h3.Ii ?_) ?_
  ·rintro b ((h'|h')|h')
   ·exact .inr (h.lt b h')
   ·exact .inl h'
   ·exact .inr h'
  ·refine(h.mobs.lt.step hf.keep.le λb hb _=>hf.keep.same b hb).Ii ?_;rintro b ((h'|h')|h')
   ·exact .inl h'
   ·exact .inr (h1 b h').1
   ·exact .inr (by simpa using h')
class GI (T:Type) (k:outParam IntKind)where
 toZ:T->Int
 ofZ:Int->T
 toZ_ofZ:∀n,toZ (ofZ n)=k.wrap n
def wrap64(n:Int):Int:=IntKind.i64.wrap n
theorem Ajc(n:Int):wrap64 n=if n %18446744073709551616>=9223372036854775808 then n %18446744073709551616-18446744073709551616 else n %18446744073709551616:=by
 unfold wrap64 IntKind.wrap;simp only[IntKind.bits,IntKind.signed,UY];change (if decide (n %18446744073709551616>=9223372036854775808)=true then n %18446744073709551616-18446744073709551616 else n %18446744073709551616)=_;by_cases h:n %18446744073709551616>=9223372036854775808<;>simp[h]
theorem Df{n:Int}(h: -9223372036854775808<=n)(h':n<=9223372036854775807):wrap64 n=n:=by
 rw[Ajc];split<;>omega
instance:GI Int .i64 where
 toZ x:=x
 ofZ n:=wrap64 n
 toZ_ofZ _:=rfl
instance:GI UInt8 .u8 where
 toZ x:=(x.toNat:Int)
 ofZ n:=UInt8.ofNat (n %256).toNat
 toZ_ofZ n:=by
  simp only[IntKind.wrap,IntKind.bits,IntKind.signed,Z?,SN,R8,S8];show((n %256).toNat %256:Nat)=n %256;omega
instance:GI UInt32 .u32 where
 toZ x:=(x.toNat:Int)
 ofZ n:=UInt32.ofNat (n %4294967296).toNat
 toZ_ofZ n:=by
  simp only[IntKind.wrap,IntKind.bits,IntKind.signed,Z?,SN,R8,QJ];show((n %4294967296).toNat %4294967296:Nat)=n %4294967296;omega
instance:GI UInt64 .u64 where
 toZ x:=(x.toNat:Int)
 ofZ n:=UInt64.ofNat (n %18446744073709551616).toNat
 toZ_ofZ n:=by
  simp only[IntKind.wrap,IntKind.bits,IntKind.signed,Z?,SN,R8,P6];show((n %18446744073709551616).toNat %18446744073709551616:Nat)=n %18446744073709551616;omega
instance:GI Int32 .i32 where
 toZ x:=x.toInt
 ofZ n:=Int32.ofInt n
 toZ_ofZ n:=by
  rw[XX,bO];simp only[IntKind.wrap,IntKind.bits,IntKind.signed,UY];change (if n %4294967296<(4294967296+1)/2 then n %4294967296 else n %4294967296-4294967296)=if decide (n %4294967296>=2147483648)=true then n %4294967296-4294967296 else n %4294967296;by_cases h:n %4294967296>=2147483648
  ·rw[A4 F0,A7 (by simpa using h)]
  ·rw[A7 F0,A4 (by simpa using h)]
instance:GI Int8 .i8 where
 toZ x:=x.toInt
 ofZ n:=Int8.ofInt n
 toZ_ofZ n:=by
  rw[Int8.toInt_ofInt,bO];simp only[IntKind.wrap,IntKind.bits,IntKind.signed,UY];change (if n %256<(256+1)/2 then n %256 else n %256-256)=if decide (n %256>=128)=true then n %256-256 else n %256;by_cases h:n %256>=128
  ·rw[A4 F0,A7 (by simpa using h)]
  ·rw[A7 F0,A4 (by simpa using h)]
section
variable {T:Type} {k:IntKind} [GI T k]
open GI
def Ae(a b:T):T:=ofZ (toZ a+toZ b)
def Ap(a b:T):T:=ofZ (toZ a-toZ b)
def Cm(a b:T):T:=ofZ (toZ a*toZ b)
def Ej(a b:T):T:=ofZ ((toZ a).tdiv (toZ b))
def b_(a b:T):T:=ofZ ((toZ a).tmod (toZ b))
def Ed(a b:T):T:=ofZ (BitVec.ofInt k.bits (toZ a)&&&BitVec.ofInt k.bits (toZ b)).toNat
def pO(a b:T):T:=ofZ (BitVec.ofInt k.bits (toZ a)|||BitVec.ofInt k.bits (toZ b)).toNat
def Wr(a b:T):T:=ofZ (BitVec.ofInt k.bits (toZ a)^^^BitVec.ofInt k.bits (toZ b)).toNat
def U8(a:T):T:=ofZ (BitVec.ofInt k.bits (if k.signed then -1 else k.max)^^^BitVec.ofInt k.bits (toZ a)).toNat
def nC(a:T):T:=ofZ (0-toZ a)
def Dp(a:T)(n:Nat):T:=ofZ (toZ a*2^(min n k.bits))
def Cl(a:T)(n:Nat):T:=ofZ ((toZ a).fdiv (2^(min n k.bits)))
def geq(a b:T):Bool:=toZ a==toZ b
def Bg(a b:T):Bool:=toZ a !=toZ b
def Cx(a b:T):Bool:=decide (toZ a<toZ b)
def MQ(a b:T):Bool:=decide (toZ a<=toZ b)
def Eg(a b:T):Bool:=decide (toZ a>toZ b)
def Ha(a b:T):Bool:=decide (toZ a>=toZ b)
def ZT:List T->List T->Bool
 |x::a,y::b=>geq x y&&ZT a b
 |_,_=>true
def Fy(a b:T):T:=if toZ b<toZ a then b else a
def wZ(a b:T):T:=if toZ b>toZ a then b else a
def Ah{T':Type}{k':IntKind} [GI T' k'](a:T):T':=ofZ (toZ a)
end
def Me(a b:Int):Int:=a.tmod b
def s_(a:Int)(n:Nat):Int:=a.fdiv (2^(min n 64))
def Af{α:Type}(l:List α)(i:Int):Option α:=if 0<=i then l[i.toNat]? else none
def Pn{α:Type}(l:List α)(i:Int)(x:α):Option (List α):=if 0<=i/\i<l.length then some (l.set i.toNat x)else none
def Cb{α:Type}(l:List α)(lo hi:Int):Option (List α):=if 0<=lo/\lo<=hi/\hi<=l.length then some ((l.take hi.toNat).drop lo.toNat)else none
def wo:Nat:=2^34
def Bf{α:Type}(l m:List α):Option (List α):=if l.length+m.length<=wo then some (l++m)else none
def mkI{α:Type}(n:Int)(z:α):Option (List α):=if 0<=n/\n<=wo then some (List.replicate n.toNat z)else none
def Gi(b:Bool):Option Unit:=if b=true then some ()else none
def Ad{α:Type}(l:List α):Int:=(l.length:Int)
def QL{α:Type}(l:List α)(lo n:Int):List α:=(l.drop lo.toNat).take n.toNat
def ZW(m a b:Int):Option Unit:=Gi (decide (0<=a/\a<=b/\b<=m))
def JT{α:Type}(l m:List α):List α:=m.take l.length++l.drop m.length
def Um{α:Type}(l:List α)(lo n:Int)(m:List α):List α:=l.take lo.toNat++(m.take n.toNat++l.drop (lo.toNat+(m.take n.toNat).length))
def LK(n:Int)(m:Nat):Int:=if(m:Int)<n then(m:Int)else n
def Ay:Nat:=2^65
end Go.Lv
namespace Go.Lv
variable{b want:Bool}{f:FuncId}{op:Op}{v vx vy:Value}
section
variable {T:Type} {k:IntKind} [GI T k]
@[reducible] def iv (x:T):Value:= .int k (GI.toZ x)
@[reducible] def sv (l:List UInt8):Value:= .string ⟨l.toArray⟩
variable {P:Program}
def Jw(P:Program)(b:BinOp)(t:TypeId)(x y v:Value):Prop:=
 ∀(ox oy:Operand) (w:World),(do eqGuard b t ox oy x y;binOp b t x y:Sem Value).run P w= .ok v w
theorem On(n:Int):(.int k (k.wrap n):Value)=iv (GI.ofZ n:T):=by rw[iv,GI.toZ_ofZ]
theorem Bin.add{t:TypeId}(a b:T):Jw P .add t (iv a) (iv b) (iv (Ae a b)):=λ_ _ w=>by
 simp[eqGuard,binOp,Op.intArith,Ae,<-On]
theorem Bin.sub{t:TypeId}(a b:T):Jw P .sub t (iv a) (iv b) (iv (Ap a b)):=λ_ _ w=>by
 simp[eqGuard,binOp,Op.intArith,Ap,<-On]
theorem Bin.mul{t:TypeId}(a b:T):Jw P .mul t (iv a) (iv b) (iv (Cm a b)):=λ_ _ w=>by
 simp[eqGuard,binOp,Op.intArith,Cm,<-On]
theorem Bin.quo{t:TypeId}(a b:T)(h:GI.toZ b≠0):Jw P .quo t (iv a) (iv b) (iv (Ej a b)):=λ_ _ w=>by
 simp[eqGuard,binOp,Op.intDiv,Ej,<-On,h]
theorem Bin.and{t:TypeId}(a b:T):Jw P .and t (iv a) (iv b) (iv (Ed a b)):=λ_ _ w=>by
 simp[eqGuard,binOp,Op.intBits,Ed,<-On]
theorem Bin.or{t:TypeId}(a b:T):Jw P .or t (iv a) (iv b) (iv (pO a b)):=λ_ _ w=>by
 simp[eqGuard,binOp,Op.intBits,pO,<-On]
theorem Bin.xor{t:TypeId}(a b:T):Jw P .xor t (iv a) (iv b) (iv (Wr a b)):=λ_ _ w=>by
 simp[eqGuard,binOp,Op.intBits,Wr,<-On]
theorem Bin.eql{t:TypeId}(a b:T):Jw P .eql t (iv a) (iv b) (.bool (geq a b)):=λ_ _ w=>by
 simp[eqGuard,binOp,Op.intCmp,geq]
theorem Bin.neq{t:TypeId}(a b:T):Jw P .neq t (iv a) (iv b) (.bool (Bg a b)):=λ_ _ w=>by
 simp[eqGuard,binOp,Op.intCmp,Bg]
theorem Bin.lss{t:TypeId}(a b:T):Jw P .lss t (iv a) (iv b) (.bool (Cx a b)):=λ_ _ w=>by
 simp[eqGuard,binOp,Op.intCmp,Cx]
theorem Bin.leq{t:TypeId}(a b:T):Jw P .leq t (iv a) (iv b) (.bool (MQ a b)):=λ_ _ w=>by
 simp[eqGuard,binOp,Op.intCmp,MQ]
theorem Bin.gtr{t:TypeId}(a b:T):Jw P .gtr t (iv a) (iv b) (.bool (Eg a b)):=λ_ _ w=>by
 simp[eqGuard,binOp,Op.intCmp,Eg]
theorem Bin.geq{t:TypeId}(a b:T):Jw P .geq t (iv a) (iv b) (.bool (Ha a b)):=λ_ _ w=>by
 simp[eqGuard,binOp,Op.intCmp,Ha]
variable {T':Type} {k':IntKind} [GI T' k']
theorem Bin.shl{t:TypeId}(a:T)(b:T')(h:0<=GI.toZ b):Jw P .shl t (iv a) (iv b) (iv (Dp a (GI.toZ b).toNat)):=λ_ _ w=>by
 have:¬GI.toZ b<0:=F0
 simp[eqGuard,binOp,Op.shift,Dp,<-On,this]
theorem Bin.shr{t:TypeId}(a:T)(b:T')(h:0<=GI.toZ b)(hr:k.wrap ((GI.toZ a).fdiv (2^(min (GI.toZ b).toNat k.bits)))=(GI.toZ a).fdiv (2^(min (GI.toZ b).toNat k.bits))):
  Jw P .shr t (iv a) (iv b) (iv (Cl a (GI.toZ b).toNat)):=λ_ _ w=>by
 have:¬GI.toZ b<0:=F0
 simp[eqGuard,binOp,Op.shift,Cl,<-On,this,hr]
theorem fF{t:TypeId}(hu:P.underlying t=some .bool)(d:Nat)(a b:Bool)(w:World):(Op.equalIn (d+1) t (.bool a) (.bool b)).run P w= .ok (a==b) w:=by
 simp[Op.equalIn,A_ hu]
theorem Bin.Ans{t:TypeId}(hu:P.underlying t=some .bool)(a b:Bool):Jw P .eql t (.bool a) (.bool b) (.bool (a==b)):=λ_ _ w=>by
 have h:=fF hu 9999 a b w;simp only[eqGuard,binOp,Op.equal,Op.maxDepth];simp[h]
theorem Bin.Alc{t:TypeId}(hu:P.underlying t=some .bool)(a b:Bool):Jw P .neq t (.bool a) (.bool b) (.bool (a !=b)):=λ_ _ w=>by
 have h:=fF hu 9999 a b w;simp only[eqGuard,binOp,Op.equal,Op.maxDepth];simp[h,bne]
theorem mO(a:List UInt8):(⟨a.toArray⟩:ByteArray).toList=a:=by rw[ByteArray.toList_eq]
theorem Bin.Are{t:TypeId}(a b:List UInt8):Jw P .eql t (sv a) (sv b) (.bool (a==b)):=λ_ _ w=>by
 simp[eqGuard,binOp,Op.stringOp,mO]
theorem Bin.Asm{t:TypeId}(a b:List UInt8):Jw P .neq t (sv a) (sv b) (.bool (a !=b)):=λ_ _ w=>by
 simp[eqGuard,binOp,Op.stringOp,bne,mO]
theorem Ait(a b:List UInt8):(⟨a.toArray⟩:ByteArray)++⟨b.toArray⟩=⟨(a++b).toArray⟩:=by
 simp[ByteArray.ext_iff]
theorem Bin.Ard{t:TypeId}(a b:List UInt8)(h:(a.length:Int)+b.length<=9223372036854775807):Jw P .add t (sv a) (sv b) (sv (a++b)):=λ_ _ w=>by
 have h1:¬(9223372036854775807<(a.length:Int)+b.length):=F0
 have h2:∀l:List UInt8,(⟨l.toArray⟩:ByteArray).size=l.length:=λl=>by simp[ByteArray.size]
 simp only[eqGuard,binOp,Op.stringOp];simp[h2,h1,Ait]
end
variable {P:Program} {n:Nat} {ops:Array Oper} {rest:List Oper} {K:Env->World->Prop} {σ:Env} {w:World}
variable {d:Nat} {ty:TypeId} {pos:String} {after:Array Edge}
def XO(P:Program)(σ:Env)(w:World)(op:Op)(v:Value):Prop:=
 ∀(d:Option Tmp) (ty:TypeId) (pos:String) (after:Array Edge) (g:Option (Nat×Bool)),(execOp (ev σ) ⟨d,op,ty,pos,after,g⟩).run P w= .ok (.value v) w
theorem WL.x(hd:Nat.blt d n=true)(hx:XO P σ w op v)(h:WL P n ops rest K (Mr σ d v) w):WL P n ops (⟨some d,op,ty,pos,after,none⟩::rest) K σ w:=
 .val rfl rfl hd (hx _ _ _ _ _) h
def gv(b want:Bool)(v:Value):Value:=if b==want then v else undef
theorem O3(h:(b==want)=true):gv b want v=v:=by unfold gv;rw[A7 h]
theorem WL.gx{j t:Nat}(hj:(ops[j]?).bind (·.dst)=some t)(hb:σ t= .bool b)(hd:Nat.blt d n=true)
  (hx:(b==want)=true->XO P σ w op v) (h:WL P n ops rest K (Mr σ d (gv b want v)) w):
  WL P n ops (⟨some d,op,ty,pos,after,some (j,want)⟩::rest) K σ w:=by
 by_cases hbw:(b==want)=true
 ·refine WL.on rfl hj hb hbw (WL.val rfl rfl hd (hx hbw _ _ _ _ _) ?_);rw[O3 hbw]at h;exact h
 ·have hbw':(b==want)=false:=by simpa using hbw
  refine WL.off rfl hj hb hbw' rfl hd ?_;have:gv b want v=undef:=by unfold gv;rw[hbw'];simp
  rw[this]at h;exact h
section
variable {x y c:Operand}
theorem X.move(hx:ev σ x=v):XO P σ w (.move x) v:=λ_ _ _ _ _=>by simp[execOp,hx]
theorem X.assign(hx:ev σ x=v):XO P σ w (.assign x) v:=λ_ _ _ _ _=>by simp[execOp,hx]
theorem X.bin{b:BinOp}{t t':TypeId}(hx:ev σ x=vx)(hy:ev σ y=vy)(hr:Jw P b t vx vy v):XO P σ w (.binOp b t x y t') v:=λ_ _ _ _ _=>by
 have:=hr x y w;simp only[execOp,hx,hy,C1,this,B8];simp
theorem X.not{t:TypeId}(hx:ev σ x= .bool b):XO P σ w (.unOp .not t x) (.bool (!b)):=λ_ _ _ _ _=>by simp[execOp,hx,Op.unary]
theorem X.neg{T:Type}{k:IntKind} [GI T k]{t:TypeId}{a:T}(hx:ev σ x=iv a):XO P σ w (.unOp .neg t x) (iv (nC a)):=λ_ _ _ _ _=>by
 simp[execOp,hx,Op.unary,Op.intArith,nC,<-On]
theorem X.Ayi{T:Type}{k:IntKind} [GI T k]{t:TypeId}{a:T}(hx:ev σ x=iv a):XO P σ w (.unOp .xor t x) (iv (U8 a)):=λ_ _ _ _ _=>by
 simp[execOp,hx,Op.unary,Op.intBits,U8,<-On]
theorem X.pick(hc:ev σ c= .bool b)(hx:ev σ x=vx)(hy:ev σ y=vy)(hv:(if b then vx else vy)=v):XO P σ w (.pick c x y) v:=λ_ _ _ _ _=>by
 simp[execOp,hc,hx,hy,asBool];cases b<;>simp at hv<;>simp[hv]
theorem X.extract{i:Nat}{vs:List Value}{v:Value}(hx:ev σ x= .tuple vs.toArray)(hi:vs[i]? =some v):XO P σ w (.extract x i) v:=λ_ _ _ _ _=>by
 simp[execOp,hx,Instr.extract,hi]
theorem X.conv{T T':Type}{k k':IntKind} [GI T k] [GI T' k']{s t:TypeId}{a:T}{u:TypeDesc}(hs:P.underlying s=some u)(ht:P.underlying t=some (.int k'))
  (hx:ev σ x=iv a):XO P σ w (.convert s t x) (iv (Ah a:T')):=λ_ _ _ _ _=>by
 simp[execOp,hx,convert,A_ hs,A_ ht,Conv.intToInt,Ah,<-On]
theorem X.wI{t e:TypeId}{p:Option Addr}{len cap:Nat}(ht:P.underlying t=some (.slice e))(hx:ev σ x= .slice p len cap):
  XO P σ w (.call ⟨.builtin .len, #[x], #[t]⟩) (iv (len:Int)):=λ_ _ _ _ _=>by
 simp[execOp,resolve,invoke,builtin,Builtin.len_,hx,A_ ht,goInt,iv,GI.toZ]
theorem X.Apn{t:TypeId}{l:List UInt8}(ht:P.underlying t=some .string)(hx:ev σ x=sv l):XO P σ w (.call ⟨.builtin .len, #[x], #[t]⟩) (iv (Ad l)):=λ_ _ _ _ _=>by
 have h2:(⟨l.toArray⟩:ByteArray).size=l.length:=by simp[ByteArray.size]
 simp[execOp,resolve,invoke,builtin,Builtin.len_,hx,A_ ht,goInt,iv,GI.toZ,Ad,h2]
theorem X.Arm{t e:TypeId}{m:Nat}(ht:P.underlying t=some (.array m e))(hx:ev σ x=v):XO P σ w (.call ⟨.builtin .len, #[x], #[t]⟩) (iv (m:Int)):=λ_ _ _ _ _=>by
 simp[execOp,resolve,invoke,builtin,Builtin.len_,hx,A_ ht,goInt,iv,GI.toZ]
theorem X.min{T:Type}{k:IntKind} [GI T k]{ts:Array TypeId}{a b:T}(hx:ev σ x=iv a)(hy:ev σ y=iv b):XO P σ w (.call ⟨.builtin .min, #[x,y],ts⟩) (iv (Fy a b)):=λ_ _ _ _ _=>by
 simp[execOp,resolve,invoke,builtin,Builtin.min_,Builtin.min2,hx,hy,Fy];split<;>rfl
theorem X.max{T:Type}{k:IntKind} [GI T k]{ts:Array TypeId}{a b:T}(hx:ev σ x=iv a)(hy:ev σ y=iv b):XO P σ w (.call ⟨.builtin .max, #[x,y],ts⟩) (iv (wZ a b)):=λ_ _ _ _ _=>by
 simp[execOp,resolve,invoke,builtin,Builtin.max_,Builtin.max2,hx,hy,wZ];split<;>rfl
theorem X.makeFunc{f:FuncId}{cap:List Operand}{vs:List Value}(hc:cap.map (ev σ)=vs):XO P σ w (.makeFunc (.func f) #[] cap.toArray) (.func (.func f) #[] vs.toArray):=λ_ _ _ _ _=>by
 simp[execOp,Instr.makeFunc,hc]
theorem X.nilCheck{a:Addr}(hx:ev σ x= .pointer (some a)):XO P σ w (.nilCheck x) (.pointer (some a)):=λ_ _ _ _ _=>by simp[execOp,hx]
end
def Ent(P:Program)(f:FuncId):Prop:=∀(args:Array Value) (w:World),(callFunc f args).run P w= .ok (.enter f args) w
theorem Ent.mk{fn:Func}{c:Code}(hf:P.funcs[f]? =some fn)(hn:(fn.name== "runtime.NumGoroutine")=false)(hb:fn.body=some c):Ent P f:=fun args w=>by
 have hn':¬fn.name= "runtime.NumGoroutine":=by simpa using hn
 unfold callFunc
 show Sem.run P (Sem.bind (Sem.program Sem.pure) _) w=_;simp only[Sem.bind,Sem.run,hf];simp[hn',hb]
def XE(P:Program)(σ:Env)(w:World)(op:Op)(f:FuncId)(vs:Array Value):Prop:=
 ∀(d:Option Tmp) (ty:TypeId) (pos:String) (after:Array Edge) (g:Option (Nat×Bool)),(execOp (ev σ) ⟨d,op,ty,pos,after,g⟩).run P w= .ok (.enter f vs) w
theorem X.call{args:List Operand}{ts:Array TypeId}{vs:List Value}(he:Ent P f)(ha:args.map (ev σ)=vs):XE P σ w (.call ⟨.value (.func f),args.toArray,ts⟩) f vs.toArray:=λ_ _ _ _ _=>by
 have:=he vs.toArray w;simp[execOp,resolve,ev,Deferred.ofValue,invoke,ha,this]
theorem X.Ays{g:Operand}{args:List Operand}{ts:Array TypeId}{vs cs:List Value}(he:Ent P f)(hg:ev σ g= .func (.func f) #[] cs.toArray) (ha:args.map (ev σ)=vs):
  XE P σ w (.call ⟨.value g,args.toArray,ts⟩) f (vs++cs).toArray:=λ_ _ _ _ _=>by
 have:=he (vs++cs).toArray w;simp[execOp,resolve,hg,Deferred.ofValue,invoke,ha,this]
theorem WL.e{vs:Array Value}{R1:Ending->World->Prop}(hd:Nat.blt d n=true)(hx:XE P σ w op f vs)(hc:Calls P f vs w R1)
  (hr:∀e w',R1 e w'->∃r,e= .returned r/\WL P n ops rest K (Mr σ d r) w'):WL P n ops (⟨some d,op,ty,pos,after,none⟩::rest) K σ w:=
 .enter rfl rfl hd (hx _ _ _ _ _) hc hr
end Go.Lv
namespace Go
theorem F5{p:Prop}(h:p:=by simp;omega):p:=h
end Go
namespace Go.Lv
variable{x:Operand}{v:Value}
variable {P:Program} {n:Nat} {ops:Array Oper} {rest:List Oper} {K:Env->World->Prop} {σ:Env} {w:World}
variable {d:Nat} {ty:TypeId} {pos:String} {after:Array Edge} {A:Reg} {F:List Fact} {L:List Mob}
def Y4:TypeDesc->Bool
 | .struct _| .array _ _=>true
 |_=>false
def Plain(P:Program)(t:TypeId):Prop:=∃u,P.underlying t=some u/\Y4 u=false
def l?(P:Program)(t:TypeId):Prop:=∃u,P.underlying t=some u/\Y4 u=true
def Im(P:Program)(t:TypeId)(s:Nat):Prop:=∃i,P.info? t=some i/\i.size=s
theorem Fj{t:TypeId}{u:TypeDesc}{b:Bool}(h:P.underlying t=some u)(hb:Y4 u=b)(w:World):(isAgg t).run P w= .ok b w:=by
 unfold isAgg;rw[C1,A_ h,B8];subst hb;cases u<;>rfl
theorem Ca{t:TypeId}{s:Nat}(h:Im P t s)(w:World):(sizeOf t).run P w= .ok s w:=by
 obtain⟨i,hi,rfl⟩:=h;simp[sizeOf,typeInfo,hi]
theorem cell_of{b off:Nat}{arr:Array Value}{T:TypeId}{fr:Nat×Nat}(h:w.heap[b]? =some (.cells arr T fr)):w.cell? ⟨b,off,none⟩=arr[off]? :=by
 simp[World.cell?,h]
theorem GA{b off:Nat}(h:w.cell? ⟨b,off,none⟩=some v):(load ⟨b,off,none⟩).run P w= .ok v w:=by
 simp[load,Sem.run,h]
theorem Lb(b off k:Nat):(⟨b,off,none⟩:Addr).add k=⟨b,off+k,none⟩:=by
 unfold Addr.add;split<;>simp_all
theorem Lm{b off:Nat}(cs:List Value)(h:∀i,i<cs.length->w.cell? ⟨b,off+i,none⟩=cs[i]?):(loadCells ⟨b,off,none⟩ cs.length).run P w= .ok cs.toArray w:=
 run_loadCells_list (P:=P) (w:=w) ⟨b,off,none⟩ cs (λj v hj=>by
  have hlt:j<cs.length:=(List.getElem?_eq_some_iff.1 hj).1;rw[Lb,h j hlt,hj])
theorem Cu.mem{A:Reg}:∀{L:List Mob} {A:Reg} {m:Mob} {i:Nat},Cu w A L->L[i]? =some m->∃o,m.holds o w
 |[],_,_,_,_,h=>by simp at h
 |_::_,_,_,0,⟨o,h1,_,_⟩,h=>⟨o,by simp at h;exact h▸h1⟩
 |_::_,_,_,_+1,⟨_,_,_,h3⟩,h=>Cu.mem (A:=A) h3 (by simpa using h)
theorem St.box(hs:St A w F L){i b:Nat}{cells:List Value}{T:TypeId}(hL:L[i]? =some (.box b cells T)):w.heap[b]? =some (.cells cells.toArray T (0,0)):=by
 obtain⟨o,h1,h2⟩:=Cu.mem (A:=A) hs.mobs hL;exact h2
def Ec(w:World)(b:Nat)(o:Obj):World:={w with heap:=w.heap.setIfInBounds b o}
theorem St.jD(hs:St A w F L){i b:Nat}{cells cells':List Value}{T:TypeId}(hL:L[i]? =some (.box b cells T)):
  St A (Ec w b (.cells cells'.toArray T (0,0))) F (L.set i (.box b cells' T)):=by
 have hb:=lt_of_heap (hs.box hL);have h1:=hs.front hL;refine St.back hL ?_;obtain⟨o,⟨rfl,_⟩,h3,h4⟩:=h1.mobs;have hsz:(Ec w b (.cells cells'.toArray T (0,0))).heap.size=w.heap.size:=by simp[Ec]
 have hne:∀c,c≠b-> (Ec w b (.cells cells'.toArray T (0,0))).heap[c]? =w.heap[c]? :=λc hc=>by
  simp[Ec,VS (S? hc)]
 have hnA:=(h3 b rfl).1;refine⟨λc hc=>by rw[hsz];exact hs.lt c hc,λf hf=>f.step (hs.facts f hf) (λ_ h=>h) (λc hc=>hne c (λe=>hnA (e▸hc))) ⟨by rw[hsz];exact C4 _,rfl,rfl,rfl⟩,some b,⟨rfl,?_⟩,λc hc=>⟨(h3 c hc).1,by rw[hsz];exact(h3 c hc).2⟩,?_⟩
 ·simp[Ec,hb]
 ·refine h4.step (by rw[hsz];exact C4 _) (λc _ hc=>hne c (λe=>hc (.inr (by rw[e]))))
def Jd(w:World)(o:Obj):World:={w with heap:=w.heap.push o}
theorem jT(w:World)(o:Obj):(Jd w o).heap.size=w.heap.size+1:=by simp only[Jd,Array.size_push]
theorem Adi{w:World}{o:Obj}{b:Nat}(hb:b<w.heap.size):(Jd w o).heap[b]? =w.heap[b]? :=by
 simp only[Jd];rw[Array.getElem?_push_lt hb,zS hb]
theorem Uq(w:World)(o:Obj):(Jd w o).heap[w.heap.size]? =some o:=by
 simp only[Jd,Array.getElem?_push_size]
theorem Av4(w:World)(o:Obj):Keep w (Jd w o):=⟨λb hb=>Adi hb,by rw[jT];omega,rfl,rfl,rfl⟩
theorem St.wQ(hs:St A w F L)(o:Obj)(m:Mob)(hm:m.holds (some w.heap.size) (Jd w o)):St A (Jd w o) F (m::L):=by
 have hk:=Av4 w o;have h1:=hs.keep hk;refine⟨h1.lt,h1.facts,some w.heap.size,hm,λb hb=>⟨λh=>?_,?_⟩,?_⟩
 ·cases hb;exact Nat.lt_irrefl _ (hs.lt _ h)
 ·cases hb;rw[jT];omega
 ·refine(hs.mobs.lt.step hk.le λb hb _=>hk.same b hb).Ii ?_;rintro b (h|h)
  ·exact .inl h
  ·cases h;exact .inr (C4 _)
theorem St.x?(hs:St A w F L)(cells:List Value)(T:TypeId):St A (Jd w (.cells cells.toArray T)) F (.box w.heap.size cells T::L):=
 hs.wQ _ _ ⟨rfl,Uq _ _⟩
theorem X.Aob{t T:TypeId}{i b off:Nat}{cells:List Value}(hs:St A w F L)(hL:L[i]? =some (.box b cells T))(ht:Plain P t)
  (hx:ev σ x= .pointer (some ⟨b,off,none⟩)) (hv:cells[off]? =some v):XO P σ w (.load t x) v:=λ_ _ _ _ _=>by
 obtain⟨u,hu,hp⟩:=ht;have hc:w.cell? ⟨b,off,none⟩=some v:=by rw[cell_of (hs.box hL)];simpa using hv
 simp only[execOp,hx,Instr.loadAt,Instr.sureAddr,C1,I7,B8,loadVar,Fj hu hp,SN,R8,GA hc]
theorem X.Ahz{t T:TypeId}{i b off s:Nat}{cells vs:List Value}(hs:St A w F L)(hL:L[i]? =some (.box b cells T))(ht:l? P t)(hsz:Im P t s)
  (hx:ev σ x= .pointer (some ⟨b,off,none⟩)) (hv:(cells.drop off).take s=vs) (hl:vs.length=s):XO P σ w (.load t x) (.agg vs.toArray):=λ_ _ _ _ _=>by
 obtain⟨u,hu,hp⟩:=ht;have hc:=Lm (P:=P) (w:=w) (b:=b) (off:=off) vs (λj hj=>by
  rw[cell_of (hs.box hL)];subst hv;rw[HH]at hj;simp[SI,VA];omega)
 rw[hl]at hc;simp only[execOp,hx,Instr.loadAt,Instr.sureAddr,C1,I7,B8,loadVar,Fj hu hp,U9,Ca hsz,hc]
def Bk(cells:List Value)(off:Nat)(vs:List Value):List Value:=cells.take off++(vs++cells.drop (off+vs.length))
theorem Fw{cells:List Value}{off:Nat}{vs:List Value}(h:off+vs.length<=cells.length):(Bk cells off vs).length=cells.length:=by
 simp[Bk];omega
theorem Avg{cells:List Value}{off:Nat}{vs:List Value}(h:off+(v::vs).length<=cells.length):
  Bk (cells.set off v) (off+1) vs=Bk cells off (v::vs):=by
 simp at h;have e1:(cells.set off v).take (off+1)=cells.take off++[v]:=by
  rw[zN F5];have e0:(cells.set off v).take off=cells.take off:=by
   apply Z2;intro i;rw[SI,SI];by_cases hi:i<off
   ·rw[A7 hi,A7 hi,SZ F0]
   ·rw[A4 hi,A4 hi]
  rw[e0];simp
 have e2:(cells.set off v).drop (off+1+vs.length)=cells.drop (off+(v::vs).length):=by
  rw[List.drop_set_of_lt F0];simp[VF,Nat.add_left_comm]
 simp only[Bk,e1,e2,C0,SU,O7]
theorem Hb(b:Nat)(T:TypeId)(fr:Nat×Nat):∀(vs:List Value) (off:Nat) (i:Nat) (cells:List Value) (w:World),w.heap[b]? =some (.cells cells.toArray T fr)->
  off+i+vs.length<=cells.length-> (fr.2<=off+i\/cells.length<=fr.1\/fr.2<=fr.1)-> (∀v∈vs,v.oneCell'=true)->
  (storeCells ⟨b,off,none⟩ vs i).run P w= .ok () (Ec w b (.cells (Bk cells (off+i) vs).toArray T fr))
 |[],off,i,cells,w,h,hl,hf,h1=>by
  have hb:=lt_of_heap h;have:Ec w b (.cells (Bk cells (off+i) []).toArray T fr)=w:=by
   have e:Bk cells (off+i) []=cells:=by simp[Bk]
   rw[e];cases w with
   |mk heap tape drawn os output=>
    simp only[Ec,World.mk.injEq,XA,true_and];apply Zz;intro j;by_cases hj:j=b
    ·subst hj;simp at hb h⊢;rw[Zu hb];exact h.symm
    ·simp[VS (S? hj)]
  rw[this];rfl
 |v::vs,off,i,cells,w,h,hl,hf,h1=>by
  have hb:=lt_of_heap h;have hlt:off+i<cells.length:=by simp at hl;omega
  unfold storeCells;rw[C1,run_store P w _ v _ (h1 v (.head _)),Lb];have hc:w.cell? ⟨b,off+i,none⟩=some cells[off+i]:=by rw[cell_of h];simp[hlt]
  have hfz:w.frozen? ⟨b,off+i,none⟩=false:=by
   simp only[World.frozen?,h];simp;omega
  rw[hc];simp only[hfz,SN,R8,B8];have hw:w.setCell ⟨b,off+i,none⟩ v=Ec w b (.cells (cells.set (off+i) v).toArray T fr):=by
   simp only[World.setCell,Ec,World.mk.injEq,XA,true_and];apply Zz;intro j;rw[WT];by_cases hj:j=b
   ·subst hj;simp only[U9,h];rw[Zu hb];simp
   ·rw[A4 (S? hj),VS (S? hj)]
  rw[hw];have hr:=Hb b T fr vs off (i+1) (cells.set (off+i) v) (Ec w b (.cells (cells.set (off+i) v).toArray T fr)) (by simp[Ec,hb])
   (by simp at hl⊢;omega) F5 (λu hu=>h1 u (.tail _ hu))
  rw[hr];have hsp:Bk (cells.set (off+i) v) (off+(i+1)) vs=Bk cells (off+i) (v::vs):=by
   rw[<-K7];exact Avg (by simpa using hl)
  rw[hsp];congr 1;simp[Ec]
theorem WL.Ajd{a:Operand}{t T:TypeId}{i b off s:Nat}{cells cells' vs:List Value}{L':List Mob}(hs:St A w F L)(hL:L[i]? =some (.box b cells T))(hsz:Im P t s)
  (ha:ev σ a= .pointer (some ⟨b,off,none⟩)) (hx:ev σ x=v) (hv:v.cells=vs.toArray) (hl:vs.length=s) (h1:vs.all (·.oneCell')=true) (hle:Nat.ble (off+s) cells.length=true)
  (hc:Bk cells off vs=cells') (hL':L.set i (.box b cells' T)=L') (h:∀w',St A w' F L'->WL P n ops rest K σ w'):
  WL P n ops (⟨none, .store t a x,ty,pos,after,none⟩::rest) K σ w:=by
 have hle':off+s<=cells.length:=by simpa using hle
 have hr:=Hb (P:=P) b T (0,0) vs off 0 cells w (hs.box hL) F0 (.inr (.inr (C4 _))) (λv hv=>by simpa using List.all_eq_true.1 h1 v hv);simp only[SJ,hc]at hr;refine .unit rfl rfl (w':=Ec w b (.cells cells'.toArray T (0,0))) ?_ (h _ (hL'▸hs.jD hL));simp[execOp,ha,hx,Instr.storeAt,Instr.sureAddr,storeVar,Ca hsz,hv,hl,hr]
theorem P1(e:TypeId)(v:Value)(cells:List Value)(hv:v.cells=cells.toArray):(newVar e v).run P w= .ok ⟨w.heap.size,0,none⟩ (Jd w (.cells cells.toArray e)):=by
 unfold newVar;rw[hv];rfl
theorem WL.box{x:Operand}{e:TypeId}{v:Value}{cells:List Value}(hs:St A w F L)(hd:Nat.blt d n=true)(hx:ev σ x=v)(hv:v.cells=cells.toArray)
  (h:∀b w',St A w' F (.box b cells e::L)->WL P n ops rest K (Mr σ d (.pointer (some ⟨b,0,none⟩))) w'):
  WL P n ops (⟨some d, .box e x,ty,pos,after,none⟩::rest) K σ w:=by
 refine .val rfl rfl hd (w':=Jd w (.cells cells.toArray e)) (v:= .pointer (some ⟨w.heap.size,0,none⟩)) ?_ (h _ _ (hs.x? cells e));simp only[execOp,hx,Instr.box,C1,P1 e v cells hv,B8,I7]
theorem WL.alloc{e:TypeId}{z:Value}{cells:List Value}(hs:St A w F L)(hd:Nat.blt d n=true)(hz:∃i,P.info? e=some i/\i.zero=some z)(hv:z.cells=cells.toArray)
  (h:∀b w',St A w' F (.box b cells e::L)->WL P n ops rest K (Mr σ d (.pointer (some ⟨b,0,none⟩))) w'):
  WL P n ops (⟨some d, .alloc e,ty,pos,after,none⟩::rest) K σ w:=by
 obtain⟨i,hi,hz⟩:=hz;have hz':(zeroValue e).run P w= .ok z w:=by simp[zeroValue,typeInfo,hi,hz]
 refine .val rfl rfl hd (w':=Jd w (.cells cells.toArray e)) (v:= .pointer (some ⟨w.heap.size,0,none⟩)) ?_ (h _ _ (hs.x? cells e));simp only[execOp,Instr.alloc,C1,hz',P1 e z cells hv,B8,I7]
end Go.Lv
namespace Go.Lv
variable{p:Option Addr}{vlo:Option Value}{v:Value}
variable {P:Program} {n:Nat} {ops:Array Oper} {rest:List Oper} {K:Env->World->Prop} {σ:Env} {w:World}
variable {d:Nat} {ty:TypeId} {pos:String} {after:Array Edge} {A:Reg} {F:List Fact} {L:List Mob}
def mT(P:Program)(t:TypeId)(f k:Nat):Prop:=∃fs fd i,P.underlying t=some (.struct fs)/\fs[f]? =some fd/\fd.offset=k/\P.info? fd.type=some i/\i.size≠0
theorem Aai{t:TypeId}{f k b off:Nat}(h:mT P t f k):(Instr.fieldAt t (.pointer (some ⟨b,off,none⟩)) f).run P w= .ok (.pointer (some ⟨b,off+k,none⟩)) w:=by
 obtain⟨fs,fd,i,h1,h2,h3,h4,h5⟩:=h;have h6:=Ca (P:=P) ⟨i,h4,rfl⟩ w;simp only[Instr.fieldAt,C1,A_ h1,B8,h2,Instr.sureAddr,I7,fieldPlace,h6,h5,R8,Lb,h3]
theorem X.fieldAddr{t:TypeId}{x:Operand}{f k b off off':Nat}(hf:mT P t f k)(hx:ev σ x= .pointer (some ⟨b,off,none⟩))(ho:off+k=off'):
  XO P σ w (.fieldAddr t x f) (.pointer (some ⟨b,off',none⟩)):=λ_ _ _ _ _=>by
 simp only[execOp,hx,C1,Aai hf,B8,I7,ho]
theorem X.field{t u:TypeId}{x:Operand}{f k s:Nat}{cells:List Value}{v:Value}(hf:∃fs fd,P.underlying t=some (.struct fs)/\fs[f]? =some fd/\fd.offset=k/\fd.type=u)
  (hu:(Plain P u/\cells[k]? =some v)\/ (l? P u/\Im P u s/\ .agg ((cells.drop k).take s).toArray=v)) (hx:ev σ x= .agg cells.toArray):XO P σ w (.field t x f) v:=λ_ _ _ _ _=>by
 obtain⟨fs,fd,h1,h2,rfl,rfl⟩:=hf;rcases hu with⟨⟨u,hu,hp⟩,hv⟩|⟨⟨u,hu,hp⟩,hsz,hv⟩
 ·simp only[execOp,hx,Instr.field,C1,A_ h1,B8,h2,asAgg,I7,part,Fj hu hp,SN,R8];simp[hv]
 ·simp only[execOp,hx,Instr.field,C1,A_ h1,B8,h2,asAgg,I7,part,Fj hu hp,U9,Ca hsz];rw[<-hv];simp[List.extract_eq_take_drop]
def Fact.ptr(R:Reg)(pv:Value)(cs:List Value):Fact where
 holds A w:=∃b off arr T fr,pv= .pointer (some ⟨b,off,none⟩)/\ (A b/\R b)/\w.heap[b]? =some (.cells arr T fr)/\∀i,i<cs.length->arr[off+i]? =cs[i]?
 step:=by
  rintro A A' w w' ⟨b,off,arr,T,fr,h1,⟨h2,h3⟩,h4,h5⟩ ha hs _;exact⟨b,off,arr,T,fr,h1,⟨ha _ h2,h3⟩,(hs _ h2).trans h4,h5⟩
theorem Ada{t e:TypeId}{s len cap lo hi:Nat}{vhi:Option Value}(ht:P.underlying t=some (.slice e))(hsz:Im P e s)(h1:lo<=hi)(h2:hi<=len)(h3:len<=cap)
  (hlo:(∃q,vlo=some (.int q lo))\/ (vlo=none/\lo=0)) (hhi:(∃q,vhi=some (.int q hi))\/ (vhi=none/\hi=len)):
  (Instr.slice t (.slice p len cap) vlo vhi none).run P w= .ok (.slice (if cap=lo then p else p.map (·.add (lo*s))) (hi-lo) (cap-lo)) w:=by
 have e4:hi<=cap:=F0
 rcases hlo with⟨q,rfl⟩|⟨rfl,rfl⟩<;>rcases hhi with⟨q',rfl⟩|⟨rfl,rfl⟩<;>
  simp[Instr.slice,A_ ht,Instr.sliceBounds,Instr.sliceBound,asIntOf,Ca hsz,h1,e4]
 all_goals (try (intro h;omega))
theorem X.K? {t e:TypeId}{R:Reg}{s j m l k:Nat}{cs:List Value}(ht:P.underlying t=some (.slice e))(hsz:Im P e s)(hs:St A w F L)
  (hF:F[j]? =some (.rd R s v cs)) (hl:cs.length=m*s) (hp:0<s) (hlk:l<=k) (hkm:k<=m):
  ∃p' l' c',(∀(σ:Env) (w:World) (x:Operand) (lo hi:Option Operand),ev σ x=v-> ((∃q,lo.map (ev σ)=some (.int q (l:Int)))\/ (lo=none/\l=0))-> ((∃q,hi.map (ev σ)=some (.int q (k:Int)))\/ (hi=none/\k=m))->XO P σ w (.slice t x lo hi none) (.slice p' l' c'))/\St A w (.rd R s (.slice p' l' c') ((cs.take (k*s)).drop (l*s))::F) L:=by
 obtain⟨p,len,cap,rfl,h2,h3,h4,h5⟩:=hs.fact j hF;have hlen:len=m:=SY hp (h2.symm.trans hl);subst hlen;have e1:l*s<=k*s:=C2 s hlk;have e2:k*s<=len*s:=C2 s hkm;have e3:(k-l)*s=k*s-l*s:=VP k l s;have e9:k-l<=cap-l:=F0
 have e10:l*s+(cap-l)*s=cap*s:=by
  rw[VP];have:=C2 s (show l<=cap by omega);omega
 refine⟨(if cap=l then p else p.map (·.add (l*s))),k-l,cap-l,λσ w x lo hi hx hlo hhi _ _ _ _ _=>?_,hs.qP ⟨_,_,_,rfl,?_,e9,?_,λhc=>?_⟩⟩
 ·have hr:=Ada (P:=P) (w:=w) (p:=p) (vlo:=lo.map (ev σ)) (vhi:=hi.map (ev σ)) ht hsz hlk hkm h3 (by rcases hlo with h|⟨h,h'⟩;exact .inl h;exact .inr ⟨by rw[h];rfl,h'⟩)
   (by rcases hhi with h|⟨h,h'⟩;exact .inl h;exact .inr ⟨by rw[h];rfl,h'⟩)
  simp only[execOp,hx,Instr.sliceAt,C1,A_ ht,B8,XZ,hr,I7]
 ·rw[SH,HH,e3];omega
 ·intro hp;by_cases hcl:cap=l
  ·omega
  ·rw[A4 hcl]at hp;cases p with
   |none=>have:=h4 rfl;omega
   |some a=>simp at hp
 ·rw[A4 F0];obtain⟨b,off,arr,T,fr,rfl,hA,hb,hc',he⟩:=h5 F0;refine⟨b,off+l*s,arr,T,fr,by simp[Lb],hA,hb,?_,λi hi=>?_⟩
  ·rw[K7,e10];assumption
  ·rw[K7,he (l*s+i) F0,VA,SI];rw[A7 F0]
theorem Abl{t e:TypeId}{s len cap lo hi mx:Nat}{q q':IntKind}(ht:P.underlying t=some (.slice e))(hsz:Im P e s)(h1:lo<=hi)(h2:hi<=mx)(h3:mx<=cap)
  (hlo:(∃q,vlo=some (.int q lo))\/ (vlo=none/\lo=0)):
  (Instr.slice t (.slice p len cap) vlo (some (.int q hi)) (some (.int q' mx))).run P w= .ok (.slice (if mx=lo then p else p.map (·.add (lo*s))) (hi-lo) (mx-lo)) w:=by
 rcases hlo with⟨q,rfl⟩|⟨rfl,rfl⟩<;>
  simp[Instr.slice,A_ ht,Instr.sliceBounds,Instr.sliceBound,asIntOf,Ca hsz,h1,h2,h3]
theorem X.Ag6{t e:TypeId}{R:Reg}{s j m l k c:Nat}{cs:List Value}(ht:P.underlying t=some (.slice e))(hsz:Im P e s)(hs:St A w F L)
  (hF:F[j]? =some (.rd R s v cs)) (hl:cs.length=m*s) (hp:0<s) (hlk:l<=k) (hkc:k<=c) (hcm:c<=m):
  ∃p' l' c',(∀(σ:Env) (w:World) (x:Operand) (lo:Option Operand) (hi mx:Operand),ev σ x=v-> ((∃q,lo.map (ev σ)=some (.int q (l:Int)))\/ (lo=none/\l=0))-> (∃q,ev σ hi= .int q (k:Int))-> (∃q,ev σ mx= .int q (c:Int))->XO P σ w (.slice t x lo (some hi) (some mx)) (.slice p' l' c'))/\St A w (.rd R s (.slice p' l' c') ((cs.take (k*s)).drop (l*s))::F) L/\c'=c-l:=by
 obtain⟨p,len,cap,rfl,h2,h3,h4,h5⟩:=hs.fact j hF;have hlen:len=m:=SY hp (h2.symm.trans hl);subst hlen;have e1:l*s<=k*s:=C2 s hlk;have e2:k*s<=len*s:=C2 s (Xm hkc hcm);have e3:(k-l)*s=k*s-l*s:=VP k l s;have e9:k-l<=c-l:=F0
 have e10:l*s+(c-l)*s<=cap*s:=by
  rw[VP];have:=C2 s (show l<=c by omega);have:=C2 s (show c<=cap by omega);omega
 refine⟨(if c=l then p else p.map (·.add (l*s))),k-l,c-l,λσ w x lo hi mx hx hlo hhi hmx _ _ _ _ _=>?_,hs.qP ⟨_,_,_,rfl,?_,e9,?_,λhc=>?_⟩,rfl⟩
 ·obtain⟨q,hq⟩:=hhi;obtain⟨q',hq'⟩:=hmx;have hr:=Abl (P:=P) (w:=w) (p:=p) (len:=len) (vlo:=lo.map (ev σ)) (q:=q) (q':=q') ht hsz hlk hkc (show c<=cap by omega) (by rcases hlo with h|⟨h,h'⟩;exact .inl h;exact .inr ⟨by rw[h];rfl,h'⟩);simp only[execOp,hx,Instr.sliceAt,C1,A_ ht,B8,VN,hq,hq',hr,I7]
 ·rw[SH,HH,e3];omega
 ·intro hp;by_cases hcl:c=l
  ·omega
  ·rw[A4 hcl]at hp;cases p with
   |none=>have:=h4 rfl;omega
   |some a=>simp at hp
 ·rw[A4 F0];obtain⟨b,off,arr,T,fr,rfl,hA,hb,hc',he⟩:=h5 F0;refine⟨b,off+l*s,arr,T,fr,by simp[Lb],hA,hb,?_,λi hi=>?_⟩
  ·omega
  ·rw[K7,he (l*s+i) F0,VA,SI];rw[A7 F0]
end Go.Lv
namespace Go.Lv
variable{o:Obj}{p:Option Addr}{v vy vx:Value}
variable {P:Program} {n:Nat} {ops:Array Oper} {rest:List Oper} {K:Env->World->Prop} {σ:Env} {w:World}
variable {d:Nat} {ty:TypeId} {pos:String} {after:Array Edge} {A:Reg} {F:List Fact} {L:List Mob}
structure ElemOk (P:Program) (e:TypeId) (s:Nat):Prop where
 ok:∃i z,P.info? e=some i/\i.size=s/\i.zero=some z/\z.cells.size=s/\i.bytes<=4096
 pos:0<s
theorem ElemOk.size{e:TypeId}{s:Nat}(h:ElemOk P e s):Im P e s:=let⟨i,_,h1,h2,_⟩:=h.ok;⟨i,h1,h2⟩
theorem Rd.first{s len cap:Nat}{cs:List Value}(h:Rd A w s (.slice p len cap) cs){w2:World}(hw:w2.heap=w.heap):
  (Builtin.firstCells s len (.slice p len cap)).run P w2= .ok cs.toArray w2:=by
 obtain⟨p',len',cap',e,h2,h3,h4,h5⟩:=h;cases e;cases p with
 |none=>
  have:=h4 rfl;have:cs=[]:=VT (by rw[h2,show len=0 by omega];simp);subst this;exact run_firstCells_none _ _ _ _ _
 |some a=>
  by_cases hc:0<cap
  ·obtain⟨b,off,arr,T,fr,e,hA,hb,hc',he⟩:=h5 hc;cases e;refine run_firstCells_some w2 s len _ len cap cs h2 (λj v hj=>?_);have hjl:j<len*s:=by rw[<-h2];exact(List.getElem?_eq_some_iff.1 hj).1
   rw[Lb,cell_of (by rw[hw];exact hb),he j hjl,hj]
  ·have hz:len=0:=F0
   have:cs=[]:=VT (by rw[h2,hz];simp);subst this;exact run_firstCells_some w2 s len _ len cap [] (by simp[hz]) (λj v hj=>by simp at hj)
theorem Pf{o:Option Nat}{s:Nat}{E:TypeId}{cs:List Value}(h:(Mob.own s E v cs).holds o w):Rd (λb=>o=some b) w s v cs:=by
 obtain⟨p,len,cap,h1,h2,h3,h4,h5,h6⟩:=h;refine⟨p,len,cap,h1,h2,h3,h4,λhc=>?_⟩;cases o with
 |none=>have:=h4 (h5 rfl);omega
 |some b=>
  obtain⟨arr,fr,e1,e2,e3,e4,e5⟩:=h6 b rfl;exact⟨b,0,arr,E,fr,e1,rfl,e2,F0,λi hi=>by rw[K1];exact e5 i hi⟩
theorem St.Pf(hs:St A w F L){j s:Nat}{E:TypeId}{v:Value}{cs:List Value}(hL:L[j]? =some (.own s E v cs)):Rd (λ_=>True) w s v cs:=by
 obtain⟨o,h⟩:=Cu.mem (A:=A) hs.mobs hL;exact(Go.Lv.Pf h).step (λ_ _=>trivial) (λ_ _=>rfl)
theorem St.rd(hs:St A w F L){j s:Nat}{R:Reg}{cs:List Value}(hF:F[j]? =some (.rd R s v cs)):Rd (λ_=>True) w s v cs:=
 (show Rd _ w s v cs from hs.fact j hF).step (λ_ _=>trivial) (λ_ _=>rfl)
theorem St.jC{i b:Nat}{m m':Mob}(hs:St A w F L)(hL:L[i]? =some m)(hm:m.holds (some b) w)(hm':m'.holds (some b) (Ec w b o))
  (hq:Cu w A (m::L.eraseIdx i)->∃q,m.holds q w/\ (∀c,q=some c-> ¬A c/\c<w.heap.size)/\Cu w (λc=>A c\/q=some c) (L.eraseIdx i)/\q=some b):St A (Ec w b o) F (L.set i m'):=by
 have h1:=hs.front hL;refine St.back hL ?_;obtain⟨q,_,h3,h4,rfl⟩:=hq h1.mobs;have hsz:(Ec w b o).heap.size=w.heap.size:=by simp[Ec]
 have hne:∀c,c≠b-> (Ec w b o).heap[c]? =w.heap[c]? :=λc hc=>by
  simp[Ec,VS (S? hc)]
 have hnA:=(h3 b rfl).1;refine⟨λc hc=>by rw[hsz];exact hs.lt c hc,λf hf=>f.step (hs.facts f hf) (λ_ h=>h) (λc hc=>hne c (λe=>hnA (e▸hc))) ⟨by rw[hsz];exact C4 _,rfl,rfl,rfl⟩,some b,hm',λc hc=>⟨(h3 c hc).1,by rw[hsz];exact(h3 c hc).2⟩,?_⟩;refine h4.step (by rw[hsz];exact C4 _) (λc _ hc=>hne c (λe=>hc (.inr (by rw[e]))))
theorem St.vC(hs:St A w F L){i:Nat}{m m':Mob}(hL:L[i]? =some m)(hm':m'.holds (some w.heap.size) (Jd w o)):St A (Jd w o) F (L.set i m'):=
 St.back hL ((hs.front hL).Ax7.wQ o m' hm')
theorem St.dN(hs:St A w F L):St A w.drew F L:=hs.keep ⟨λ_ _=>rfl,C4 _,rfl,rfl,rfl⟩
theorem St.Anf(hs:St A w F L){i:Nat}{m m':Mob}(hL:L[i]? =some m)(hm:∀q,m.holds q w->∃q',m'.holds q' w/\ (q'=q\/q'=none)):St A w F (L.set i m'):=by
 have h1:=hs.front hL;refine St.back hL ⟨hs.lt,hs.facts,?_⟩;obtain⟨q,hq,h3,h4⟩:=h1.mobs;obtain⟨q',hq',h⟩:=hm q hq;refine⟨q',hq',λb hb=>?_,h4.Ii ?_⟩
 ·rcases h with rfl|rfl
  ·exact h3 b hb
  ·cases hb
 ·rcases h with rfl|rfl
  ·exact λ_ h=>h
  ·exact λb hb=>hb.elim .inl (λh=>by cases h)
structure Src (P:Program) (w:World) (t2:TypeId) (vy:Value) (s ly:Nat) (ys:List Value):Prop where
 u:∃u,P.underlying t2=some u/\ ((∃e2,u= .slice e2)\/u= .string)
 len:∀w2,(Builtin.lenOf vy).run P w2= .ok ly w2
 first:∀w2:World,w2.heap=w.heap-> (Builtin.firstCells s ly vy).run P w2= .ok ys.toArray w2
theorem Src.slice{t2:TypeId}{s ly:Nat}{ys:List Value}(ht2:∃e2,P.underlying t2=some (.slice e2))(hy:Rd (λ_=>True) w s vy ys)(Z3:ys.length=ly*s)(hp:0<s):Src P w t2 vy s ly ys:=by
 obtain⟨py,zI,Ba3,rfl,g2,g3,g4,g5⟩:=hy;have e2':zI=ly:=SY hp (g2.symm.trans Z3);subst e2';obtain⟨e2,ht2⟩:=ht2;exact⟨⟨_,ht2, .inl ⟨_,rfl⟩⟩,λ_=>by simp[Builtin.lenOf],λw2 hw=>Rd.first (A:=λ_=>True) ⟨py,zI,Ba3,rfl,g2,g3,g4,g5⟩ hw⟩
theorem pK{x y:Operand}{t t2 e:TypeId}{s i lx ly:Nat}{cs ys:List Value}(ht:P.underlying t=some (.slice e))(he:ElemOk P e s)
  (hs:St A w F L) (hL:L[i]? =some (.own s e vx cs)) (hsrc:Src P w t2 vy s ly ys) (h1:ys.all (·.oneCell')=true) (hlx:cs.length=lx*s) (Z3:ys.length=ly*s) (hlim:lx+ly<=wo):
  ∃v' w',(Builtin.append_ #[t,t2] ty #[vx,vy]).run P w= .ok v' w'/\St A w' F (L.set i (.own s e v' (cs++ys))):=by
 have hfr:=hs.front hL;obtain⟨o,hown,_,_⟩:=hfr.mobs;have hxr:=Go.Lv.Pf hown;obtain⟨p,len,cap,rfl,h2,h3,h4,h5,h6⟩:=hown;obtain⟨ti,z,hi,hsz,hz,hzs,hby⟩:=he.ok;obtain⟨u,ht2,hu⟩:=hsrc.u;have hlen:=hsrc.len;have e1:len=lx:=SY he.pos (h2.symm.trans hlx);subst e1;subst hsz;have XQ:wo=17179869184:=rfl;rw[XQ]at hlim;by_cases hroom:len+ly<=cap
 ·by_cases hn:ly=0
  ·
   subst hn;have hys:ys=[]:=VT (by simpa using Z3);subst hys;have hf:=hsrc.first w rfl
   refine⟨.slice p len cap,w,?_,?_⟩
   ·rcases hu with⟨e2,rfl⟩|rfl<;>cases p<;>simp[Builtin.append_,A_ ht,A_ ht2,sizeOf,typeInfo,hi,hlen,hf,h3,storeCells]
   ·rw[F_];have:L.set i (.own ti.size e (.slice p len cap) cs)=L:=by
     apply Z2;intro j;by_cases hj:i=j
     ·subst hj;rw[zY];simp[hL]
     ·rw[SZ hj]
    rw[this];exact hs
  ·
   cases o with
   |none=>have:=h4 (h5 rfl);omega
   |some b=>
    obtain⟨arr,fr,rfl,hb,hsz',hfz,hcells⟩:=h6 b rfl;have hf:=hsrc.first w rfl
    have hst:=Hb (P:=P) b e fr ys (len*ti.size) 0 arr.toList w (by simpa using hb)
     (by have:=C2 ti.size hroom;rw[B5]at this;simp;omega) (by simp;rcases hfz with h|h;exact .inr (.inr (ZD h.symm));exact .inr (.inl h)) (λv hv=>List.all_eq_true.1 h1 v hv)
    refine⟨.slice (some ⟨b,0,none⟩) (len+ly) cap,Ec w b (.cells (Bk arr.toList (len*ti.size) ys).toArray e fr),?_,?_⟩
    ·rcases hu with⟨e2,rfl⟩|rfl<;>(simp[Builtin.append_,A_ ht,A_ ht2,sizeOf,typeInfo,hi,hlen,hf,hroom,Lb]at hst⊢;simp[hst])
    ·have hbl:=lt_of_heap hb;have hal:arr.toList.length=arr.size:=by simp
     have Ba4:len*ti.size+ly*ti.size<=arr.toList.length:=by
      have:=C2 ti.size hroom;rw[B5]at this;simp;omega
     refine hs.jC hL (b:=b) ⟨_,len,cap,rfl,h2,h3,h4,h5,h6⟩ ?_ ?_
     ·refine⟨_,len+ly,cap,rfl,by rw[A?,B5];omega,hroom,F8,F8,λb' hb'=>?_⟩;cases hb';refine⟨(Bk arr.toList (len*ti.size) ys).toArray,fr,rfl,by simp[Ec,hbl],?_,?_,λj hj=>?_⟩
      ·simp only[T?];rw[Fw F0];simpa using hsz'
      ·simp only[T?];rw[Fw F0];simpa using hfz
      ·rw[B5]at hj;simp only[VZ,Bk,aD,HH];by_cases hj1:j<len*ti.size
       ·rw[A7 F0,A7 F0,SI,A7 hj1];have:=hcells j hj1;simpa using this
       ·have hmin:min (len*ti.size) arr.toList.length=len*ti.size:=F0
        rw[hmin,A4 hj1,A4 (show ¬j<cs.length by omega),A7 (show j-len*ti.size<ys.length by omega),h2]
     ·rintro⟨q,hq,q1,q2⟩;refine⟨q,hq,q1,q2,?_⟩;obtain⟨_,_,_,eq,_,_,_,k5,k6⟩:=hq;cases q with
      |none=>cases eq;exact nomatch k5 rfl
      |some c=>obtain⟨_,_,k7,_⟩:=k6 c rfl;cases eq;cases k7;rfl
 ·
  have hf:=hsrc.first w.drew rfl
  have hfo:=hxr.first (P:=P) (w2:=w.drew) rfl
  have h63':¬(9223372036854775807<((len:Int)+(ly:Int))):=F0
  have hbb:(len+ly)*ti.bytes<=140737488355328:=by
   have:=P8 hlim hby;omega
  have h48':¬(281474976710656<Builtin.nextslicecap (len+ly) cap*ti.bytes):=by
   have:=nQ (by omega:cap<len+ly) hbb;omega
  have hge:len+ly<=grownCap w (len+ly) cap e:=by simp[grownCap,Question.cut]
  refine⟨.slice (some ⟨w.heap.size,0,none⟩) (len+ly) (grownCap w (len+ly) cap e),
   Jd w.drew (.cells (cs++ys++(Builtin.zeroCells z.cells (grownCap w (len+ly) cap e-(len+ly))).toList).toArray e),?_,?_⟩
  ·have harr:∀(a b:List Value) (zz:Array Value),(a++b++zz.toList).toArray=a.toArray++(b.toArray++zz):=λa b zz=>by
    apply ZH;simp
   rw[harr];rcases hu with⟨e2,rfl⟩|rfl<;>(simp[Builtin.append_,A_ ht,A_ ht2,sizeOf,typeInfo,zeroValue,hi,hz,hlen,hroom,h63',h48',Question.forced,hf,hfo,newRow,newObj,grownCap];simp only[Sem.run,B8];simp[Jd])
  ·refine hs.dN.vC hL ⟨_,len+ly,_,rfl,by rw[A?,B5];omega,hge,F8,F8,λb hb=>?_⟩;cases hb;refine⟨_,(0,0),rfl,Uq _ _,?_, .inl rfl,λj hj=>?_⟩
   ·have:(Builtin.zeroCells z.cells (grownCap w (len+ly) cap e-(len+ly))).size=(grownCap w (len+ly) cap e-(len+ly))*ti.size:=by simp[Builtin.zeroCells,hzs]
    simp only[T?,A?,YZ,this,h2,Z3,VP];have:=C2 ti.size hge;rw[B5]at this⊢;omega
   ·rw[B5]at hj;simp only[VZ];rw[I9 F5]
theorem Aa8{t t2 e:TypeId}{s lx ly len cap:Nat}{cs ys:List Value}(ht:P.underlying t=some (.slice e))(he:ElemOk P e s)
  (hs:St A w F L) (hx:Rd (λ_=>True) w s vx cs) (hv:vx= .slice p len cap) (hcap:cap<lx+ly) (hsrc:Src P w t2 vy s ly ys) (hlx:cs.length=lx*s) (Z3:ys.length=ly*s) (hlim:lx+ly<=wo):
  ∃v' w',(Builtin.append_ #[t,t2] ty #[vx,vy]).run P w= .ok v' w'/\St A w' F (.own s e v' (cs++ys)::L):=by
 subst hv;have hxr:=hx;obtain⟨_,_,_,heq,h2,h3,h4,h5⟩:=hx;cases heq;obtain⟨ti,z,hi,hsz,hz,hzs,hby⟩:=he.ok;obtain⟨u,ht2,hu⟩:=hsrc.u;have hlen:=hsrc.len;have e1:len=lx:=SY he.pos (h2.symm.trans hlx);subst e1;subst hsz;have XQ:wo=17179869184:=rfl;rw[XQ]at hlim;have hroom:¬len+ly<=cap:=F0
 have hf:=hsrc.first w.drew rfl
 have hfo:=hxr.first (P:=P) (w2:=w.drew) rfl
 have h63':¬(9223372036854775807<((len:Int)+(ly:Int))):=F0
 have hbb:(len+ly)*ti.bytes<=140737488355328:=by
  have:=P8 hlim hby;omega
 have h48':¬(281474976710656<Builtin.nextslicecap (len+ly) cap*ti.bytes):=by
  have:=nQ (by omega:cap<len+ly) hbb;omega
 have hge:len+ly<=grownCap w (len+ly) cap e:=by simp[grownCap,Question.cut]
 refine⟨.slice (some ⟨w.heap.size,0,none⟩) (len+ly) (grownCap w (len+ly) cap e),
  Jd w.drew (.cells (cs++ys++(Builtin.zeroCells z.cells (grownCap w (len+ly) cap e-(len+ly))).toList).toArray e),?_,?_⟩
 ·have harr:∀(a b:List Value) (zz:Array Value),(a++b++zz.toList).toArray=a.toArray++(b.toArray++zz):=λa b zz=>by
   apply ZH;simp
  rw[harr];rcases hu with⟨e2,rfl⟩|rfl<;>(simp[Builtin.append_,A_ ht,A_ ht2,sizeOf,typeInfo,zeroValue,hi,hz,hlen,hroom,h63',h48',Question.forced,hf,hfo,newRow,newObj,grownCap];simp only[Sem.run,B8];simp[Jd])
 ·refine hs.dN.wQ _ _ ⟨_,len+ly,_,rfl,by rw[A?,B5];omega,hge,F8,F8,λb hb=>?_⟩;cases hb;refine⟨_,(0,0),rfl,Uq _ _,?_, .inl rfl,λj hj=>?_⟩
  ·have:(Builtin.zeroCells z.cells (grownCap w (len+ly) cap e-(len+ly))).size=(grownCap w (len+ly) cap e-(len+ly))*ti.size:=by simp[Builtin.zeroCells,hzs]
   simp only[T?,A?,YZ,this,h2,Z3,VP];have:=C2 ti.size hge;rw[B5]at this⊢;omega
  ·rw[B5]at hj;simp only[VZ];rw[I9 F5]
end Go.Lv
namespace Go.Lv
variable {P:Program} {n:Nat} {ops:Array Oper} {rest:List Oper} {K:Env->World->Prop} {σ:Env} {w:World}
variable {d:Nat} {ty:TypeId} {pos:String} {after:Array Edge} {A:Reg} {F:List Fact} {L:List Mob}
theorem Bgp{x y:Operand}{t t2 e:TypeId}{s i lx ly:Nat}{vx:Value}{cs ys:List Value}(ht:P.underlying t=some (.slice e))(he:ElemOk P e s)
  (hs:St A w F L) (hL:L[i]? =some (.own s e vx cs)) (hk:∃k,P.underlying t2=some (.int k)) (hyz:∀i z,P.info? e=some i->i.zero=some z->ys.toArray=Builtin.zeroCells z.cells ly) (h1:ys.all (·.oneCell')=true) (hlx:cs.length=lx*s) (Z3:ys.length=ly*s) (hlim:lx+ly<=wo):
  ∃v' w',(Builtin.append_ #[t,t2] ty #[vx, .int .i64 (ly:Int)]).run P w= .ok v' w'/\St A w' F (L.set i (.own s e v' (cs++ys))):=by
 have hfr:=hs.front hL;obtain⟨o,hown,_,_⟩:=hfr.mobs;have hxr:=Go.Lv.Pf hown;obtain⟨p,len,cap,rfl,h2,h3,h4,h5,h6⟩:=hown;obtain⟨ti,z,hi,hsz,hz,hzs,hby⟩:=he.ok;obtain⟨k,ht2⟩:=hk;have hyz:=hyz _ _ hi hz;have hLIM':wo=17179869184:=rfl;have hw64:IntKind.i64.wrap (ly:Int)=(ly:Int):=Df F0 (by rw[hLIM']at hlim;omega);have hneg:¬((ly:Int)<0):=F0
 have hb48:¬(281474976710656<(ly:Int)*(ti.bytes:Int)):=by
  have h1:ly*ti.bytes<=17179869184*4096:=P8 (by rw[hLIM']at hlim;omega) hby;have h2:(ly:Int)*(ti.bytes:Int)=((ly*ti.bytes:Nat):Int):=by simp
  rw[h2];omega
 have e1:len=lx:=SY he.pos (h2.symm.trans hlx);subst e1;subst hsz;have XQ:wo=17179869184:=rfl;rw[XQ]at hlim;by_cases hroom:len+ly<=cap
 ·by_cases hn:ly=0
  ·
   subst hn;have hys:ys=[]:=VT (by simpa using Z3);subst hys;refine⟨.slice p len cap,w,?_,?_⟩
   ·cases p<;>simp[Builtin.append_,A_ ht,A_ ht2,sizeOf,typeInfo,hi,asInt,asIntOf,(by decide:IntKind.i64.wrap 0=0),hw64,hneg,hb48,h3,storeCells]
   ·rw[F_];have:L.set i (.own ti.size e (.slice p len cap) cs)=L:=by
     apply Z2;intro j;by_cases hj:i=j
     ·subst hj;rw[zY];simp[hL]
     ·rw[SZ hj]
    rw[this];exact hs
  ·
   cases o with
   |none=>have:=h4 (h5 rfl);omega
   |some b=>
    obtain⟨arr,fr,rfl,hb,hsz',hfz,hcells⟩:=h6 b rfl;have hst:=Hb (P:=P) b e fr ys (len*ti.size) 0 arr.toList w (by simpa using hb)
     (by have:=C2 ti.size hroom;rw[B5]at this;simp;omega) (by simp;rcases hfz with h|h;exact .inr (.inr (ZD h.symm));exact .inr (.inl h)) (λv hv=>List.all_eq_true.1 h1 v hv)
    refine⟨.slice (some ⟨b,0,none⟩) (len+ly) cap,Ec w b (.cells (Bk arr.toList (len*ti.size) ys).toArray e fr),?_,?_⟩
    ·have h00:¬(ly*ti.size=0):=λh=>by have hpp:=he.pos;rcases Nat.mul_eq_zero.1 h with h|h<;>omega
     simp[Builtin.append_,A_ ht,A_ ht2,sizeOf,typeInfo,zeroValue,hi,hz,asInt,asIntOf,(by decide:IntKind.i64.wrap 0=0),hw64,hneg,hb48,hroom,Lb,h00,<-hyz]at hst⊢;simp[hst]
    ·have hbl:=lt_of_heap hb;have hal:arr.toList.length=arr.size:=by simp
     have Ba4:len*ti.size+ly*ti.size<=arr.toList.length:=by
      have:=C2 ti.size hroom;rw[B5]at this;simp;omega
     refine hs.jC hL (b:=b) ⟨_,len,cap,rfl,h2,h3,h4,h5,h6⟩ ?_ ?_
     ·refine⟨_,len+ly,cap,rfl,by rw[A?,B5];omega,hroom,F8,F8,λb' hb'=>?_⟩;cases hb';refine⟨(Bk arr.toList (len*ti.size) ys).toArray,fr,rfl,by simp[Ec,hbl],?_,?_,λj hj=>?_⟩
      ·simp only[T?];rw[Fw F0];simpa using hsz'
      ·simp only[T?];rw[Fw F0];simpa using hfz
      ·rw[B5]at hj;simp only[VZ,Bk,aD,HH];by_cases hj1:j<len*ti.size
       ·rw[A7 F0,A7 F0,SI,A7 hj1];have:=hcells j hj1;simpa using this
       ·have hmin:min (len*ti.size) arr.toList.length=len*ti.size:=F0
        rw[hmin,A4 hj1,A4 (show ¬j<cs.length by omega),A7 (show j-len*ti.size<ys.length by omega),h2]
     ·rintro⟨q,hq,q1,q2⟩;refine⟨q,hq,q1,q2,?_⟩;obtain⟨_,_,_,eq,_,_,_,k5,k6⟩:=hq;cases q with
      |none=>cases eq;exact nomatch k5 rfl
      |some c=>obtain⟨_,_,k7,_⟩:=k6 c rfl;cases eq;cases k7;rfl
 ·
  have hfo:=hxr.first (P:=P) (w2:=w.drew) rfl
  have h63':¬(9223372036854775807<((len:Int)+(ly:Int))):=F0
  have hbb:(len+ly)*ti.bytes<=140737488355328:=by
   have:=P8 hlim hby;omega
  have h48':¬(281474976710656<Builtin.nextslicecap (len+ly) cap*ti.bytes):=by
   have:=nQ (by omega:cap<len+ly) hbb;omega
  have hge:len+ly<=grownCap w (len+ly) cap e:=by simp[grownCap,Question.cut]
  refine⟨.slice (some ⟨w.heap.size,0,none⟩) (len+ly) (grownCap w (len+ly) cap e),
   Jd w.drew (.cells (cs++ys++(Builtin.zeroCells z.cells (grownCap w (len+ly) cap e-(len+ly))).toList).toArray e),?_,?_⟩
  ·have harr:∀(a b:List Value) (zz:Array Value),(a++b++zz.toList).toArray=a.toArray++(b.toArray++zz):=λa b zz=>by
    apply ZH;simp
   rw[harr];have h00:¬(ly*ti.size=0):=λh=>by have hpp:=he.pos;rcases Nat.mul_eq_zero.1 h with h|h<;>omega
   simp[Builtin.append_,A_ ht,A_ ht2,sizeOf,typeInfo,zeroValue,hi,hz,asInt,asIntOf,(by decide:IntKind.i64.wrap 0=0),hw64,hneg,hb48,hroom,h63',h48',Question.forced,hfo,newRow,newObj,grownCap,h00,<-hyz];simp only[Sem.run,B8];simp[Jd]
  ·refine hs.dN.vC hL ⟨_,len+ly,_,rfl,by rw[A?,B5];omega,hge,F8,F8,λb hb=>?_⟩;cases hb;refine⟨_,(0,0),rfl,Uq _ _,?_, .inl rfl,λj hj=>?_⟩
   ·have:(Builtin.zeroCells z.cells (grownCap w (len+ly) cap e-(len+ly))).size=(grownCap w (len+ly) cap e-(len+ly))*ti.size:=by simp[Builtin.zeroCells,hzs]
    simp only[T?,A?,YZ,this,h2,Z3,VP];have:=C2 ti.size hge;rw[B5]at this⊢;omega
   ·rw[B5]at hj;simp only[VZ];rw[I9 F5]
end Go.Lv
namespace Go.Lv
variable{x y:Operand}{vx vy v:Value}
variable {P:Program} {n:Nat} {ops:Array Oper} {rest:List Oper} {K:Env->World->Prop} {σ:Env} {w:World}
variable {d:Nat} {ty:TypeId} {pos:String} {after:Array Edge} {A:Reg} {F:List Fact} {L:List Mob}
theorem WL.Ahs{t t2 e:TypeId}{s i lx ly:Nat}{cs ys:List Value}{L':Option Addr->Nat->Nat->List Mob}(ht:P.underlying t=some (.slice e))(he:ElemOk P e s)
  (hs:St A w F L) (hL:L[i]? =some (.own s e vx cs)) (hd:Nat.blt d n=true) (hx:ev σ x=vx) (hy:ev σ y=vy) (hsrc:Src P w t2 vy s ly ys) (h1:ys.all (·.oneCell')=true)
  (hlx:cs.length=lx*s) (Z3:ys.length=ly*s) (hlim:lx+ly<=wo) (hL':∀p l c,L.set i (.own s e (.slice p l c) (cs++ys))=L' p l c) (h:∀p l c w',St A w' F (L' p l c)->WL P n ops rest K (Mr σ d (.slice p l c)) w'):
  WL P n ops (⟨some d, .call ⟨.builtin .append, #[x,y], #[t,t2]⟩,ty,pos,after,none⟩::rest) K σ w:=by
 obtain⟨v',w',hr,hs'⟩:=pK (P:=P) (ty:=ty) (x:=x) (y:=y) ht he hs hL hsrc h1 hlx Z3 hlim;obtain⟨p,l,c,rfl⟩:∃p l c,v'= .slice p l c:=by
  have hlt:i<L.length:=(List.getElem?_eq_some_iff.1 hL).1;obtain⟨o,ho⟩:=Cu.mem (A:=A) hs'.mobs (show(L.set i (.own s e v' (cs++ys)))[i]? =some (.own s e v' (cs++ys)) by simp[hlt]);obtain⟨p,l,c,h,_⟩:=ho;exact⟨p,l,c,h⟩
 refine .val rfl rfl hd (v:= .slice p l c) (w':=w') ?_ (h p l c w' (hL' p l c▸hs'));simp[execOp,resolve,invoke,builtin,hx,hy,hr]
theorem WL.append{t t2 e:TypeId}{s i lx ly:Nat}{cs ys:List Value}{L':Option Addr->Nat->Nat->List Mob}(ht:P.underlying t=some (.slice e))(ht2:∃e2,P.underlying t2=some (.slice e2))(he:ElemOk P e s)
  (hs:St A w F L) (hL:L[i]? =some (.own s e vx cs)) (hd:Nat.blt d n=true) (hx:ev σ x=vx) (hy:ev σ y=vy) (hyr:Rd (λ_=>True) w s vy ys) (h1:ys.all (·.oneCell')=true)
  (hlx:cs.length=lx*s) (Z3:ys.length=ly*s) (hlim:lx+ly<=wo) (hL':∀p l c,L.set i (.own s e (.slice p l c) (cs++ys))=L' p l c) (h:∀p l c w',St A w' F (L' p l c)->WL P n ops rest K (Mr σ d (.slice p l c)) w'):
  WL P n ops (⟨some d, .call ⟨.builtin .append, #[x,y], #[t,t2]⟩,ty,pos,after,none⟩::rest) K σ w:=
 WL.Ahs ht he hs hL hd hx hy (Src.slice ht2 hyr Z3 he.pos) h1 hlx Z3 hlim hL' h
theorem St.freeze(hs:St A w F L){i s:Nat}{E:TypeId}{cs:List Value}{L':List Mob}(hL:L[i]? =some (.own s E v cs))(hL':L.eraseIdx i=L')(R:Reg)(hR:∀b,¬A b->R b):
  ∃A',(∀b,A b->A' b)/\St A' w (.rd R s v cs::F) L':=by
 subst hL';obtain⟨o,ho,h3,h4⟩:=(hs.front hL).mobs;have hrd:=Go.Lv.Pf ho;refine⟨λb=>A b\/o=some b,λ_ h=> .inl h,λb hb=>hb.elim (hs.lt b) (λh=>(h3 b h).2),λf hf=>?_,h4⟩;cases hf with
 |head=>exact hrd.step (λb hb=>⟨.inr hb,hR b (h3 b hb).1⟩) (λ_ _=>rfl)
 |tail _ hf=>exact f.step (hs.facts f hf) (λ_ h=> .inl h) (λ_ _=>rfl) (.refl _)
theorem St.d_(hs:St A w F L)(s:Nat)(E:TypeId):St A w F (.own s E (.slice none 0 0) []::L):=
 ⟨hs.lt,hs.facts,none,⟨none,0,0,rfl,F8,C4 _,λ_=>rfl,λ_=>rfl,λb hb=>by cases hb⟩,(λb hb=>by cases hb),hs.mobs.Ii (λb hb=>hb.elim id (λh=>by cases h))⟩
theorem St.jo(hs:St A w F L){R:Reg}{s:Nat}{cs:List Value}(h:Rd (λb=>A b/\R b) w s v cs):St A w (.rd R s v cs::F) L:=hs.qP h
theorem Abo(acc:List Value)(off:Nat):Bk acc off []=acc:=by simp[Bk]
theorem jA(off:Nat):∀(cs:List Value) (j:Nat) (acc:List Value),off+j+cs.length<=acc.length->
  (cs.zipIdx j).foldl (λ(a:Array Value) (p:Value×Nat)=>a.setIfInBounds (off+p.2) p.1) acc.toArray=(Bk acc (off+j) cs).toArray
 |[],j,acc,_=>by simp[Abo]
 |c::cs,j,acc,h=>by
  simp only[B6]at h;simp only[ng,List.foldl_cons];rw[List.setIfInBounds_toArray];have:=jA off cs (j+1) (acc.set (off+j) c) F5;rw[this,<-K7,Avg F5]
theorem F? (s:Nat):∀(vs:List Value) (k:Nat) (acc:List Value),(∀v∈vs,v.cells.size=s)->acc.length=(k+vs.length)*s->
  Instr.fill (λi=>some (i*s,s)) acc.toArray ((vs.zipIdx k).map λp=>(p.2,p.1))=some (acc.take (k*s)++(vs.map (·.cells.toList)).flatten).toArray
 |[],k,acc,_,hl=>by
  have:acc.take (k*s)=acc:=J0 (by simp at hl;omega);simp[Instr.fill,this]
 |v::vs,k,acc,hv,hl=>by
  have h1:=hv v (.head _);have hl':acc.length=k*s+s+vs.length*s:=by rw[hl,B6,B5,B5];omega
  have hf:=jA (k*s) v.cells.toList 0 acc F5;have jy:v.cells.zipIdx.foldl (λcs (x:Value×Nat)=>cs.setIfInBounds (k*s+x.2) x.1) acc.toArray=(Bk acc (k*s) v.cells.toList).toArray:=by
   rw[<-Array.foldl_toList,Array.toList_zipIdx];simpa using hf
  have hrec:=F? s vs (k+1) (Bk acc (k*s) v.cells.toList) (λu hu=>hv u (.tail _ hu)) (by rw[Fw F5,hl,B6];congr 1;omega);simp only[ng,IZ,Instr.fill];have hc:(decide (v.cells.size≠s)||decide (k*s+v.cells.size>acc.toArray.size))=false:=by simp;omega
  rw[A4 (by rw[hc];simp)]
  show Instr.fill _ (v.cells.zipIdx.foldl (λcs (x:Value×Nat)=>cs.setIfInBounds (k*s+x.2) x.1) acc.toArray) _=_;rw[jy,hrec];congr 2;have e1:(k+1)*s=k*s+v.cells.toList.length:=by rw[VG];simp[h1]
  rw[e1,VL,<-C0];congr 1;simp only[Bk];rw[<-C0,VI F5,J0 F5]
theorem Agq(z:Array Value)(m:Nat):∃zs:List Value,((Array.range m).map λx=>z[x %z.size]!)=zs.toArray/\zs.length=m:=
 ⟨((Array.range m).map λx=>z[x %z.size]!).toList,by rw[Array.toArray_toList],F8⟩
theorem WL.buildSlice{t e:TypeId}{len s:Nat}{parts:List (Nat×Operand)}{vs cells:List Value}(ht:P.underlying t=some (.slice e))(he:ElemOk P e s)(hs:St A w F L)(hd:Nat.blt d n=true)
  (hp:(parts.map λp=>(p.1,ev σ p.2))=(vs.zipIdx 0).map λp=>(p.2,p.1)) (hl:vs.length=len) (hlen:Nat.ble (len*s) 4096=true) (h1:∀v∈vs,v.cells.size=s)
  (hcells:(vs.map (·.cells.toList)).flatten=cells)
  (h:∀p l c w',St A w' F (.own s e (.slice p l c) cells::L)->WL P n ops rest K (Mr σ d (.slice p l c)) w'):
  WL P n ops (⟨some d, .buildSlice t len parts.toArray,ty,pos,after,none⟩::rest) K σ w:=by
 subst hl;have hlen':vs.length*s<=4096:=by simpa using hlen
 obtain⟨ti,z,hi,hsz,hz,hzs,hby⟩:=he.ok;have hcl:cells.length=vs.length*s:=by
  rw[<-hcells];clear hp h hcells hlen hlen'
  induction vs with
  |nil=>simp
  |cons v vs ih=>
   simp only[IZ,VL,A?,B6,YZ];rw[ih (λu hu=>h1 u (.tail _ hu)),h1 v (.head _),VG];omega
 have hrun:(newRow e cells.toArray).run P w= .ok ⟨w.heap.size,0,none⟩ (Jd w (.cells cells.toArray e)):=rfl;have hfz:∀z0:Array Value,Instr.fill (λi=>some (i*s,s)) (Array.map (λx=>z0[x %z0.size]!) (Array.range (vs.length*s))) ((vs.zipIdx 0).map λp=>(p.2,p.1))=some cells.toArray:=λz0=>by
  obtain⟨zs,Ba5,Ba6⟩:=Agq z0 (vs.length*s);have hf:=F? s vs 0 zs h1 (by rw[Ba6];simp);simp only[Xn,Ty,O7,hcells]at hf;rw[Ba5,hf]
 have hzv:(zeroValue e).run P w= .ok z w:=by simp[zeroValue,typeInfo,hi,hz]
 refine .val rfl rfl hd (v:= .slice (some ⟨w.heap.size,0,none⟩) vs.length vs.length) (w':=Jd w (.cells cells.toArray e)) ?_ (h _ _ _ _ (hs.wQ _ _ ⟨_,vs.length,vs.length,rfl,hcl,C4 _,F8,F8,λb hb=>?_⟩))
 ·simp only[execOp,Instr.buildSlice,C1,A_ ht,B8,Ca he.size];rw[A4 F0];have hp2:(Array.map (λ(x:Nat×Operand)=>(x.1,ev σ x.2)) parts.toArray).toList=(vs.zipIdx 0).map λp=>(p.2,p.1):=by rw[List.map_toArray,hp]
  rw[hp2];split<;>simp only[C1,I7,hzv,B8,hfz,hrun]
 ·cases hb;exact⟨cells.toArray,(0,0),rfl,Uq _ _,by simpa using hcl, .inl rfl,λi hi=>by simp⟩
end Go.Lv
namespace Go.Lv
variable{a:Act}{fn:Func}{v:Value}
variable {P:Program} {n:Nat} {ops:Array Oper} {rest:List Oper} {K:Env->World->Prop} {σ:Env} {w:World}
variable {d:Nat} {ty:TypeId} {pos:String} {after:Array Edge} {A:Reg} {F:List Fact} {L:List Mob}
def QW(l:List Value):Env:=λt=>l.getD t undef
def TI(P:Program)(σ:Env)(w:World):ResultVar->Value->Prop
 | .tmp t,v=>σ t=v
 | .cell a t,v=>∃ad,σ a= .pointer (some ad)/\ (loadVar t ad).run P w= .ok v w
def bA(P:Program)(σ:Env)(w:World):List ResultVar->List Value->Prop
 |[],[]=>True
 |r::rs,v::vs=>TI P σ w r v/\bA P σ w rs vs
 |_,_=>False
def GB(vs:List Value):Value:=match vs with|[v]=>v|_=> .tuple vs.toArray
def K8(tmps:Array Value):ResultVar->Sem Value
 | .tmp t=>pure (tmps.getD t undef)
 | .cell a t=>do loadVar t (<-asAddr (tmps.getD a undef))
theorem Ac7{ds:List Deferred}{r:ResultVar}(ha:Fits ds n a σ)(h:TI P σ w r v):(K8 a.tmps r).run P w= .ok v w:=by
 cases r with
 |tmp t=>
  simp only[TI]at h;simp only[K8,ha.get,h,I7]
 |cell ad t=>
  obtain⟨x,h4,h5⟩:=h;simp only[K8,ha.get,h4,asAddr,C1,I7,B8,h5]
theorem N7{ds:List Deferred}{a:Act}(ha:Fits ds n a σ):∀(rs:List ResultVar) (vs:List Value),bA P σ w rs vs-> (rs.mapM (K8 a.tmps)).run P w= .ok vs w
 |[],[],_=>rfl
 |[],_::_,h=>h.elim
 |_::_,[],h=>h.elim
 |r::rs,v::vs,⟨h1,h2⟩=>by
  have h3:=N7 ha rs vs h2;simp only[List.mapM_cons,C1,Ac7 ha h1,B8,h3,I7]
theorem Zv{rs:List ResultVar}{ds:List Deferred}{vs:List Value}(hr:fn.results=rs.toArray)(ha:Fits ds n a σ)(h:bA P σ w rs vs):
  (results fn a.tmps).run P w= .ok (GB vs) w:=by
 have hk:=N7 ha rs vs h;have e:results fn a.tmps=(do let vs<-fn.results.mapM (K8 a.tmps);pure (if h:vs.size=1 then vs[0]else .tuple vs)):=rfl;rw[e,hr,List.mapM_toArray];simp only[C1,map_eq_pure_bind,I7,B8,hk];congr 1
 match vs with
 |[]=>rfl
 |[v]=>rfl
 |a::b::r=>simp[GB]
theorem S4{f:FuncId}{c:Code}{rs:List ResultVar}{vs:List Value}{R:Ending->World->Prop}(hf:P.funcs[f]? =some fn)(hb:fn.body=some c)(hn:fn.ntmps=n)(hr:fn.results=rs.toArray)
  (hle:Nat.ble vs.length n=true)
  (h:W P n c (λe σ' w'=>(e= .ret\/e= .normal)/\∃us,bA P σ' w' rs us/\R (.returned (GB us)) w') (QW vs) w):Calls P f vs.toArray w R:=by
 subst hn;have hle':vs.length<=fn.ntmps:=by simpa using hle
 refine calls_of_wp hf hb (wp_mono (h.wp ⟨by simp;omega,rfl,λt=>?_⟩) ?_)
 ·simp only[QW,Sm,B4,Array.getElem?_append,T?,VZ];by_cases ht:t<vs.length
  ·simp[ht]
  ·rw[A4 ht,Vx F0];by_cases h2:t-vs.length<fn.ntmps-vs.length
   ·simp[eS,h2]
   ·simp[eS,h2]
 ·rintro e a' w' ⟨σ',hf',hh,us,h1,h2⟩;have hres:=Zv (P:=P) (w:=w') hr hf' h1;rcases hh with rfl|rfl<;>exact⟨hf'.defers,_,hres,h2⟩
theorem St.start(w:World):St (λb=>b<w.heap.size) w [.old (λ_=>False) w] []:=by
 refine⟨λ_ h=>h,λf hf=>?_,trivial⟩;cases hf with
 |head=>exact⟨.refl _,λb hb _=>⟨hb,rfl⟩⟩
 |tail _ h=>cases h
theorem Rd.start{R:Reg}{s:Nat}{cs:List Value}(h:Rd R w s v cs):Rd (λb=>b<w.heap.size/\R b) w s v cs:=by
 obtain⟨p,len,cap,h1,h2,h3,h4,h5⟩:=h;refine⟨p,len,cap,h1,h2,h3,h4,λhc=>?_⟩;obtain⟨b,off,arr,T,fr,e1,e2,e3,e4⟩:=h5 hc;exact⟨b,off,arr,T,fr,e1,⟨lt_of_heap e3,e2⟩,e3,e4⟩
def New(w0:World):Reg:=λb=>w0.heap.size<=b
theorem St.Asv(hs:St A w F L){w0:World}{i:Nat}(hF:F[i]? =some (.old (λ_=>False) w0)):Keep w0 w:=by
 obtain⟨h1,h2⟩:=hs.fact i hF;exact⟨λb hb=>(h2 b hb (λh=>h)).2,h1⟩
theorem St.fr(hs:St A w F L){w0:World}{i:Nat}(hF:F[i]? =some (.old (λ_=>False) w0)){F1:List Fact}{L1:List Mob}
  (hF1:∀A1:Reg,(∀b,A1 b↔A b/\w0.heap.size<=b)->∀f∈F1,f.holds A1 w) (hL:L1.length<=L.length) (hL1:L.take L1.length=L1):Fr w0 w F1 L1:=by
 obtain⟨h1,h2⟩:=hs.fact i hF;refine⟨hs.Asv hF,λb=>A b/\w0.heap.size<=b,λb hb=>⟨hb.2,hs.lt b hb.1⟩,hF1 _ (λ_=>XB),?_⟩;have key:∀(L1 L:List Mob) (A:Reg),L.take L1.length=L1->Cu w A L->Cu w A L1:=by
  intro L1
  induction L1 with
  |nil=>intro _ _ _ _;trivial
  |cons m L1 ih=>
   intro L A he hm;cases L with
   |nil=>simp at he
   |cons m' L=>
    simp only[B6,nN,W9]at he;obtain⟨rfl,he⟩:=he;obtain⟨o,h1,h2,h3⟩:=hm;exact⟨o,h1,h2,ih L _ he h3⟩
 refine(key L1 L A hL1 hs.mobs).Ii ?_;rintro b (h|h)
 ·exact h.1
 ·exact(h2 b h (λh=>h)).1
end Go.Lv
namespace Go.Lv
variable{x:Operand}{v:Value}
variable {P:Program} {n:Nat} {ops:Array Oper} {rest:List Oper} {K:Env->World->Prop} {σ:Env} {w:World}
variable {d:Nat} {ty:TypeId} {pos:String} {after:Array Edge} {A:Reg} {F:List Fact} {L:List Mob}
@[reducible] def We {T:Type} {k:IntKind} [GI T k] (l:List T):List Value:=l.map iv
theorem dV(b:UInt8):iv b= .int .u8 (b.toNat:Int):=rfl
theorem X.b2s{s t e:TypeId}{R:Reg}{l:List UInt8}(hs':P.underlying s=some (.slice e))(he:P.underlying e=some (.int .u8))(ht:P.underlying t=some .string)
  (hr:Rd R w 1 v (We l)) (hx:ev σ x=v):XO P σ w (.convert s t x) (sv l):=λ_ _ _ _ _=>by
 obtain⟨p,len,cap,rfl,h2,h3,h4,h5⟩:=hr;have hlen:l.length=len:=by simpa [We]using h2
 subst hlen;have hrun:(convert s t (.slice p l.length cap)).run P w= .ok (sv l) w:=by
  cases p with
  |none=>
   have:=h4 rfl;have:l=[]:=VT F0;subst this;rw[run_convert_bytes_string w s t e none _ _ hs' he ht];rfl
  |some a=>
   refine run_convert_bytes_back w s t e a cap l hs' he ht (λj hj=>?_);obtain⟨b,off,arr,T,fr,e1,_,e2,_,e3⟩:=h5 F0;cases e1;rw[Lb,cell_of e2,e3 j F0];simp[We,hj,dV]
 simp only[execOp,hx,C1,hrun,B8,I7]
theorem WL.s2b{s t e:TypeId}{l:List UInt8}(hs':P.underlying s=some .string)(ht:P.underlying t=some (.slice e))(he:P.underlying e=some (.int .u8))(hs:St A w F L)
  (hd:Nat.blt d n=true) (hx:ev σ x=sv l) (h:∀p m c w',St A w' F (.own 1 e (.slice p m c) (We l)::L)->WL P n ops rest K (Mr σ d (.slice p m c)) w'):
  WL P n ops (⟨some d, .convert s t x,ty,pos,after,none⟩::rest) K σ w:=by
 have hr:=run_bytes_of_string (P:=P) w s t e ⟨l.toArray⟩ hs' ht he;have hsz:(⟨l.toArray⟩:ByteArray).size=l.length:=by simp[ByteArray.size]
 have hge:l.length<=grownCap w (⟨l.toArray⟩:ByteArray).size 0 e:=by rw[hsz];simp[grownCap,Question.cut]
 generalize hcap:grownCap w (⟨l.toArray⟩:ByteArray).size 0 e=cap at hr hge;have hw:(w.drew.alloc (.cells (bytesRow ⟨l.toArray⟩ cap) e ((bytesRow ⟨l.toArray⟩ cap).size,(bytesRow ⟨l.toArray⟩ cap).size+1)))=Jd w.drew (.cells (bytesRow ⟨l.toArray⟩ cap) e ((bytesRow ⟨l.toArray⟩ cap).size,(bytesRow ⟨l.toArray⟩ cap).size+1)):=rfl;rw[hw]at hr;refine .val rfl rfl hd (v:= .slice (some ⟨w.heap.size,0,none⟩) l.length cap) (w':=Jd w.drew (.cells (bytesRow ⟨l.toArray⟩ cap) e ((bytesRow ⟨l.toArray⟩ cap).size,(bytesRow ⟨l.toArray⟩ cap).size+1))) ?_ (h _ _ _ _ (hs.dN.wQ _ _ ⟨_,l.length,cap,rfl,by simp[We],hge,F8,F8,λb hb=>?_⟩))
 ·rw[hsz]at hr;simp only[execOp,hx,C1,hr,B8,I7]
 ·cases hb;refine⟨_,_,rfl,Uq _ _,?_, .inr (C4 _),λi hi=>?_⟩
  ·simp[bytesRow];omega
  ·have hi':i<l.length:=F0
   simp only[bytesRow];rw[Array.getElem?_append_left F5];simp[We,hi',dV]
def Mob.at_(b s:Nat)(E:TypeId)(m c:Nat)(cs:List Value):Mob where
 holds o w:=o=some b/\ (Mob.own s E (.slice (some ⟨b,0,none⟩) m c) cs).holds o w
 step h hs:=⟨h.1,(Mob.own s E _ cs).step h.2 hs⟩
theorem St.C_(hs:St A w F L){i s:Nat}{E:TypeId}{cs:List Value}(hL:L[i]? =some (.own s E v cs))(hne:0<cs.length):
  ∃b m c,v= .slice (some ⟨b,0,none⟩) m c/\St A w F (L.set i (.at_ b s E m c cs)):=by
 obtain⟨o,⟨p,len,cap,rfl,h2,h3,h4,h5,h6⟩,_,_⟩:=(hs.front hL).mobs;have hlen:0<len:=by
  rcases a! len with h|h
  ·rw[h,Xn]at h2;omega
  ·exact h
 cases o with
 |none=>have:=h4 (h5 rfl);omega
 |some b=>
  obtain⟨arr,fr,rfl,_⟩:=h6 b rfl;refine⟨b,len,cap,rfl,hs.Anf hL (λq hq=>⟨q,?_, .inl rfl⟩)⟩;refine⟨?_,hq⟩;obtain⟨_,_,_,e,_,_,k4,k5,k6⟩:=hq;cases e;cases q with
  |none=>exact absurd (k5 rfl) F8
  |some b'=>obtain⟨_,_,e,_⟩:=k6 b' rfl;cases e;rfl
theorem St.yX(hs:St A w F L){i b s m c:Nat}{E:TypeId}{cs:List Value}(hL:L[i]? =some (.at_ b s E m c cs)):St A w F (L.set i (.own s E (.slice (some ⟨b,0,none⟩) m c) cs)):=
 hs.Anf hL (λq hq=>⟨q,hq.2, .inl rfl⟩)
theorem WL.Alf{a:Operand}{t E:TypeId}{s j b m c k q:Nat}{cs cs' vs:List Value}{L':List Mob}(hs:St A w F L)(hL:L[j]? =some (.at_ b s E m c cs))(hsz:Im P t q)
  (ha:ev σ a= .pointer (some ⟨b,k,none⟩)) (hx:ev σ x=v) (hv:v.cells=vs.toArray) (hl:vs.length=q) (h1:vs.all (·.oneCell')=true) (hle:k+q<=cs.length)
  (hc:Bk cs k vs=cs') (hL':L.set j (.at_ b s E m c cs')=L') (h:∀w',St A w' F L'->WL P n ops rest K σ w'):
  WL P n ops (⟨none, .store t a x,ty,pos,after,none⟩::rest) K σ w:=by
 obtain⟨o,ho,_,_⟩:=(hs.front hL).mobs;obtain⟨rfl,ho⟩:=ho;have ho':=ho;obtain⟨_,len,cap,e,h3,h4,h5,h5',h6⟩:=ho;cases e;obtain⟨arr,fr,e,hb,hsz',hfz,hcells⟩:=h6 b rfl;have hcl:cs.length<=arr.size:=by rw[h3,hsz'];exact C2 _ h4
 have hr:=Hb (P:=P) b E fr vs k 0 arr.toList w (by simpa using hb) F5 (by simp;rcases hfz with h|h;exact .inr (.inr (ZD h.symm));exact .inr (.inl h)) (λv hv=>by simpa using List.all_eq_true.1 h1 v hv);simp only[SJ]at hr;have hbl:=lt_of_heap hb;have hcs':cs'.length=cs.length:=by rw[<-hc];exact Fw F0
 have hget:∀i,i<m*s-> (Bk arr.toList k vs)[i]? =cs'[i]? :=λi hi=>by
  rw[<-hc];have k!:min k arr.toList.length=k:=by simp;omega
  have jq:min k cs.length=k:=F0
  simp only[Bk,aD,HH,k!,jq,SI,VA];by_cases h1:i<k
  ·rw[A7 h1,A7 h1,A7 h1,A7 h1];simpa using hcells i hi
  ·rw[A4 h1,A4 h1];by_cases h2:i-k<vs.length
   ·rw[A7 h2,A7 h2]
   ·rw[A4 h2,A4 h2];have e1:k+vs.length+(i-k-vs.length)=i:=F0
    rw[e1];simpa using hcells i hi
 refine .unit rfl rfl (w':=Ec w b (.cells (Bk arr.toList k vs).toArray E fr)) ?_ (h _ (hL'▸hs.jC hL (b:=b) ⟨rfl,ho'⟩ ⟨rfl,_,m,c,rfl,by rw[hcs',h3],h4,h5,h5',λb' hb'=>?_⟩ ?_))
 ·simp[execOp,ha,hx,Instr.storeAt,Instr.sureAddr,storeVar,Ca hsz,hv,hl,hr]
 ·cases hb';refine⟨(Bk arr.toList k vs).toArray,fr,rfl,by simp[Ec,hbl],?_,?_,λi hi=>?_⟩
  ·simp only[T?];rw[Fw F5];simpa using hsz'
  ·simp only[T?];rw[Fw F5];simpa using hfz
  ·simpa using hget i hi
 ·rintro⟨q,hq,q1,q2⟩;exact⟨q,hq,q1,q2,hq.1⟩
theorem S5(zs:List Value)(s:Nat)(hz:zs.length=s)(hp:0<s):∀(m i:Nat),i<m*s-> ((List.replicate m zs).flatten)[i]? =zs[i %s]?
 |0,i,h=>by simp at h
 |m+1,i,h=>by
  rw[V9,VL,aD];by_cases hi:i<zs.length
  ·rw[A7 hi,B3 F0]
  ·rw[A4 hi,hz,S5 zs s hz hp m (i-s) (by rw[VG]at h;omega)];congr 1
   conv=>rhs;rw[show i=(i-s)+s by omega,nW]
theorem WL.makeSlice{t e:TypeId}{lo co:Operand}{s m:Nat}{z:Value}{zs:List Value}(ht:P.underlying t=some (.slice e))(he:ElemOk P e s)(hz:∃i,P.info? e=some i/\i.zero=some z)(hzs:z.cells=zs.toArray)(hs:St A w F L)
  (hd:Nat.blt d n=true) (hl:ev σ lo=iv (m:Int)) (hc:ev σ co=iv (m:Int)) (hlim:m<=wo) (h:∀p l c w',St A w' F (.own s e (.slice p l c) ((List.replicate m zs).flatten)::L)->WL P n ops rest K (Mr σ d (.slice p l c)) w'):
  WL P n ops (⟨some d, .makeSlice t lo co,ty,pos,after,none⟩::rest) K σ w:=by
 obtain⟨ti,hi,hz⟩:=hz;obtain⟨ti',z',hi',hsz,hz',hzz,hby⟩:=he.ok;rw[hi]at hi';cases hi';rw[hz]at hz';cases hz';have hzl:zs.length=s:=by have:=congrArg Array.size hzs;simp at this;omega
 have XQ:wo=17179869184:=rfl;rw[XQ]at hlim;have hmb:m*ti.bytes<=70368744177664:=by have:=P8 hlim hby;omega
 have hw:IntKind.i64.wrap (m:Int)=m:=by
  have:=Df (n:=(m:Int)) F0 F0;exact this
 have hcells:∀z0:Array Value,(z0=zs.toArray\/m*s=0)-> ((Array.range (m*s)).map λx=>z0[x %z0.size]!)=((List.replicate m zs).flatten).toArray:=by
  intro z0 h0;apply ZH;apply Z2;intro i;simp only[Array.toList_map,Array.toList_range,V?];by_cases hi:i<m*s
  ·rcases h0 with rfl|h0
   ·rw[S5 zs s hzl he.pos m i hi,List.getElem?_range hi];have:i %s<zs.length:=by rw[hzl];exact Sf _ he.pos
    rw[C? this];simp[hzl,C? this]
   ·omega
  ·have e1:((List.replicate m zs).flatten).length=m*s:=by simp[hzl]
   rw[Vx (by simpa using hi),Vx (by rw[e1];omega)];rfl
 have e1:((List.replicate m zs).flatten).length=m*s:=by simp[hzl]
 have hzv:(zeroValue e).run P w= .ok z w:=by simp[zeroValue,typeInfo,hi,hz]
 have hsz':=Ca (P:=P) he.size w;have hti:(typeInfo e).run P w= .ok ti w:=by simp[typeInfo,hi]
 have Ba7:∀b:Nat,(askRoom b).run P w= .ok () w:=λb=>by unfold askRoom;split<;>rfl
 have hrun:(newRow e ((List.replicate m zs).flatten).toArray).run P w= .ok ⟨w.heap.size,0,none⟩ (Jd w (.cells ((List.replicate m zs).flatten).toArray e)):=rfl;refine .val rfl rfl hd (v:= .slice (some ⟨w.heap.size,0,none⟩) m m) (w':=Jd w (.cells ((List.replicate m zs).flatten).toArray e)) ?_ (h _ _ _ _ (hs.wQ _ _ ⟨_,m,m,rfl,e1,C4 _,F8,F8,λb hb=>?_⟩))
 ·have c1:(decide ((m:Int)<0)||decide ((ti.bytes:Int)*m>2^48))=false:=by
   have h3:(ti.bytes:Int)*m<=70368744177664:=by
    have h:=Int.ofNat_le.2 hmb;rw[U1,Int.mul_comm]at h;exact h
   have h4:¬((m:Int)<0):=F0
   have h5:¬((ti.bytes:Int)*m>2^48):=by
    have:(2:Int)^48=281474976710656:=rfl;rw[this];omega
   rw[b? h4,b? h5];rfl
  simp only[execOp,Instr.makeSlice,hl,hc,iv,GI.toZ,C1,A_ ht,B8,asInt,asIntOf,I7,hti,hw,c1];simp only[Bool.false_or,nR,Xd,SN,R8];rw[A4 F8];simp only[C1,Ba7,B8,hsz',C'];split
  ·rename_i h0;simp only[C1,I7,B8,hcells #[] (.inr h0),hrun]
  ·simp only[C1,I7,hzv,B8,hzs,hcells zs.toArray (.inl rfl),hrun]
 ·cases hb;exact⟨_,(0,0),rfl,Uq _ _,by simpa using e1, .inl rfl,λi hi=>by simp⟩
end Go.Lv
namespace Go.Lv
variable{op:Op}{pos:String}{ty:TypeId}{v:Value}
variable {P:Program} {n:Nat} {ops:Array Oper} {σ:Env} {w:World}
section
variable {Q:Exit->Act->World->Prop} {md:Region.Mode} {S:World->Prop} {T:Nat->Bool}
def bF(P:Program)(md:Region.Mode)(ops:Array Oper)(Q:Exit->Act->World->Prop)(S:World->Prop)(T:Nat->Bool):Nat->Array Bool->Act->World->Prop
 |0,listed,a,w=>Region.ready md ops listed=[]/\Q .normal a w
 |fuel+1,listed,a,w=>
  (Region.ready md ops listed=[]->Q .normal a w)/\
  ∀i∈Region.ready md ops listed,wpOp P ops Q i (λa' w'=>(T i=true->S w')/\bF P md ops Q S T fuel (listed.setIfInBounds i true) a' w') a w
theorem Abs:∀(fuel:Nat) (listed:Array Bool) (a:Act) (w:World),bF P md ops Q S T fuel listed a w->wpAny P md ops Q fuel listed a w
 |0,_,_,_,h=>h
 |fuel+1,_,_,_,h=>⟨h.1,λi hi=>wpOp_mono (λa' w' h'=>Abs fuel _ a' w' h'.2) (h.2 i hi)⟩
def M5(md:Region.Mode)(ops:Array Oper)(listed:Array Bool)(i j:Nat)(acc:List Nat):Bool:=
 !(listed.getD j true)&&(!(Nat.beq j i)&&(match ops[j]? with
  |some oj=>oj.after.any λe=>Region.binds md e&&(Nat.beq e.on i||acc.any (Nat.beq e.on))
  |none=>false))
def vo(md:Region.Mode)(ops:Array Oper)(listed:Array Bool)(i:Nat)(k:List Nat->Bool):List Nat->List Nat->Bool
 |[],acc=>k acc
 |j::js,acc=>bif M5 md ops listed i j acc then vo md ops listed i k js (j::acc)else vo md ops listed i k js acc
def Blk(md:Region.Mode)(ops:Array Oper)(listed:Array Bool)(i:Nat)(B:List Nat):Prop:=
 ∀j∈B,listed.getD j true=false/\∃oj,ops[j]? =some oj/\∃e∈oj.after,Region.binds md e=true/\ (e.on=i\/e.on∈B)
theorem yx{listed:Array Bool}{i:Nat}{k:List Nat->Bool}:∀(js acc:List Nat),Blk md ops listed i acc->vo md ops listed i k js acc=true->∃B,Blk md ops listed i B/\k B=true
 |[],acc,h,hk=>⟨acc,h,hk⟩
 |j::js,acc,h,hk=>by
  unfold vo at hk;cases hc:M5 md ops listed i j acc with
  |false=>rw[hc]at hk;exact yx js acc h hk
  |true=>
   rw[hc]at hk;refine yx js _ ?_ hk;unfold M5 at hc;simp only[A9,O1]at hc;obtain⟨h1,h2,h3⟩:=hc;intro m hm;have hmon:∀{e:Edge},(e.on=i\/e.on∈acc)-> (e.on=i\/e.on∈j::acc):=λh=>h.imp id (λh=>H9 _ h);rcases List.mem_cons.1 hm with rfl|hm
   ·refine⟨h1,?_⟩;cases ho:ops[m]? with
    |none=>rw[ho]at h3;cases h3
    |some oj=>
     rw[ho]at h3;obtain⟨e,he,hb⟩:=Array.any_eq_true'.1 h3;simp only[A9,R!,List.any_eq_true]at hb;refine⟨oj,rfl,e,he,hb.1,hmon (hb.2.imp S2 ?_)⟩;rintro⟨y,hy,he⟩;rw[S2 he];exact hy
   ·obtain⟨h4,oj,h5,e,he,hb,hx⟩:=h m hm;exact⟨h4,oj,h5,e,he,hb,hmon hx⟩
theorem Blk.Aip{listed:Array Bool}{i j:Nat}{B:List Nat}(h:Blk md ops listed i B)(hi:listed.getD i true=false)(hj:j∈Region.ready md ops listed):j∉B:=λhm=>by
 obtain⟨hjun,oj,hoj,hall⟩:=mem_ready.1 hj;obtain⟨_,oj',hoj',e,he,hb,hx⟩:=h j hm;rw[hoj]at hoj';cases hoj';have h0:listed.getD e.on true=false:=by
  rcases hx with hx|hx
  ·rw[hx];exact hi
  ·exact(h _ hx).1
 have h1:=hall e he hb;rcases VE e.on listed.size with h'|h'
 ·simp[h']at h0 h1;rw[h0]at h1;cases h1
 ·simp[eP h']at h1
theorem aJ{i:Nat}{oi:Oper}{B:List Nat}(hi:ops[i]? =some oi)(hsel:∀(j:Nat) (o:Oper) cs b,ops[j]? =some o->o.op≠ .select cs b)
  (hQ:∀c a w,Q (.panic c) (a.put oi.dst v) w->Q (.panic c) a w):
  ∀(fuel:Nat) (listed:Array Bool) (a:Act) (w:World),Blk md ops listed i B->
   (∀j,j<ops.size->T j=false->j≠i->listed.getD j true=false->j∈B)->
   (∀j oj,ops[j]? =some oj->j≠i->listed.getD j true=false->j∉B->oi.apart ops oj=true)->
   i∈Region.ready md ops listed->YieldsIf P ops S oi v a->S w->
   bF P md ops Q S T fuel (listed.setIfInBounds i true) (a.put oi.dst v) w->bF P md ops Q S T (fuel+1) listed a w:=by
 intro fuel
 induction fuel with
 |zero=>
  intro listed a w _ _ _ hr hy hS H;refine⟨λh=>(by rw[h]at hr;cases hr),λj hj=>?_⟩;by_cases hji:j=i
  ·subst hji;exact hy.wpOp hi hS ⟨λ_=>hS,H⟩
  ·have:=ready_mono hj hji;rw[H.1]at this;cases this
 |succ fuel ih=>
  intro listed a w hblk hT hfree hr hy hS H;refine⟨λh=>(by rw[h]at hr;cases hr),λj hj=>?_⟩;by_cases hji:j=i
  ·subst hji;exact hy.wpOp hi hS ⟨λ_=>hS,H⟩
  ·have h1:=H.2 j (ready_mono hj hji);obtain⟨hjun,oj,hoj,hall⟩:=mem_ready.1 hj;have hjB:=hblk.Aip (mem_ready.1 hr).1 hj;have hjT:T j=true:=by
    cases h:T j with
    |true=>rfl
    |false=>exact absurd (hT j (Array.getElem?_eq_some_iff.1 hoj).1 h hji hjun) hjB
   have h2:=wpOp_putIf hoj (hfree j oj hoj hji hjun hjB) (λcs b=>hsel i oi cs b hi) (λcs b=>hsel j oj cs b hoj) hQ hy h1;have hmono:∀k,(listed.setIfInBounds j true).getD k true=false->listed.getD k true=false:=λk hun=>by
    by_cases hjk:j=k
    ·subst hjk;exact hjun
    ·rw[getD_set_ne true hjk]at hun;exact hun
   have hblk':Blk md ops (listed.setIfInBounds j true) i B:=λk hk=>by
    refine⟨?_,(hblk k hk).2⟩;have hjk:j≠k:=λh=>hjB (by rw[h];exact hk);rw[getD_set_ne true hjk];exact(hblk k hk).1
   refine wpOp_mono (λa' w' h3=>⟨h3.2.1,ih (listed.setIfInBounds j true) a' w' hblk' (λk hk h hki hun=>hT k hk h hki (hmono k hun)) (λk ok hk hki hun hno=>hfree k ok hk hki (hmono k hun) hno) (ready_mono hr (S? hji)) h3.1 (h3.2.1 hjT) ?_⟩) h2;rw[Array.setIfInBounds_comm _ _ hji];exact h3.2.2
def qG(ops:Array Oper)(T:Nat->Bool)(listed:Array Bool)(i:Nat)(oi:Oper)(B:List Nat):Bool:=
 (List.range ops.size).all λj=>listed.getD j true||(Nat.beq j i||(B.any (Nat.beq j)||(T j&&match ops[j]? with
  |some oj=>oi.apart ops oj
  |none=>true)))
theorem Zh{listed:Array Bool}{i:Nat}{oi:Oper}{B:List Nat}(h:qG ops T listed i oi B=true):
  (∀j,j<ops.size->T j=false->j≠i->listed.getD j true=false->j∈B)/\
  (∀j oj,ops[j]? =some oj->j≠i->listed.getD j true=false->j∉B->oi.apart ops oj=true):=by
 unfold qG at h;simp only[XY,ZA,R!,A9,List.any_eq_true]at h;refine⟨λj hj hT hji hun=>?_,λj oj hoj hji hun hno=>?_⟩
 ·rcases h j hj with h1|h1|⟨y,hy,h1⟩|h1
  ·rw[hun]at h1;cases h1
  ·exact absurd (S2 h1) hji
  ·rw[S2 h1];exact hy
  ·have h2:=h1.1;rw[hT]at h2;cases h2
 ·rcases h j (Array.getElem?_eq_some_iff.1 hoj).1 with h1|h1|⟨y,hy,h1⟩|h1
  ·rw[hun]at h1;cases h1
  ·exact absurd (S2 h1) hji
  ·exact absurd (by rw[S2 h1];exact hy) hno
  ·have h2:=h1.2;rw[hoj]at h2;exact h2
end
def WD(P:Program)(n:Nat)(ops:Array Oper)(S:World->Prop)(T:Nat->Bool)(fuel:Nat)(listed:Array Bool)(K:Env->World->Prop)(σ:Env)(w:World):Prop:=
 ∀(ds:List Deferred) (a:Act),Fits ds n a σ->bF P .any ops (λe a' w'=>e=Exit.normal/\∃σ',Fits ds n a' σ'/\K σ' w') S T fuel listed a w
variable {Q:Exit->Env->World->Prop} {K:Env->World->Prop} {S:World->Prop} {T:Nat->Bool} {fuel:Nat} {listed:Array Bool}
theorem W.Atd{id:Nat}(hd:jG ops.toList=true)(hm:P.follows .mixedOrders=true)(S:World->Prop)(T:Nat->Bool)
  (h:∀w',w'.heap=w.heap->Gr w w'->WD P n ops S T ops.size (Array.replicate ops.size false) (λσ' w'=>Q .normal σ' w') σ w'):W P n (.region id ops true) Q σ w:=by
 intro ro m ds a ha;refine R5 (wpIn_region_any hm (Afn (Z:=λa' w'=>∃σ',Fits ds n a' σ'/\Q .normal σ' w') (qM hd) (Abs (S:=S) (T:=T) _ _ _ _ (h {w with drawn:=w.drawn+1} rfl ⟨C4 _,rfl,rfl,rfl⟩ ds a ha)))) ?_;rintro e a' w' ⟨rfl,h⟩;exact h
def Gd(ops:Array Oper)(T:Nat->Bool)(listed:Array Bool)(i:Nat):Bool:=
 Region.noSelect ops&&((Region.ready .any ops listed).contains i&&match ops[i]? with
  |some oi=>vo .any ops listed i (qG ops T listed i oi) (List.range ops.size) []
  |none=>false)
theorem pT{i:Nat}{oi:Oper}(hi:ops[i]? =some oi)(hB:Gd ops T listed i=true):∃B,Blk .any ops listed i B/\qG ops T listed i oi B=true:=by
 simp only[Gd,A9,hi]at hB;exact yx _ _ (λj hj=>by cases hj) hB.2.2
theorem WD.take{o:Oper}{d:Nat}(i:Nat)(hi:ops[i]? =some o)(hB:Gd ops T listed i=true)(hd:o.dst=some d)(hdn:Nat.blt d n=true)(hg:o.guard=none)
  (hS:S w) (hx:∀w',S w'-> (execOp (ev σ) o).run P w'= .ok (.value v) w') (h:WD P n ops S T fuel (listed.setIfInBounds i true) K (Mr σ d v) w):WD P n ops S T (fuel+1) listed K σ w:=by
 intro ds a ha;obtain⟨B,hblk,hcl⟩:=pT hi hB;simp only[Gd,A9]at hB;refine aJ (v:=v) hi (nF hB.1) (λc a w h=>absurd h.1 F8) fuel listed a w hblk (Zh hcl).1 (Zh hcl).2 (by simpa using hB.2.1) (.inl ⟨by simp[Region.wanted,hg],λw' hw'=>by rw[ha.eval];exact hx w' hw'⟩) hS ?_;rw[hd];exact h _ _ (ha.put hdn v)
theorem WD.x{d:Nat}{after:Array Edge}(i:Nat)(hi:ops[i]? =some ⟨some d,op,ty,pos,after,none⟩)(hB:Gd ops T listed i=true)(hdn:Nat.blt d n=true)
  (hS:S w) (hx:∀w',S w'->XO P σ w' op v) (h:WD P n ops S T fuel (listed.setIfInBounds i true) K (Mr σ d v) w):WD P n ops S T (fuel+1) listed K σ w:=
 WD.take i hi hB rfl hdn rfl hS (λw' hw'=>hx w' hw' _ _ _ _ _) h
theorem WD.gx{d j t:Nat}{after:Array Edge}{want b:Bool}(i:Nat)(hi:ops[i]? =some ⟨some d,op,ty,pos,after,some (j,want)⟩)(hB:Gd ops T listed i=true)(hdn:Nat.blt d n=true)
  (hj:(ops[j]?).bind (·.dst)=some t) (hb:σ t= .bool b) (hS:S w) (hx:(b==want)=true->∀w',S w'->XO P σ w' op v)
  (h:WD P n ops S T fuel (listed.setIfInBounds i true) K (Mr σ d (gv b want v)) w):WD P n ops S T (fuel+1) listed K σ w:=by
 intro ds a ha;obtain⟨B,hblk,hcl⟩:=pT hi hB;simp only[Gd,A9]at hB;refine aJ (v:=gv b want v) hi (nF hB.1) (λc a w h=>absurd h.1 F8) fuel listed a w hblk (Zh hcl).1 (Zh hcl).2 (by simpa using hB.2.1) ?_ hS (h _ _ (ha.put hdn _));by_cases hbw:(b==want)=true
 ·refine .inl ⟨?_,λw' hw'=>?_⟩
  ·simp only[Region.wanted,PX ha hj hb];cases b<;>cases want<;>simp_all
  ·rw[O3 hbw,ha.eval];exact hx hbw w' hw' _ _ _ _ _
 ·refine .inr ⟨?_,?_⟩
  ·simp only[Region.wanted,PX ha hj hb];cases b<;>cases want<;>simp_all
  ·unfold gv;rw[A4 hbw]
theorem WD.step(i:Nat){o:Oper}(hi:ops[i]? =some o)(hr:Region.ready .any ops listed=[i])
  (h:WL P n ops [o] (λσ' w'=>(T i=true->S w')/\WD P n ops S T fuel (listed.setIfInBounds i true) K σ' w') σ w):WD P n ops S T (fuel+1) listed K σ w:=by
 intro ds a ha;refine⟨λh0=>absurd (hr▸h0) F8,λj hj=>?_⟩;rw[hr]at hj;have hji:j=i:=by simpa using hj
 subst hji;have h1:=h ds a ha;simp only[wpList]at h1;unfold wpOp;simp only[hi];split
 ·rename_i hw;rw[A7 hw]at h1;rcases h1 with h1|⟨_,_,_,hh,_⟩
  ·exact .inl (Oper.j! h1 (λa' w' h=>by obtain⟨_,σ',hf,h2,h3⟩:=h;exact⟨h2,h3 ds a' hf⟩))
  ·exact absurd hh F8
 ·rename_i hw;rw[A4 hw]at h1;obtain⟨_,σ',hf,h2,h3⟩:=h1;exact⟨h2,h3 _ _ hf⟩
theorem WD.done(hr:Region.ready .any ops listed=[])(h:K σ w):WD P n ops S T fuel listed K σ w:=by
 intro ds a ha;cases fuel with
 |zero=>exact⟨hr,rfl,σ,ha,h⟩
 |succ f=>exact⟨λ_=>⟨rfl,σ,ha,h⟩,by rw[hr];intro i hi;cases hi⟩
theorem An5{md:Region.Mode}{Q:Exit->Act->World->Prop}{S S':World->Prop}{T:Nat->Bool}(h:∀w,S' w->S w):∀(fuel:Nat) (listed:Array Bool) (a:Act) (w:World),bF P md ops Q S' T fuel listed a w->bF P md ops Q S T fuel listed a w
 |0,_,_,_,h1=>h1
 |fuel+1,_,_,_,h1=>⟨h1.1,λi hi=>wpOp_mono (λa' w' h'=>⟨λht=>h _ (h'.1 ht),An5 h fuel _ a' w' h'.2⟩) (h1.2 i hi)⟩
theorem WD.steps{is:List Nat}(hr:Region.ready .any ops listed=is)(hne:is.isEmpty=false)
  (h:∀i∈is,∃o,ops[i]? =some o/\WL P n ops [o] (λσ' w'=>(T i=true->S w')/\WD P n ops S T fuel (listed.setIfInBounds i true) K σ' w') σ w):WD P n ops S T (fuel+1) listed K σ w:=by
 intro ds a ha;refine⟨λh0=>absurd (hr▸h0) (by intro h;rw[h]at hne;cases hne),λj hj=>?_⟩;rw[hr]at hj;obtain⟨o,hi,h⟩:=h j hj;have h1:=h ds a ha;simp only[wpList]at h1;unfold wpOp;simp only[hi];split
 ·rename_i hw;rw[A7 hw]at h1;rcases h1 with h1|⟨_,_,_,hh,_⟩
  ·exact .inl (Oper.j! h1 (λa' w' h=>by obtain⟨_,σ',hf,h2,h3⟩:=h;exact⟨h2,h3 ds a' hf⟩))
  ·exact absurd hh F8
 ·rename_i hw;rw[A4 hw]at h1;obtain⟨_,σ',hf,h2,h3⟩:=h1;exact⟨h2,h3 _ _ hf⟩
theorem Aw2{md:Region.Mode}{Q:Exit->Act->World->Prop}{S S':World->Prop}{T T':Nat->Bool}:∀(fuel:Nat) (listed:Array Bool) (a:Act) (w:World),(∀i,listed.getD i true=false->T i=false)->bF P md ops Q S' T' fuel listed a w->bF P md ops Q S T fuel listed a w
 |0,_,_,_,_,h=>h
 |fuel+1,listed,a,w,h1,h=>⟨h.1,λi hi=>wpOp_mono (λa' w' h'=>⟨λhlt=>absurd (h1 i (mem_ready.1 hi).1) (by rw[hlt];decide),Aw2 fuel _ a' w' (λj hj=>h1 j (by
   by_cases hji:j=i
   ·subst hji;exact(mem_ready.1 hi).1
   ·rw[getD_set_ne true (S? hji)]at hj;exact hj)) h'.2⟩) (h.2 i hi)⟩
def LR(T:Nat->Bool)(listed:Array Bool):Bool:=(List.range listed.size).all λi=>!T i||listed.getD i false
theorem WD.next{S':World->Prop}(T':Nat->Bool)(hB:LR T listed=true)(h:WD P n ops S' T' fuel listed K σ w):WD P n ops S T fuel listed K σ w:=by
 intro ds a ha;refine Aw2 (S':=S') (T':=T') fuel listed a w (λi hi=>?_) (h ds a ha);simp only[LR,XY,ZA,R!]at hB;rcases VE i listed.size with h'|h'
 ·rcases hB i h' with h2|h2
  ·simpa using h2
  ·rw[Sm]at hi h2;simp[h']at hi h2;rw[h2]at hi;cases hi
 ·rw[Sm,eP h']at hi;simp at hi
theorem WD.T6{S':World->Prop}(h:∀w,S' w->S w)(h1:WD P n ops S' T fuel listed K σ w):WD P n ops S T fuel listed K σ w:=
 λds a ha=>An5 h fuel listed a w (h1 ds a ha)
end Go.Lv
namespace Go.Lv
variable{i:Int}
variable {P:Program} {n:Nat} {ops:Array Oper} {rest:List Oper} {K:Env->World->Prop} {Q:Exit->Env->World->Prop} {σ:Env} {w:World}
variable {d:Nat} {ty:TypeId} {pos:String} {after:Array Edge} {A:Reg} {F:List Fact} {L:List Mob}
theorem bind_some{α β:Type}{o:Option α}{f:α->Option β}{y:β}(h:Option.bind o f=some y):∃x,o=some x/\f x=some y:=by
 cases o with
 |none=>cases h
 |some x=>exact⟨x,rfl,h⟩
theorem Iw{α:Type}{l:List α}{x:α}(h:Af l i=some x):i=(i.toNat:Int)/\i.toNat<l.length/\l[i.toNat]? =some x:=by
 unfold Af at h;split at h
 ·exact⟨F0,(List.getElem?_eq_some_iff.1 h).1,h⟩
 ·cases h
theorem WJ{α:Type}{l l':List α}{x:α}(h:Pn l i x=some l'):i=(i.toNat:Int)/\i.toNat<l.length/\l'=l.set i.toNat x:=by
 unfold Pn at h;split at h
 ·cases h;exact⟨F0,F0,rfl⟩
 ·cases h
theorem LD{α:Type}{l x:List α}{lo hi:Int}(h:Cb l lo hi=some x):lo=(lo.toNat:Int)/\hi=(hi.toNat:Int)/\lo.toNat<=hi.toNat/\hi.toNat<=l.length/\x=(l.take hi.toNat).drop lo.toNat:=by
 unfold Cb at h;split at h
 ·cases h;exact⟨F0,F0,F0,F0,rfl⟩
 ·cases h
theorem wD{α:Type}{l m x:List α}(h:Bf l m=some x):l.length+m.length<=wo/\x=l++m:=by
 unfold Bf at h;split at h
 ·cases h;exact⟨by assumption,rfl⟩
 ·cases h
theorem pU{α:Type}{z:α}{x:List α}(h:mkI i z=some x):i=(i.toNat:Int)/\i.toNat<=wo/\x=List.replicate i.toNat z:=by
 unfold mkI at h;split at h
 ·rename_i hi;cases h;exact⟨F0,F0,rfl⟩
 ·cases h
theorem Un{b:Bool}{u:Unit}(h:Gi b=some u):b=true:=by
 unfold Gi at h;split at h
 ·assumption
 ·cases h
theorem St.noF(hs:St A w F L):St A w [] L:=⟨hs.lt,(λ_ h=>by cases h),hs.mobs⟩
theorem St.as(hs:St A w F L){F':List Fact}{L':List Mob}(hF:F=F')(hL:L=L'):St A w F' L':=hF▸hL▸hs
section
variable {T:Type} {k:IntKind} [GI T k]
theorem Ase(l:List T):(We l).all (·.oneCell')=true:=by simp[We,Value.oneCell']
end
theorem Rd.any{R:Reg}{s:Nat}{v:Value}{cs:List Value}(h:Rd R w s v cs):Rd (λ_=>True) w s v cs:=h.step (λ_ _=>trivial) (λ_ _=>rfl)
end Go.Lv
namespace Go
theorem F4{p:Prop}(h:p:=by decide):p:=h
end Go
namespace Go.Lv
variable{a m:Int}
variable {P:Program} {n:Nat} {ops:Array Oper} {rest:List Oper} {K:Env->World->Prop} {Q:Exit->Env->World->Prop} {σ:Env} {w:World}
variable {d:Nat} {ty:TypeId} {pos:String} {after:Array Edge} {A:Reg} {F:List Fact} {L:List Mob}
theorem Im.mk{t:TypeId}{s:Nat}(h:(P.info? t).map (·.size)=some s):Im P t s:=by
 cases hu:P.info? t with
 |none=>rw[hu]at h;cases h
 |some u=>rw[hu]at h;exact⟨u,hu,by simpa using h⟩
theorem Ba9.mk{t:TypeId}{z:Value}(h:(P.info? t).bind (·.zero)=some z):∃i,P.info? t=some i/\i.zero=some z:=by
 cases hu:P.info? t with
 |none=>rw[hu]at h;cases h
 |some u=>rw[hu]at h;exact⟨u,rfl,h⟩
def fieldInfo(P:Program)(t:TypeId)(f:Nat):Option (Nat×Nat):=
 match P.underlying t with
 |some (.struct fs)=>(fs[f]?).bind λfd=>(P.info? fd.type).map λi=>(fd.offset,i.size)
 |_=>none
theorem mT.mk{t:TypeId}{f k s:Nat}(h:fieldInfo P t f=some (k,s))(hs:s≠0):mT P t f k:=by
 unfold fieldInfo at h;split at h
 ·rename_i fs hu;cases hf:fs[f]? with
  |none=>rw[hf]at h;cases h
  |some fd=>
   rw[hf]at h;simp at h;obtain⟨i,hi,h1,h2⟩:=h;exact⟨fs,fd,i,hu,hf,h1,hi,F0⟩
 ·cases h
theorem TI.cell{a:Tmp}{t T:TypeId}{i b off:Nat}{cells:List Value}{v:Value}(hs:St A w F L)(hL:L[i]? =some (.box b cells T))(ht:Plain P t)
  (hx:σ a= .pointer (some ⟨b,off,none⟩)) (hv:cells[off]? =some v):TI P σ w (.cell a t) v:=by
 obtain⟨u,hu,hp⟩:=ht;have hc:w.cell? ⟨b,off,none⟩=some v:=by rw[cell_of (hs.box hL)];simpa using hv
 exact⟨_,hx,by simp only[loadVar,C1,Fj hu hp,B8,SN,R8,GA hc]⟩
theorem TI.cells{a:Tmp}{t T:TypeId}{i b off s:Nat}{cells vs:List Value}(hs:St A w F L)(hL:L[i]? =some (.box b cells T))(ht:l? P t)(hsz:Im P t s)
  (hx:σ a= .pointer (some ⟨b,off,none⟩)) (hv:(cells.drop off).take s=vs) (hl:vs.length=s):TI P σ w (.cell a t) (.agg vs.toArray):=by
 obtain⟨u,hu,hp⟩:=ht;have hc:=Lm (P:=P) (w:=w) (b:=b) (off:=off) vs (λj hj=>by
  rw[cell_of (hs.box hL)];subst hv;rw[HH]at hj;simp[SI,VA];omega)
 rw[hl]at hc;exact⟨_,hx,by simp only[loadVar,C1,Fj hu hp,B8,U9,Ca hsz,hc,I7]⟩
theorem St.Al9(hs:St A w F L){w':World}(h:w'.heap=w.heap)(hg:Gr w w'):St A w' F L:=
 hs.keep ⟨λb _=>by rw[h],hg⟩
theorem iW{b want:Bool}{v:Value}(h:(b==want)=false):gv b want v=undef:=by unfold gv;rw[A4 (by rw[h];decide)]
theorem wrap_u8{n:Int}(h:0<=n)(h':n<256):IntKind.u8.wrap n=n:=by
 simp only[IntKind.wrap,IntKind.bits,IntKind.signed,Z?,SN,R8];exact nY h h'
theorem wrap_u32{n:Int}(h:0<=n)(h':n<4294967296):IntKind.u32.wrap n=n:=by
 simp only[IntKind.wrap,IntKind.bits,IntKind.signed,Z?,SN,R8];exact nY h h'
theorem wrap_u64{n:Int}(h:0<=n)(h':n<18446744073709551616):IntKind.u64.wrap n=n:=by
 simp only[IntKind.wrap,IntKind.bits,IntKind.signed,Z?,SN,R8];exact nY h h'
theorem Bin.Asd{t:TypeId}(a b:Int)(h:GI.toZ b≠0):Jw P .rem t (iv a) (iv b) (iv (Me a b)):=λ_ _ w=>by
 have h':b≠0:=h;simp[eqGuard,binOp,Op.intDiv,Me,iv,GI.toZ,h']
theorem zo{b:Int}(ha:0<=a)(h:a<m):0<=a.tmod b/\a.tmod b<m:=by
 have h1:=Int.tmod_nonneg b ha;have h2:=Int.natAbs_tmod a b;have h3:=Xq a.natAbs b.natAbs;omega
theorem Bin.Avr{t:TypeId}(a b:UInt8)(h:GI.toZ b≠0):Jw P .rem t (iv a) (iv b) (iv (b_ a b)):=λ_ _ w=>by
 have h1:(0:Int)<=GI.toZ a:=XW _;have h2:(GI.toZ a:Int)<256:=by have:=a.toNat_lt;show((a.toNat:Nat):Int)<256;omega
 obtain⟨h3,h4⟩:=zo (b:=GI.toZ b) h1 h2;simp[eqGuard,binOp,Op.intDiv,b_,<-On,h,wrap_u8 h3 h4]
theorem Bin.Api{t:TypeId}(a b:UInt32)(h:GI.toZ b≠0):Jw P .rem t (iv a) (iv b) (iv (b_ a b)):=λ_ _ w=>by
 have h1:(0:Int)<=GI.toZ a:=XW _;have h2:(GI.toZ a:Int)<4294967296:=by have:=a.toNat_lt;show((a.toNat:Nat):Int)<4294967296;omega
 obtain⟨h3,h4⟩:=zo (b:=GI.toZ b) h1 h2;simp[eqGuard,binOp,Op.intDiv,b_,<-On,h,wrap_u32 h3 h4]
theorem Bin.Arq{t:TypeId}(a b:UInt64)(h:GI.toZ b≠0):Jw P .rem t (iv a) (iv b) (iv (b_ a b)):=λ_ _ w=>by
 have h1:(0:Int)<=GI.toZ a:=XW _;have h2:(GI.toZ a:Int)<18446744073709551616:=by have:=a.toNat_lt;show((a.toNat:Nat):Int)<18446744073709551616;omega
 obtain⟨h3,h4⟩:=zo (b:=GI.toZ b) h1 h2;simp[eqGuard,binOp,Op.intDiv,b_,<-On,h,wrap_u64 h3 h4]
section
variable {T':Type} {k':IntKind} [GI T' k']
theorem Bin.Aph{t:TypeId}(a:Int)(b:T')(h:0<=GI.toZ b):Jw P .shr t (iv a) (iv b) (iv (s_ a (GI.toZ b).toNat)):=λ_ _ w=>by
 have:¬GI.toZ b<0:=F0
 simp[eqGuard,binOp,Op.shift,s_,iv,GI.toZ,this,IntKind.bits]
theorem yj{q:Nat}(ha:0<=a)(h:a<m):0<=a.fdiv (2^q)/\a.fdiv (2^q)<m:=by
 have hp:(0:Int)<2^q:=ZF F4;rw[T9 _ F0];have h1:=Int.ediv_nonneg ha (gH hp);have h2:=Int.ediv_le_self (2^q) ha;omega
theorem Bin.Awq{t:TypeId}(a:UInt8)(b:T')(h:0<=GI.toZ b):Jw P .shr t (iv a) (iv b) (iv (Cl a (GI.toZ b).toNat)):=by
 have h1:(0:Int)<=GI.toZ a:=XW _;have h2:(GI.toZ a:Int)<256:=by have:=a.toNat_lt;show((a.toNat:Nat):Int)<256;omega
 obtain⟨h3,h4⟩:=yj (q:=min (GI.toZ b).toNat IntKind.u8.bits) h1 h2;exact Bin.shr a b h (wrap_u8 h3 h4)
theorem Bin.As4{t:TypeId}(a:UInt32)(b:T')(h:0<=GI.toZ b):Jw P .shr t (iv a) (iv b) (iv (Cl a (GI.toZ b).toNat)):=by
 have h1:(0:Int)<=GI.toZ a:=XW _;have h2:(GI.toZ a:Int)<4294967296:=by have:=a.toNat_lt;show((a.toNat:Nat):Int)<4294967296;omega
 obtain⟨h3,h4⟩:=yj (q:=min (GI.toZ b).toNat IntKind.u32.bits) h1 h2;exact Bin.shr a b h (wrap_u32 h3 h4)
theorem Bin.Arj{t:TypeId}(a:UInt64)(b:T')(h:0<=GI.toZ b):Jw P .shr t (iv a) (iv b) (iv (Cl a (GI.toZ b).toNat)):=by
 have h1:(0:Int)<=GI.toZ a:=XW _;have h2:(GI.toZ a:Int)<18446744073709551616:=by have:=a.toNat_lt;show((a.toNat:Nat):Int)<18446744073709551616;omega
 obtain⟨h3,h4⟩:=yj (q:=min (GI.toZ b).toNat IntKind.u64.bits) h1 h2;exact Bin.shr a b h (wrap_u64 h3 h4)
theorem wrap_i32{n:Int}(h: -2147483648<=n)(h':n<2147483648):IntKind.i32.wrap n=n:=by
 simp only[IntKind.wrap,IntKind.bits,IntKind.signed,UY];change (if decide (n %4294967296>=2147483648)=true then n %4294967296-4294967296 else n %4294967296)=n;by_cases hn:n %4294967296>=2147483648
 ·rw[A7 (by simpa using hn)];omega
 ·rw[A4 (by simpa using hn)];omega
theorem Aqz{q:Nat}(h0: -m<=a)(h:a<m)(hm:0<m): -m<=a.fdiv (2^q)/\a.fdiv (2^q)<m:=by
 have hp:(0:Int)<2^q:=ZF F4;rw[T9 _ F0];generalize(2:Int)^q=p at hp;refine⟨?_,?_⟩
 ·rw[Int.le_ediv_iff_mul_le hp];have:m*1<=m*p:=m? F0 F0;rw[Int.neg_mul];omega
 ·rw[Int.ediv_lt_iff_lt_mul hp];have:m*1<=m*p:=m? F0 F0;omega
theorem Aho(a:Int32): -2147483648<=GI.toZ a/\GI.toZ a<2147483648:=by
 have h1:=a.le_toInt;have h2:=a.toInt_lt;exact⟨h1,h2⟩
theorem Bin.Asz{t:TypeId}(a:Int32)(b:T')(h:0<=GI.toZ b):Jw P .shr t (iv a) (iv b) (iv (Cl a (GI.toZ b).toNat)):=by
 obtain⟨h1,h2⟩:=Aho a;obtain⟨h3,h4⟩:=Aqz (q:=min (GI.toZ b).toNat IntKind.i32.bits) h1 h2 F4;exact Bin.shr a b h (wrap_i32 h3 h4)
end
end Go.Lv
namespace Go.Lv
variable {P:Program} {n:Nat} {ops:Array Oper} {rest:List Oper} {K:Env->World->Prop} {Q:Exit->Env->World->Prop} {σ:Env} {w:World}
variable {d:Nat} {ty:TypeId} {pos:String} {after:Array Edge} {A:Reg} {F:List Fact} {L:List Mob}
theorem Af2{t e:TypeId}(hu:P.underlying t=some (.slice e))(q:Nat)(p:Option Addr)(l c:Nat)(w:World):(Op.equalIn (q+1) t (.slice p l c) (.slice none 0 0)).run P w= .ok p.isNone w:=by
 cases p<;>simp[Op.equalIn,A_ hu]
theorem Bin.Aqp{t e:TypeId}(hu:P.underlying t=some (.slice e))(p:Option Addr)(l c:Nat):Jw P .eql t (.slice p l c) (.slice none 0 0) (.bool p.isNone):=λ_ _ w=>by
 have h:=Af2 hu 9999 p l c w;simp only[eqGuard,binOp,Op.equal,Op.maxDepth];simp[h]
theorem Bin.Arp{t e:TypeId}(hu:P.underlying t=some (.slice e))(p:Option Addr)(l c:Nat):Jw P .neq t (.slice p l c) (.slice none 0 0) (.bool p.isSome):=λ_ _ w=>by
 have h:=Af2 hu 9999 p l c w;simp only[eqGuard,binOp,Op.equal,Op.maxDepth];cases p<;>simp[h]
theorem Rd.Acd{R:Reg}{s l c:Nat}{cs:List Value}(h:Rd R w s (.slice none l c) cs):cs=[]:=by
 obtain⟨p,len,cap,e,h2,h3,h4,_⟩:=h;cases e;have:=h4 rfl;have h5:cs.length=0:=by rw[h2,show l=0 by omega,Xn]
 exact List.length_eq_zero_iff.1 h5
theorem WL.Ayj{x:Operand}{t e E:TypeId}{i:Nat}{v:Value}{cs:List Value}(ht:P.underlying t=some (.slice e))(he:P.underlying e=some (.int .u8))(hs:St A w F L)
  (hL:L[i]? =some (.own 1 E v cs)) (hne:0<cs.length) (hd:Nat.blt d n=true) (hx:ev σ x=v) (h:∀w',St A w' F L->WL P n ops rest K (Mr σ d v) w'):
  WL P n ops (⟨some d, .convert t t x,ty,pos,after,none⟩::rest) K σ w:=by
 have hm:=(hs.front hL).mobs;obtain⟨q,hq,h3,h4⟩:=hm;obtain⟨p,len,cap,rfl,h5,h6,h7,h8,h9⟩:=hq;have hcap:0<cap:=F0
 obtain⟨b,rfl⟩:∃b,q=some b:=by
  cases q with
  |none=>exact absurd (h7 (h8 rfl)) F0
  |some b=>exact⟨b,rfl⟩
 obtain⟨arr,fr,rfl,hb,hsz,hfz,hc⟩:=h9 b rfl;obtain⟨lo,hi⟩:=fr;have hlt:=lt_of_heap hb;have hfr:∃fr',w.freeze ⟨b,arr.size,none⟩ 1=Ec w b (.cells arr E fr')/\ (fr'.1=fr'.2\/arr.size<=fr'.1):=by
  refine⟨(if lo==hi then(arr.size,arr.size+1)else(min lo arr.size,max hi (arr.size+1))),?_,?_⟩
  ·unfold World.freeze Ec;rw[A4 F4];congr 1;apply Array.ext
   ·simp
   ·intro k h1 h2;simp only[Array.getElem_modify,Array.getElem_setIfInBounds];by_cases hk:b=k
    ·subst hk;have:w.heap[b]= .cells arr E (lo,hi):=by
      have:=zS (xs:=w.heap) hlt;rw[hb]at this;exact(Z6 this).symm
     simp[this]
    ·rw[A4 hk,Array.getElem_setIfInBounds_ne _ hk]
  ·by_cases hlh:lo=hi
   ·simp[hlh]
   ·rw[A4 (by simpa using hlh)];rcases hfz with h|h
    ·exact absurd h hlh
    ·right;simp at h⊢;omega
 obtain⟨fr',hfr,hfz'⟩:=hfr;have hsh:w.shape? b=some (E,arr.size):=by simp[World.shape?,hb]
 have hs':St A (Ec w b (.cells arr E fr')) F L:=by
  have h10:St A (Ec w b (.cells arr E fr')) F (L.set i (.own 1 E (.slice (some ⟨b,0,none⟩) len cap) cs)):=
   hs.jC hL ⟨some ⟨b,0,none⟩,len,cap,rfl,h5,h6,h7,h8,λc hc'=>by cases hc';exact⟨arr,(lo,hi),rfl,hb,hsz,hfz,hc⟩⟩
    ⟨some ⟨b,0,none⟩,len,cap,rfl,h5,h6,h7,(λh=>by cases h),λc hc'=>by cases hc';exact⟨arr,fr',rfl,by simp[Ec,hlt],hsz,hfz',hc⟩⟩
    (λ_=>⟨some b,⟨some ⟨b,0,none⟩,len,cap,rfl,h5,h6,h7,h8,λc hc'=>by cases hc';exact⟨arr,(lo,hi),rfl,hb,hsz,hfz,hc⟩⟩,h3,h4,rfl⟩)
  have h11:L.set i (.own 1 E (.slice (some ⟨b,0,none⟩) len cap) cs)=L:=by
   apply Z2;intro k;rw[List.getElem?_set];by_cases hik:i=k
   ·subst hik;rw[A7 rfl];have hlt:=(List.getElem?_eq_some_iff.1 hL).1;rw[A7 hlt,hL]
   ·rw[A4 hik]
  rw[h11]at h10;exact h10
 refine .val rfl rfl hd (v:= .slice (some ⟨b,0,none⟩) len cap) (w':=Ec w b (.cells arr E fr')) ?_ (h _ hs');simp[execOp,hx,convert,A_ ht,A_ he,markStringish,hsh,hfr]
end Go.Lv
namespace Go.Lv
variable {P:Program} {n:Nat} {ops:Array Oper} {rest:List Oper} {K:Env->World->Prop} {Q:Exit->Env->World->Prop} {σ:Env} {w:World}
variable {d:Nat} {ty:TypeId} {pos:String} {after:Array Edge} {A:Reg} {F:List Fact} {L:List Mob}
def NY(P:Program)(t:TypeId):Option (List (Nat×Option Nat)×Option (Option (Array Value))):=
 match P.underlying t with
 |some (.struct fs)=>some (fs.toList.map λf=>(f.offset,(P.info? f.type).map (·.size)),(P.info? t).map λi=>i.zero.map (·.cells))
 |_=>none
def GW(P:Program)(t:TypeId)(pl:List (Nat×Nat))(z:List Value):Prop:=
 NY P t=some (pl.map λp=>(p.1,some p.2),some (some z.toArray))
theorem GW.mk{t:TypeId}{pl:List (Nat×Nat)}{z:List Value}(h:NY P t=some (pl.map λp=>(p.1,some p.2),some (some z.toArray))):GW P t pl z:=h
theorem run_places{fs:List Field}:∀{pl:List (Nat×Nat)},(fs.map λf=>(f.offset,(P.info? f.type).map (·.size)))=(pl.map λp=>(p.1,some p.2))->
  (fs.mapM λf=>do pure (f.offset,<-sizeOf f.type):Sem (List (Nat×Nat))).run P w= .ok pl w:=by
 induction fs with
 |nil=>intro pl h;cases pl with|nil=>rfl|cons _ _=>simp at h
 |cons f fs ih=>
  intro pl h;cases pl with
  |nil=>simp at h
  |cons p pl=>
   simp only[IZ,W9,SO]at h;obtain⟨⟨h1,h2⟩,h3⟩:=h;have hs:Im P f.type p.2:=Im.mk h2;simp only[List.mapM_cons,C1,Ca hs,B8,I7,ih h3,h1]
theorem X.build{t:TypeId}{pl:List (Nat×Nat)}{z:List Value}{parts:List (Nat×Operand)}{vs:List (Nat×Value)}{cells:List Value}(ht:GW P t pl z)
  (hp:(parts.map λp=>(p.1,ev σ p.2))=vs) (hf:Instr.fill (pl[·]?) z.toArray vs=some cells.toArray):XO P σ w (.build t parts.toArray) (.agg cells.toArray):=λ_ _ _ _ _=>by
 unfold GW NY at ht;split at ht
 ·rename_i fs hu;simp only[HN,SO]at ht;obtain⟨h1,h2⟩:=ht;have hz:∃i zv,P.info? t=some i/\i.zero=some zv/\zv.cells=z.toArray:=by
   cases hi:P.info? t with
   |none=>rw[hi]at h2;simp at h2
   |some i=>
    rw[hi]at h2;simp only[VN,HN]at h2;cases hz:i.zero with
    |none=>rw[hz]at h2;simp at h2
    |some zv=>rw[hz]at h2;exact⟨i,zv,rfl,hz,by simpa using h2⟩
  obtain⟨i,zv,hi,hz,hzc⟩:=hz;have hr:=run_places (w:=w) h1;have hm:(fs.mapM λf=>do pure (f.offset,<-sizeOf f.type):Sem (Array (Nat×Nat))).run P w= .ok pl.toArray w:=by
   obtain⟨l⟩:=fs;rw[List.mapM_toArray];simp only[map_eq_pure_bind,C1,hr,B8,I7]
  have hf':Instr.fill (λx=>pl.toArray[x]?) z.toArray vs=some cells.toArray:=by rw[<-hf];congr 1;funext x;simp
  simp only[execOp,Instr.build,C1,zeroValue,typeInfo];have hm2:=hm;simp only[bind_pure_comp]at hm2;simp[hi,hz,hzc,A_ hu,hm2,hp,hf,hf']
 ·cases ht
theorem X.vM{t t':TypeId}{x y:Operand}{a b r:List UInt8}(hx:ev σ x=sv a)(hy:ev σ y=sv b)(h:Bf a b=some r):XO P σ w (.binOp .add t x y t') (sv r):=by
 obtain⟨h1,rfl⟩:=wD h;have hl:wo=17179869184:=F4
 exact X.bin hx hy (Bin.Ard a b F0)
theorem pR(l:List UInt8)(a b:Nat):(⟨l.toArray⟩:ByteArray).extract a b=⟨((l.take b).drop a).toArray⟩:=by
 apply ByteArray.ext;rw[ByteArray.data_extract];simp[aK]
theorem X.y_{t:TypeId}{x:Operand}{lo hi:Option Operand}{l y:List UInt8}{a b:Int}(ht:P.underlying t=some .string)(hx:ev σ x=sv l)(hc:Cb l a b=some y)
  (hlo:(∃q,lo.map (ev σ)=some (.int q a))\/ (lo=none/\a=0)) (hhi:(∃q,hi.map (ev σ)=some (.int q b))\/ (hi=none/\b=Ad l)):XO P σ w (.slice t x lo hi none) (sv y):=λ_ _ _ _ _=>by
 obtain⟨h1,h2,h3,h4,rfl⟩:=LD hc;have hsz:(⟨l.toArray⟩:ByteArray).size=l.length:=by simp[ByteArray.size]
 have hlo':(∃q,lo.map (ev σ)=some (.int q (a.toNat:Int)))\/ (lo.map (ev σ)=none/\a.toNat=0):=by
  rcases hlo with⟨q,h⟩|⟨h,h'⟩
  ·left;exact⟨q,by rw[h,<-h1]⟩
  ·right;exact⟨by rw[h];rfl,F0⟩
 have hhi':(∃q,hi.map (ev σ)=some (.int q (b.toNat:Int)))\/ (hi.map (ev σ)=none/\b.toNat=l.length):=by
  rcases hhi with⟨q,h⟩|⟨h,h'⟩
  ·left;exact⟨q,by rw[h,<-h2]⟩
  ·right;refine⟨by rw[h];rfl,?_⟩;rw[h'];simp[Ad]
 simp only[execOp,hx,Instr.sliceAt,C1,A_ ht,B8,XZ];generalize lo.map (ev σ)=vlo at hlo'⊢;generalize hi.map (ev σ)=vhi at hhi'⊢;clear hlo hhi h1 h2 hc;generalize a.toNat=A at*
 generalize b.toNat=B at*
 clear a b;rcases hlo' with⟨q,rfl⟩|⟨rfl,rfl⟩<;>rcases hhi' with⟨q',rfl⟩|⟨rfl,rfl⟩<;>
  simp[Instr.slice,A_ ht,Instr.sliceBounds,Instr.sliceBound,asIntOf,hsz,pR,h3,h4]
theorem Src.string{t2:TypeId}{l:List UInt8}(ht2:P.underlying t2=some .string):Src P w t2 (sv l) 1 l.length (We l):=by
 refine⟨⟨_,ht2, .inr rfl⟩,λ_=>by simp[Builtin.lenOf,ByteArray.size],λw2 _=>?_⟩;simp only[Builtin.firstCells,I7,pR];simp[We,dV]
end Go.Lv
namespace Go.Lv
section
variable (a b:UInt8)
theorem PM:GI.toZ a=(a.toNat:Int):=rfl
theorem Avx(n:Int):(GI.ofZ n:UInt8)=UInt8.ofNat (n %256).toNat:=rfl
theorem Yi(n:Nat):(GI.ofZ (n:Int):UInt8)=UInt8.ofNat n:=by
 rw[Avx];apply UInt8.toNat_inj.1;simp only[S8];omega
theorem jv:BitVec.ofInt (IntKind.bits .u8) (GI.toZ a)=a.toBitVec:=by
 rw[PM];apply YN;have:=a.toNat_lt;simp only[IntKind.bits,VC,UInt8.toNat_toBitVec];omega
theorem Y':Ed a b=a&&&b:=by
 simp only[Ed,jv,Yi];apply UInt8.toNat_inj.1;rw[S8,fS];exact(B3 (a.toBitVec&&&b.toBitVec).isLt).trans (fH _ _)
theorem Awu:pO a b=a|||b:=by
 simp only[pO,jv,Yi];apply UInt8.toNat_inj.1;rw[S8,UInt8.toNat_or];exact(B3 (a.toBitVec|||b.toBitVec).isLt).trans (bB _ _)
theorem tL:Wr a b=a^^^b:=by
 simp only[Wr,jv,Yi];apply UInt8.toNat_inj.1;rw[S8,nO];exact(B3 (a.toBitVec^^^b.toBitVec).isLt).trans (fI _ _)
theorem Ash(n:Nat):(Dp a n).toNat=a.toNat*2^n %256:=by
 have h:(a.toNat:Int)*2^min n (IntKind.bits .u8)=((a.toNat*2^min n 8:Nat):Int):=by simp[IntKind.bits]
 simp only[Dp,PM,h,Yi,S8]
 show a.toNat*2^min n 8 %256=_;rcases X4 n 8 with h|h
 ·rw[T! h]
 ·rw[Vy h];obtain⟨d,rfl⟩:=m_ h;rw[X5,<-N9,eZ,TC,TC]
theorem E0(n:Nat):(Cl a n).toNat=a.toNat/2^n:=by
 have h:(a.toNat:Int).fdiv (2^min n (IntKind.bits .u8))=((a.toNat/2^min n 8:Nat):Int):=by
  rw[T9 _ (gH (ZF F4))];simp[IntKind.bits]
 have hlt:=a.toNat_lt;have hle:=SW a.toNat (2^min n 8);simp only[Cl,PM,h,Yi,S8]
 show a.toNat/2^min n 8 %256=_;rw[B3 F0];rcases X4 n 8 with h|h
 ·rw[T! h]
 ·rw[Vy h];rw[UU F0,UU];exact E5 hlt (IV F4 h)
theorem Q1:geq a b=(a==b):=by
 rw[N4];simp[geq,PM,bK,UInt8.toNat_inj]
theorem uz:Bg a b=(a !=b):=by
 rw[N4];simp[Bg,PM,bK,UInt8.toNat_inj]
theorem Aw1:MQ a b=decide (a.toNat<=b.toNat):=by simp[MQ,PM]
theorem Awz:Eg a b=decide (b.toNat<a.toNat):=by simp[Eg,PM]
theorem Awr:Ha a b=decide (b.toNat<=a.toNat):=by simp[Ha,PM]
theorem Akd:(Ah a:Int)=wrap64 (a.toNat:Int):=rfl
end
section
variable (a b:UInt32)
theorem CD:GI.toZ a=(a.toNat:Int):=rfl
theorem rA(n:Int):(GI.ofZ n:UInt32)=UInt32.ofNat (n %4294967296).toNat:=rfl
theorem Li(n:Nat):(GI.ofZ (n:Int):UInt32)=UInt32.ofNat n:=by
 rw[rA];apply UInt32.toNat_inj.1;simp only[QJ];omega
theorem O9:Ae a b=a+b:=by
 simp only[Ae,CD,<-Int.natCast_add,Li];apply UInt32.toNat_inj.1;simp
theorem H? :Ap a b=a-b:=by
 simp only[Ap,CD,rA];apply UInt32.toNat_inj.1;have h1:=a.toNat_lt;have h2:=b.toNat_lt;simp only[QJ,UInt32.toNat_sub];omega
theorem Aor:Cm a b=a*b:=by
 simp only[Cm,CD,<-U1,Li];apply UInt32.toNat_inj.1;simp
theorem z_:BitVec.ofInt (IntKind.bits .u32) (GI.toZ a)=a.toBitVec:=by
 rw[CD];apply YN;have:=a.toNat_lt;simp only[IntKind.bits,VC,UInt32.toNat_toBitVec];omega
theorem N6:Ed a b=a&&&b:=by
 simp only[Ed,z_,Li];apply UInt32.toNat_inj.1;rw[QJ,fJ];exact(B3 (a.toBitVec&&&b.toBitVec).isLt).trans (fH _ _)
theorem Ara:pO a b=a|||b:=by
 simp only[pO,z_,Li];apply UInt32.toNat_inj.1;rw[QJ,UInt32.toNat_or];exact(B3 (a.toBitVec|||b.toBitVec).isLt).trans (bB _ _)
theorem sT:Wr a b=a^^^b:=by
 simp only[Wr,z_,Li];apply UInt32.toNat_inj.1;rw[QJ,aM];exact(B3 (a.toBitVec^^^b.toBitVec).isLt).trans (fI _ _)
theorem gL(n:Nat):(Dp a n).toNat=a.toNat*2^n %4294967296:=by
 have h:(a.toNat:Int)*2^min n (IntKind.bits .u32)=((a.toNat*2^min n 32:Nat):Int):=by simp[IntKind.bits]
 simp only[Dp,CD,h,Li,QJ]
 show a.toNat*2^min n 32 %4294967296=_;rcases X4 n 32 with h|h
 ·rw[T! h]
 ·rw[Vy h];obtain⟨d,rfl⟩:=m_ h;rw[X5,<-N9,eZ,TC,TC]
theorem OH(n:Nat):(Cl a n).toNat=a.toNat/2^n:=by
 have h:(a.toNat:Int).fdiv (2^min n (IntKind.bits .u32))=((a.toNat/2^min n 32:Nat):Int):=by
  rw[T9 _ (gH (ZF F4))];simp[IntKind.bits]
 have hlt:=a.toNat_lt;have hle:=SW a.toNat (2^min n 32);simp only[Cl,CD,h,Li,QJ]
 show a.toNat/2^min n 32 %4294967296=_;rw[B3 F0];rcases X4 n 32 with h|h
 ·rw[T! h]
 ·rw[Vy h];rw[UU F0,UU];exact E5 hlt (IV F4 h)
theorem Apl:geq a b=(a==b):=by
 rw[N4];simp[geq,CD,bK,UInt32.toNat_inj]
theorem qp:Cx a b=decide (a.toNat<b.toNat):=by simp[Cx,CD]
theorem sX:Ha a b=decide (b.toNat<=a.toNat):=by simp[Ha,CD]
theorem Ahb:(Ah a:Int)=wrap64 (a.toNat:Int):=rfl
end
section
variable (a b:UInt64)
theorem Ua:GI.toZ a=(a.toNat:Int):=rfl
theorem zh(n:Int):(GI.ofZ n:UInt64)=UInt64.ofNat (n %18446744073709551616).toNat:=rfl
theorem Js(n:Nat):(GI.ofZ (n:Int):UInt64)=UInt64.ofNat n:=by
 rw[zh];apply UInt64.toNat_inj.1;simp only[P6];omega
theorem H0:Ae a b=a+b:=by
 simp only[Ae,Ua,<-Int.natCast_add,Js];apply UInt64.toNat_inj.1;simp
theorem Aty :Ap a b=a-b:=by
 simp only[Ap,Ua,zh];apply UInt64.toNat_inj.1;have h1:=a.toNat_lt;have h2:=b.toNat_lt;simp only[P6,UInt64.toNat_sub];omega
theorem E6:Cm a b=a*b:=by
 simp only[Cm,Ua,<-U1,Js];apply UInt64.toNat_inj.1;simp
theorem q_:BitVec.ofInt (IntKind.bits .u64) (GI.toZ a)=a.toBitVec:=by
 rw[Ua];apply YN;have:=a.toNat_lt;simp only[IntKind.bits,VC,UInt64.toNat_toBitVec];omega
theorem O4:Ed a b=a&&&b:=by
 simp only[Ed,q_,Js];apply UInt64.toNat_inj.1;rw[P6,fK];exact(B3 (a.toBitVec&&&b.toBitVec).isLt).trans (fH _ _)
theorem Aqv:pO a b=a|||b:=by
 simp only[pO,q_,Js];apply UInt64.toNat_inj.1;rw[P6,UInt64.toNat_or];exact(B3 (a.toBitVec|||b.toBitVec).isLt).trans (bB _ _)
theorem Aed :Wr a b=a^^^b:=by
 simp only[Wr,q_,Js];apply UInt64.toNat_inj.1;rw[P6,ni];exact(B3 (a.toBitVec^^^b.toBitVec).isLt).trans (fI _ _)
theorem OI(n:Nat):(Dp a n).toNat=a.toNat*2^n %18446744073709551616:=by
 have h:(a.toNat:Int)*2^min n (IntKind.bits .u64)=((a.toNat*2^min n 64:Nat):Int):=by simp[IntKind.bits]
 simp only[Dp,Ua,h,Js,P6]
 show a.toNat*2^min n 64 %18446744073709551616=_;rcases X4 n 64 with h|h
 ·rw[T! h]
 ·rw[Vy h];obtain⟨d,rfl⟩:=m_ h;rw[X5,<-N9,eZ,TC,TC]
theorem CE(n:Nat):(Cl a n).toNat=a.toNat/2^n:=by
 have h:(a.toNat:Int).fdiv (2^min n (IntKind.bits .u64))=((a.toNat/2^min n 64:Nat):Int):=by
  rw[T9 _ (gH (ZF F4))];simp[IntKind.bits]
 have hlt:=a.toNat_lt;have hle:=SW a.toNat (2^min n 64);simp only[Cl,Ua,h,Js,P6]
 show a.toNat/2^min n 64 %18446744073709551616=_;rw[B3 F0];rcases X4 n 64 with h|h
 ·rw[T! h]
 ·rw[Vy h];rw[UU F0,UU];exact E5 hlt (IV F4 h)
theorem D9:geq a b=(a==b):=by
 rw[N4];simp[geq,Ua,bK,YS]
theorem C9:Bg a b=(a !=b):=by
 rw[N4];simp[Bg,Ua,bK,YS]
theorem qg:Cx a b=decide (a.toNat<b.toNat):=by simp[Cx,Ua]
theorem qZ:Eg a b=decide (b.toNat<a.toNat):=by simp[Eg,Ua]
theorem Ahu:(Ah a:Int)=wrap64 (a.toNat:Int):=rfl
end
section
variable (a b:Int)
theorem Avo:Ae a b=wrap64 (a+b):=rfl
theorem Avq:Ap a b=wrap64 (a-b):=rfl
theorem Avb:Cm a b=wrap64 (a*b):=rfl
theorem L_:Ej a b=wrap64 (a.tdiv b):=rfl
theorem jQ:nC a=wrap64 (0-a):=rfl
theorem Dh:geq a b=(a==b):=rfl
theorem Bj:Bg a b=(a !=b):=rfl
theorem Ag:Cx a b=decide (a<b):=rfl
theorem yH:MQ a b=decide (a<=b):=rfl
theorem Be:Eg a b=decide (a>b):=rfl
theorem Gf:Ha a b=decide (a>=b):=rfl
theorem PO:Fy a b=min a b:=by unfold Fy;show(if b<a then b else a)=_;omega
theorem wu:wZ a b=max a b:=by unfold wZ;show(if b>a then b else a)=_;omega
end
end Go.Lv
namespace Go.Lv
open Go.RowKit
theorem Asa{k:IntKind}{n:Int}(h:(Lit.int k n).wf=true):k.wrap n=n:=by
 simp only[Lit.wf,A9,B2]at h;obtain⟨h1,h2⟩:=h;cases k<;>simp only[IntKind.min,IntKind.max,IntKind.bits,IntKind.signed,IntKind.wrap]at*<;>(try simp at *)<;>(try split)<;>omega
section
variable {T:Type} {k:IntKind} [GI T k]
theorem wf_ofZ{n:Int}(h:(Lit.int k n).wf=true):(.int k n:Value)=iv (GI.ofZ n:T):=by
 rw[<-On,Asa h]
theorem row_rd{w:World}{a:Option Addr}{len cap M:Nat}{zs:List Int}
  (h:(a=none/\len=0/\cap=0/\zs=[])\/∃x,a=some x/\len<=cap/\cap<=M/\zs.length=cap/\ (∀i,i<zs.length->w.cell? (x.add i)=some (.int k (zs.getD i 0)))/\∀n∈zs,(Lit.int k n).wf=true):
  ∃l:List T,Rd (λ_=>True) w 1 (.slice a len cap) (We l):=by
 rcases h with⟨rfl,rfl,rfl,rfl⟩|⟨x,rfl,hl,hm,hz,hcell,hwz⟩
 ·exact⟨[],Rd.nil⟩
 ·refine⟨(zs.take len).map GI.ofZ,some x,len,cap,rfl,by simp[We];omega,hl,(λh=>by cases h),λhc=>?_⟩;obtain⟨b,off,spot⟩:=x;have hc0:=hcell 0 F0;have hspot:spot=none:=by simpa [Addr.add]using World.cell?_spot hc0
  subst hspot;simp only[Lb]at hcell;have hb:∃arr T fr,w.heap[b]? =some (.cells arr T fr):=by
   have:=hcell 0 F0;unfold World.cell? at this;split at this
   ·rename_i arr T fr hh;exact⟨arr,T,fr,by simpa using hh⟩
   ·cases this
  obtain⟨arr,E,fr,hb⟩:=hb;refine⟨b,off,arr,E,fr,rfl,trivial,hb,?_,λi hi=>?_⟩
  ·have:=hcell (cap-1) F0;rw[cell_of hb]at this;have:=(Array.getElem?_eq_some_iff.1 this).1;omega
  ·have h1:=hcell i F0;rw[cell_of hb]at h1;rw[h1];have hlt:i<len:=F0
   have hzi:i<zs.length:=F0
   have hmem:zs.getD i 0∈zs:=by
    rw[B4,C? hzi];exact N5 hzi
   rw[wf_ofZ (T:=T) (hwz _ hmem)];simp only[We,ZE,V?,SI];rw[A7 hlt,C? hzi];simp[B4,C? hzi]
end
end Go.Lv
namespace Go.Rx
open Go Go.Lv
variable{listed:Array Bool}{a m j x:Nat}{R:Type}
abbrev Cp.{u} {α:Sort u} (c:Bool) (a b:α):α:=match c with|true=>a|false=>b
theorem Ui.{u} {α:Sort u} (a b:α):Cp true a b=a:=rfl
theorem Sn.{u} {α:Sort u} (a b:α):Cp false a b=b:=rfl
inductive Kd|i64|u8|u32|u64|i32|i8 deriving DecidableEq
@[reducible] def Kd.T:Kd->Type| .i64=>Int| .u8=>UInt8| .u32=>UInt32| .u64=>UInt64| .i32=>Int32| .i8=>Int8
@[reducible] def Kd.k:Kd->IntKind| .i64=> .i64| .u8=> .u8| .u32=> .u32| .u64=> .u64| .i32=> .i32| .i8=> .i8
@[reducible] instance Kd.gi:(k:Kd)->GI k.T k.k
 | .i64=>inferInstanceAs (GI Int .i64)| .u8=>inferInstanceAs (GI UInt8 .u8)| .u32=>inferInstanceAs (GI UInt32 .u32)
 | .u64=>inferInstanceAs (GI UInt64 .u64)| .i32=>inferInstanceAs (GI Int32 .i32)| .i8=>inferInstanceAs (GI Int8 .i8)
def Kd.of:IntKind->Option Kd| .i64=>some .i64| .u8=>some .u8| .u32=>some .u32| .u64=>some .u64| .i32=>some .i32| .i8=>some .i8|_=>none
inductive ET|int (k:Kd)|bool|str|list (e:ET)|vec (n:Nat) (e:ET)|cons (a r:ET)|nil deriving DecidableEq
@[reducible] def ET.T:ET->Type
 | .int k=>k.T| .bool=>Bool| .str=>List UInt8| .list e=>List e.T| .vec _ e=>List e.T| .cons a r=>a.T×r.T| .nil=>Unit
def ET.size:ET->Nat
 | .int _=>1| .bool=>1| .str=>1| .list _=>1| .vec n e=>n*e.size| .cons a r=>a.size+r.size| .nil=>0
def ET.zero:(e:ET)->e.T
 | .int k=>k.gi.ofZ 0| .bool=>false| .str=>[]| .list _=>[]| .vec n e=>List.replicate n e.zero| .cons a r=>(a.zero,r.zero)| .nil=>()
def lM:Bool->Bool->Bool|true,b=>b|false,b=>!b
def Kd.isU:Kd->Bool| .u8=>true| .u32=>true| .u64=>true|_=>false
def kV:BinOp->Bool| .shl=>true| .shr=>true|_=>false
def ET.isS:ET->Bool| .cons _ _=>true| .nil=>true|_=>false
inductive Step|fld (n off:Nat)|idx (j:Int) (s:Nat)
inductive PV
 |val (e:ET) (x:e.T)
 |agg (l:List PV)
 |tup (l:List PV)
 |nils
 |own (i:Nat)
 |ptr (i:Nat) (p:List Step)
 |rptr (v:PV)
 |view (o:Bool) (i:Nat) (p:List Step) (e:ET) (lo n:Int)
 |fn (f:Nat) (caps:List PV)
 |cap (e:ET) (x:List e.T) (c:Int)
 |mp (st:Bool) (ks:List (List UInt8)) (vs:List PV)
 |bfn (f:Nat) (fs:List PV)
 |wp (i:Nat)
 |cst (v:Value)
 |gd (t:Nat) (want:Bool) (v:PV)
 |any
 |off
 |undef
abbrev PV.i(k:Kd)(x:k.T):PV:= .val (.int k) x
abbrev PV.b(b:Bool):PV:= .val .bool b
def PV.size:PV->Nat
 | .val e _=>e.size
 | .agg l=>go l
 |_=>1
where go:List PV->Nat
 |[]=>0
 |a::r=>a.size+go r
def ET.pvl:(e:ET)->e.T->List PV
 | .cons a r,(x,y)=>(Cp (a.isS) (.agg (a.pvl x))<| .val a x)::r.pvl y
 | .nil,_=>[]
 |e,x=>[.val e x]
def ET.pv(e:ET)(x:e.T):PV:=Cp (e.isS) (.agg (e.pvl x))<| .val e x
def ZU(e e':ET)(x:e.T):Option e'.T:=if h:e=e' then some (h▸x)else none
def ET.zA:(e:ET)->Option e.T| .list _=>some []|_=>none
def ZQ(e:ET)(rec:List PV->Option e.T):PV->Option e.T
 | .val e' x=>ZU e' e x
 | .agg l=>rec l
 | .nils=>e.zA
 |_=>none
def ET.ofl:(e:ET)->List PV->Option e.T
 | .cons a r,p::ps=>Option.bind (ZQ a a.ofl p) λx=>Option.bind (r.ofl ps) λy=>some (x,y)
 | .nil,[]=>some ()
 |_,_=>none
def ET.of(e:ET)(p:PV):Option e.T:=ZQ e e.ofl p
inductive Item
 |dead
 |box (T:TypeId) (v:PV)
 |arr (E:TypeId) (e:ET) (l:List e.T)
abbrev Slots:=List (Nat×PV)
structure S where
 sl:Slots
 it:List Item
 st:List Slots:=[]
def Yp:Slots->Nat->PV
 |[],_=> .undef
 |(t,v)::r,d=>Cp (Nat.beq t d) (v)<|Yp r d
def xS(d:Nat):Slots->Slots
 |[]=>[]
 |(t,v)::r=>Cp (Nat.beq t d) (xS d r)<|match v with
  | .gd j _ _=>Cp (Nat.beq j d) (xS d r)<|(t,v)::xS d r
  |_=>(t,v)::xS d r
def j? (s:Slots)(d:Nat)(v:PV):Slots:=(d,v)::xS d s
def S.set(s:S)(d:Nat)(v:PV):S:=⟨j? s.sl d v,s.it,s.st⟩
def S.Gc(s:S)(d:Option Nat)(v:PV):S:=match d with|some d=>s.set d v|none=>s
def YF(t:Nat)(b:Bool):Slots->Slots
 |[]=>[]
 |(q,v)::r=>(Cp (Nat.beq q t) ((q, .cst (.bool b)))<|match v with
  | .gd j want u=>Cp (Nat.beq j t) ((q,Cp (lM want b) (u)<| .off))<|(q,v)
  |_=>(q,v))::YF t b r
def S.res(s:S)(t:Nat)(b:Bool):S:=⟨YF t b s.sl,s.it,s.st⟩
def Cs(l:List Item)(i:Nat):Item:=match l with|[]=> .dead|a::r=>match i with|0=>a|i+1=>Cs r i
def CQ(l:List Item)(i:Nat)(a:Item):List Item:=match l with|[]=>[]|b::r=>match i with|0=>a::r|i+1=>b::CQ r i a
def S.add(s:S)(a:Item):S:=⟨s.sl,s.it++[a],s.st⟩
def S.Mr(s:S)(i:Nat)(a:Item):S:=⟨s.sl,CQ s.it i a,s.st⟩
def S.new(s:S):Nat:=s.it.length
def bytesOf(b:ByteArray):List UInt8:=b.data.toList
def ofConst:Value->PV
 | .int k n=>match Kd.of k with
  |some kd=>Cp (decide (kd.gi.toZ (kd.gi.ofZ n)=n)) (.i kd (kd.gi.ofZ n))<| .cst (.int k n)
  |none=> .cst (.int k n)
 | .bool b=> .b b
 | .string s=> .val .str (bytesOf s)
 | .slice none 0 0=> .nils
 | .agg _=> .undef
 | .tuple _=> .undef
 |v=> .cst v
def Eh(s:Slots):Operand->PV
 | .tmp t=>match Yp s t with| .cst (.bool b)=> .b b|v=>v
 | .const v=>ofConst v
 | .func f=> .fn f []
 | .global g=> .undef
def XK(P:Program):Nat->TypeId->Option ET
 |0,_=>none
 |q+1,t=>match P.underlying t with
  |some (.int k)=>(Kd.of k).map .int
  |some .bool=>some .bool
  |some .string=>some .str
  |some (.slice e)=>(XK P q e).map .list
  |some (.array n e)=>(XK P q e).map (.vec n)
  |some (.struct fs)=>yJ fs.toList (XK P q)
  |_=>none
where yJ (fs:List Field) (rec:TypeId->Option ET):Option ET:=match fs with
  |[]=>some .nil
  |f::r=>match rec f.type,yJ r rec with
   |some a,some b=>some (.cons a b)
   |_,_=>none
abbrev Q:Nat:=20
def W6:List PV->Nat->Nat
 |a::r,n+1=>a.size+W6 r n
 |_,_=>0
def zV:PV->List Step->Option PV
 |v,[]=>some v
 | .agg l, .fld n off::r=>match l[n]? with
  |some f=>Cp (Nat.beq (W6 l n) off) (zV f r)<|none
  |none=>none
 |_,_=>none
def elems(s:S)(e:ET):PV->Option (List e.T)
 | .val e' x=>match e',x with
  | .list a,l=>if h:a=e then some (h▸l)else none
  |_,_=>none
 | .nils=>some []
 | .cap a l _=>if h:a=e then some (h▸l)else none
 | .own i=>match Cs s.it i with
  | .arr _ a l=>if h:a=e then some (h▸l)else none
  |_=>none
 | .view true i _ e1 lo n=>match Cs s.it i with
  | .arr _ a l=>if h:a=e then(Cp (decide (e1=e)) (some (h▸QL l lo n))<|none)else none
  |_=>none
 |_=>none
def uE(s:S)(e:ET):PV->Option (List e.T)
 | .view false i p e1 lo n=>match Cs s.it i with
  | .box _ v=>match zV v p with
   |some (.val a x)=>match a,x with
    | .vec m a,l=>Cp (decide (0<=lo/\0<=n/\lo+n<=m)&&decide (e1=e)) ((if h:a=e then some (h▸QL l lo n)else none))<|none
    |_,_=>none
   |_=>none
  |_=>none
 |v=>elems s e v
def jr(k:Kd)(o:BinOp)(x y:k.T):Option PV:=
 match o with
 | .add=>some (.i k (Ae x y))| .sub=>some (.i k (Ap x y))| .mul=>some (.i k (Cm x y))
 | .and=>some (.i k (Ed x y))| .or=>some (.i k (pO x y))| .xor=>some (.i k (Wr x y))
 | .eql=>some (.b (geq x y))| .neq=>some (.b (Bg x y))| .lss=>some (.b (Cx x y))| .leq=>some (.b (MQ x y))| .gtr=>some (.b (Eg x y))| .geq=>some (.b (Ha x y))
 |_=>none
def yT:(k:Kd)->k.T->k.T->Option k.T
 | .i64,x,y=>some (Me x y)| .u8,x,y=>some (b_ x y)| .u32,x,y=>some (b_ x y)| .u64,x,y=>some (b_ x y)|_,_,_=>none
def zG:(k:Kd)->k.T->Nat->Option k.T
 | .i64,x,n=>some (s_ x n)| .u8,x,n=>some (Cl x n)| .u32,x,n=>some (Cl x n)| .u64,x,n=>some (Cl x n)| .i32,x,n=>some (Cl x n)|_,_,_=>none
def Y1(o:BinOp)(k:Kd)(x:k.T)(k':Kd)(y:k'.T):Option PV:=
 match o with
 | .quo=>if h:k'=k then some (.i k (Ej x (h▸y)))else none
 | .rem=>if h:k'=k then(yT k x (h▸y)).map (.i k)else none
 | .shl=>some (.i k (Dp x (k'.gi.toZ y).toNat))
 | .shr=>(zG k x (k'.gi.toZ y).toNat).map (.i k)
 |_=>none
def Y9(o:BinOp)(k':Kd)(y:k'.T):Option Bool:=
 match o with
 | .quo| .rem=>some (Bg y (k'.gi.ofZ 0))
 | .shl| .shr=>some (Cp (k'.isU) (true)<|Ha y (k'.gi.ofZ 0))
 |_=>none
def isK:Operand->Bool| .const _=>true|_=>false
def yN:BinOp->Bool| .quo=>true| .rem=>true| .shl=>true| .shr=>true|_=>false
def kI(o:BinOp)(y:Bool)(k:Kd)(a:k.T)(k':Kd)(c:k'.T):Option PV:=
 Cp (yN o) ((Cp (y) ((match Y9 o k' c with|some true=>Y1 o k a k' c|_=>none))<|Cp (k'.isU&&kV o) (Y1 o k a k' c)<|none)
 )<|if h:k'=k then jr k o a (h▸c)else none
def jK(c:Bool)(lit:Option Bool)(a b:PV):Option PV:=
 match a,b with
 | .val .bool x, .val .bool y=>match lit with
  |some true=>some (.b (c||y))
  |some false=>some (.b (c&&x))
  |none=>some (.b (Cp (c) (x)<|y))
 | .val e x, .val e' y=>if h:e'=e then some (.val e (if c=true then x else h▸y))else none
 |_,_=>none
def YC(t:Nat)(b:Bool):PV->PV
 | .gd j want v=>Cp (Nat.beq j t&&lM want b) (v)<| .undef
 |v=>v
def YI:Operand->Option Bool| .const (.bool b)=>some b|_=>none
def xX(b:Bool)(x y:PV):Option PV:=match Cp (b) (x)<|y with| .undef=>none| .off=>none| .gd _ _ _=>none|v=>some v
def PV.xq:PV->Bool| .undef=>false| .off=>false| .gd _ _ _=>false| .tup _=>false|_=>true
def J6:List PV->Bool|[]=>true|a::r=>a.xq&&J6 r
def Z8(n:Nat)(e:ET)(l:List PV):Option PV:=
 match go l with
 |some x=>Cp (Nat.beq x.length n) (some (.val (.vec n e) x))<|none
 |none=>none
where go:List PV->Option (List e.T)
 |[]=>some []
 |a::r=>match e.of a,go r with|some x,some y=>some (x::y)|_,_=>none
def uV(f:TypeId->List Value->Option (PV×List Value)):List TypeId->List Value->Option (List PV×List Value)
 |[],cs=>some ([],cs)
 |t::ts,cs=>match f t cs with
  |some (v,cs')=>match uV f ts cs' with
   |some (vs,r)=>some (v::vs,r)
   |none=>none
  |none=>none
def parse(P:Program):Nat->TypeId->List Value->Option (PV×List Value)
 |0,_,_=>none
 |q+1,t,cs=>match P.underlying t with
  |some (.struct fs)=>match uV (parse P q) (fs.toList.map (·.type)) cs with
   |some (vs,r)=>some (.agg vs,r)
   |none=>none
  |some (.array n e)=>match XK P q e,uV (parse P q) (List.replicate n e) cs with
   |some a,some (vs,r)=>match Z8 n a vs with
    |some v=>some (v,r)
    |none=>none
   |_,_=>none
  |some _=>match cs with
   |c::r=>Cp ((ofConst c).xq) (some (ofConst c,r))<|none
   |[]=>none
  |none=>none
def kR(P:Program)(t:TypeId)(v:Value):Option PV:=
 match parse P Q t v.cells.toList with|some (p,[])=>some p|_=>none
def zB(P:Program)(t:TypeId):Option Bool:=(P.underlying t).map Y4
def PV.isA:PV->Bool| .agg _=>true| .val (.vec _ _) _=>true|_=>false
def Ml(P:Program)(t:TypeId)(v:PV):Bool:=
 match zB P t with
 |some b=>lM b v.isA&&(match P.info? t with|some i=>Nat.beq i.size v.size|none=>false)&&(b||Nat.beq v.size 1)
 |none=>false
def J8(o:BinOp):Option Bool:=match o with| .eql=>some true| .neq=>some false|_=>none
def wm(P:Program)(rec:TypeId->PV->PV->Option Bool):List Field->List PV->List PV->Nat->Option Bool
 |[],[],[],_=>some true
 |f::fs,a::l,b::m,off=>Cp ((f.name== "_")|| !Nat.beq f.offset off|| !Ml P f.type a|| !Ml P f.type b|| !Nat.beq a.size b.size) (none)<|match rec f.type a b,wm P rec fs l m (off+a.size)with
  |some x,some y=>some (x&&y)
  |_,_=>none
 |_,_,_,_=>none
def gU(P:Program)(t:TypeId):Bool:=match P.underlying t with|some (.int _)=>true|_=>false
def eqV(P:Program):Nat->TypeId->PV->PV->Option Bool
 |0,_,_,_=>none
 |q+1,t,x,y=>match P.underlying t,x,y with
  |some (.int _), .val (.int k) a, .val (.int k') b=>if h:k'=k then some (geq a (h▸b))else none
  |some .bool, .val .bool a, .val .bool b=>some (a==b)
  |some .string, .val .str a, .val .str b=>some (a==b)
  |some (.struct fs), .agg l, .agg m=>Cp (P.stoodInHeld t) (none)<|wm P (eqV P q) fs.toList l m 0
  |some (.array n te), .val (.vec m (.int k)) a, .val (.vec m' (.int k')) b=>Cp (Nat.beq m n&&Nat.beq m' n&&Nat.blt 0 q&&Ml P te (.val (.int k) (GI.ofZ (T:=k.T) 0))&&gU P te) (if h:k'=k then some (ZT (T:=k.T) a (h▸b))else none)<|none
  |_,_,_=>none
def eB(P:Program)(s:S)(t:TypeId)(x:Operand):Option PV:=match x with
 | .const (.agg cs)=>kR P t (.agg cs)
 |x=>some (Eh s.sl x)
def kW(P:Program)(s:S)(o:BinOp)(t:TypeId)(x y:Operand):Option PV:=match J8 o,eB P s t x,eB P s t y with
 |some q,some (.agg l),some (.agg m)=>Cp (P.eqGuardType P.depth t) (none)<|(eqV P Q t (.agg l) (.agg m)).map λb=> .b (Cp (q) (b)<| !b)
 |_,_,_=>none
def op0(P:Program)(s:S):Op->Option PV
 | .move x=>match Eh s.sl x with| .undef=>none| .off=>none| .gd _ _ _=>none|v=>some v
 | .assign x=>match Eh s.sl x with| .undef=>none| .off=>none| .gd _ _ _=>none|v=>some v
 | .binOp o t x y _=>match Eh s.sl x,Eh s.sl y with
  | .val (.int k) a, .val (.int k') c=>kI o (isK y) k a k' c
  | .val .bool a, .val .bool c=>match P.underlying t with
   |some .bool=>match o with| .eql=>some (.b (a==c))| .neq=>some (.b (a !=c))|_=>none
   |_=>none
  | .val .str a, .val .str c=>match o with| .eql=>some (.b (a==c))| .neq=>some (.b (a !=c))|_=>none
  |_,_=>kW P s o t x y
 | .unOp o _ x=>match Eh s.sl x with
  | .val (.int k) a=>match o with| .neg=>some (.i k (nC a))| .xor=>some (.i k (U8 a))|_=>none
  | .val .bool a=>match o with| .not=>some (.b (!a))|_=>none
  |_=>none
 | .pick c a b=>match c,Yp s.sl (match c with| .tmp t=>t|_=>0)with
  | .tmp t, .cst (.bool x)=>xX x (YC t true (Eh s.sl a)) (YC t false (Eh s.sl b))
  | .tmp t, .val .bool x=>jK x (match YI a with|some true=>some true|_=>match YI b with|some false=>some false|_=>none) (YC t true (Eh s.sl a)) (YC t false (Eh s.sl b))
  |_,_=>none
 | .extract x i=>match Eh s.sl x with| .tup l=>l[i]? |_=>none
 | .convert a t x=>match Eh s.sl x,P.underlying t,P.underlying a with
  | .val (.int k) v,some (.int k'),some _=>match Kd.of k' with|some kd=>some (.i kd (Ah v))|none=>none
  |_,_,_=>none
 | .makeFunc (.func f) fs cs=>match fs.toList with
  |[]=>Cp (J6 (cs.toList.map (Eh s.sl))) (some (.fn f (cs.toList.map (Eh s.sl))))<|none
  |f1::fr=>match cs.toList with
   |[]=>Cp (J6 ((f1::fr).map (Eh s.sl))) (some (.bfn f ((f1::fr).map (Eh s.sl))))<|none
   |_=>none
 | .nilCheck x=>match Eh s.sl x with| .ptr i p=>some (.ptr i p)| .rptr v=>some (.rptr v)|_=>none
 | .fieldAddr t x f=>match Eh s.sl x,fieldInfo P t f with
  | .ptr i p,some (off,z)=>Cp (Nat.beq z 0) (none)<|some (.ptr i (p++[.fld f off]))
  | .rptr (.agg l),some (off,z)=>match l[f]? with
   |some u=>Cp (!Nat.beq z 0&&Nat.beq (W6 l f) off) (some (.rptr u))<|none
   |none=>none
  |_,_=>none
 | .call ⟨.builtin .min,as,_⟩=>match as.toList with
  |[x,y]=>match Eh s.sl x,Eh s.sl y with
   | .val (.int k) a, .val (.int k') c=>if h:k'=k then some (.i k (Fy a (h▸c)))else none
   |_,_=>none
  |_=>none
 | .call ⟨.builtin .max,as,_⟩=>match as.toList with
  |[x,y]=>match Eh s.sl x,Eh s.sl y with
   | .val (.int k) a, .val (.int k') c=>if h:k'=k then some (.i k (wZ a (h▸c)))else none
   |_,_=>none
  |_=>none
 |_=>none
def op1(P:Program)(s:S):Op->Option PV
 | .load t x=>match Eh s.sl x with
  | .ptr i p=>match Cs s.it i with
   | .box _ v=>match zV v p with
    |some u=>Cp (Ml P t u) (some u)<|none
    |none=>none
   |_=>none
  | .rptr u=>Cp (Ml P t u) (some u)<|none
  |_=>none
 | .convert a t x=>match P.underlying t with
  |some .string=>match P.underlying a with
   |some (.slice e)=>match P.underlying e with
    |some (.int .u8)=>(elems s (.int .u8) (Eh s.sl x)).map λl=> .val .str l
    |_=>none
   |_=>none
  |_=>none
 | .call ⟨.builtin .len,as,ts⟩=>match as.toList,ts.toList with
  |[x],[t]=>match P.underlying t with
   |some .string=>match Eh s.sl x with| .val .str l=>some (.i .i64 (Ad l))|_=>none
   |some (.slice _)=>match Eh s.sl x with
    | .val (.list e) l=>Cp (Nat.beq e.size 0) (none)<|some (.i .i64 (Ad l))
    | .nils=>some (.i .i64 (0:Int))
    | .view _ _ _ _ _ n=>some (.i .i64 n)
    | .own i=>match Cs s.it i with
     | .arr _ e l=>Cp (Nat.beq e.size 0) (none)<|some (.i .i64 (Ad l))
     |_=>none
    |_=>none
   |some (.array n _)=>some (.i .i64 (n:Int))
   |_=>none
  |_,_=>none
 |_=>none
inductive Sh|lf (e:ET) (own:Option TypeId)|agg (l:List Sh)
def Zb:List (ET×Option TypeId)->Type
 |[]=>Unit
 |[p]=>p.1.T
 |p::q::r=>p.1.T×Zb (q::r)
def Sh.leaves:Sh->List (ET×Option TypeId)
 | .lf e o=>[(e,o)]
 | .agg l=>go l
where go:List Sh->List (ET×Option TypeId)
 |[]=>[]
 |a::r=>a.leaves++go r
def Qo(l:List Sh):List (ET×Option TypeId):=Sh.leaves.go l
structure Con where
 ps:List Sh
 rs:List Sh
 fn:Zb (Qo ps)->Option (Zb (Qo rs))
def Uj:Sh->PV->Option (List PV)
 | .lf _ _,v=>some [v]
 | .agg l, .agg vs=>go l vs
 |_,_=>none
where go:List Sh->List PV->Option (List PV)
 |[],[]=>some []
 |a::r,v::vs=>match Uj a v,go r vs with
  |some x,some y=>some (x++y)
  |_,_=>none
 |_,_=>none
def R2(s:S)(e:ET)(v:PV):Option (List e.T):=elems s e v
def jZ(s:S):(e:ET)->PV->Option e.T
 | .list e,v=>R2 s e v
 |e, .val e' x=>ZU e' e x
 |_,_=>none
def LW(s:S):(es:List (ET×Option TypeId))->List PV->Option (Zb es)
 |[],vs=>match vs with|[]=>some ()|_=>none
 |[p],vs=>match vs with
  |[v]=>jZ s p.1 v
  |_=>none
 |p::q::r,vs=>match vs with
  |[]=>none
  |v::vs=>match jZ s p.1 v,LW s (q::r) vs with
   |some x,some y=>some (x,y)
   |_,_=>none
def Ff:(e:ET)->Option TypeId->e.T->S->PV×S
 | .list e,some E,l,s=>(.own s.new,s.add (.arr E e l))
 |e,_,x,s=>(.val e x,s)
def Es:(ls:List (ET×Option TypeId))->Zb ls->S->List PV×S
 |[],_,s=>([],s)
 |[p],x,s=>([(Ff p.1 p.2 x s).1],(Ff p.1 p.2 x s).2)
 |p::q::r,(x,y),s=>((Ff p.1 p.2 x s).1::(Es (q::r) y (Ff p.1 p.2 x s).2).1,(Es (q::r) y (Ff p.1 p.2 x s).2).2)
def Rk:Sh->List PV->Option (PV×List PV)
 | .lf _ _,v::vs=>some (v,vs)
 | .lf _ _,[]=>none
 | .agg l,vs=>match go l vs with
  |some (us,r)=>some (.agg us,r)
  |none=>none
where go:List Sh->List PV->Option (List PV×List PV)
 |[],vs=>some ([],vs)
 |a::r,vs=>match Rk a vs with
  |some (u,vs')=>match go r vs' with
   |some (us,vs'')=>some (u::us,vs'')
   |none=>none
  |none=>none
def iK(l:List Sh)(vs:List PV):Option (List PV):=match Rk.go l vs with|some (us,[])=>some us|_=>none
def dU(l:List Sh)(vs:List PV):Option (List PV):=Uj.go l vs
def q!:List PV->PV|[v]=>v|l=> .tup l
def subst(i:Nat)(n:PV):PV->PV
 | .agg l=> .agg (go i n l)
 | .tup l=> .tup (go i n l)
 | .own j=>Cp (Nat.beq i j) (n)<| .own j
 | .ptr j p=>Cp (Nat.beq i j) (.any)<| .ptr j p
 | .wp j=>Cp (Nat.beq i j) (.any)<| .wp j
 | .view o j p e lo n=>Cp (Nat.beq i j) (.any)<| .view o j p e lo n
 | .rptr v=> .rptr (subst i n v)
 | .fn f l=> .fn f (go i n l)
 | .mp st ks l=> .mp st ks (go i n l)
 | .bfn f l=> .bfn f (go i n l)
 | .gd t want v=> .gd t want (subst i n v)
 |v=>v
where go (i:Nat) (n:PV):List PV->List PV
 |[]=>[]
 |a::r=>subst i n a::go i n r
def tV(i:Nat)(n:PV):Item->Item
 | .box T v=> .box T (subst i n v)
 |a=>a
def dJ(i:Nat)(n:PV)(l:Slots):Slots:=l.map λp=>(p.1,subst i n p.2)
def S.sub(s:S)(i:Nat)(n:PV):S:=⟨dJ i n s.sl,s.it.map (tV i n),s.st.map (dJ i n)⟩
def S.freeze(s:S)(i:Nat):Option S:=match Cs s.it i with
 | .arr _ e l=>some ((s.Mr i .dead).sub i (.val (.list e) l))
 |_=>none
def Wy(i:Nat):List Nat->Bool|[]=>false|j::r=>Nat.beq i j||Wy i r
def consume(s:S):List (ET×Option TypeId)->List PV->Option (List Nat)
 |[],[]=>some []
 |(e,o)::r,v::vs=>match o with
  |none=>consume s r vs
  |some E=>match e,v with
   | .list _, .nils=>consume s r vs
   | .list a, .own i=>match Cs s.it i with
    | .arr E' a' _=>Cp (Nat.beq E' E&&decide (a'=a)) ((consume s r vs).map (i:: ·))<|none
    |_=>none
   |_,_=>none
 |_,_=>none
def S.kill(s:S)(i:Nat):Option S:=match Cs s.it i with| .arr _ _ _=>some ((s.Mr i .dead).sub i .any)|_=>none
def S.xR(s:S):List Nat->Option S
 |[]=>some s
 |i::r=>match s.kill i with|some s'=>s'.xR r|none=>none
def RP:List Bool->Nat
 |[]=>0
 |b::l=>Nat.add (Cp b 1 0) (Nat.mul 2 (RP l))
theorem Ai9:∀(l:List Bool) (j:Nat),(RP l).testBit j=l.getD j false
 |[],j=>by simp[RP]
 |b::l,0=>by
  have:RP (b::l)=(Cp b 1 0)+2*RP l:=rfl;rw[this];cases b<;>simp[Nat.testBit_zero,Cp]<;>omega
 |b::l,j+1=>by
  have:RP (b::l)=(Cp b 1 0)+2*RP l:=rfl;rw[this,Nat.testBit_succ,show((Cp b 1 0)+2*RP l)/2=RP l by cases b<;>simp[Cp]<;>omega,Ai9 l j];simp
def Y?:List Edge->Nat
 |[]=>0
 |e::l=>Nat.lor (Cp (Region.binds .any e) (Nat.shiftLeft 1 e.on) 0) (Y? l)
def Q2(o:Oper):Nat:=Y? o.after.toList
theorem gC:∀(l:List Edge) (j:Nat),(Y? l).testBit j=true↔∃e∈l,Region.binds .any e=true/\e.on=j
 |[],j=>by simp[Y?]
 |e::l,j=>by
  have h:Y? (e::l)=(Cp (Region.binds .any e) (1<<<e.on) 0)|||Y? l:=rfl;rw[h,ZB,R!,gC l j];cases hb:Region.binds .any e with
  |true=>
   rw[Ui,eU,Z!];simp[hb]
  |false=>
   rw[Sn];simp[hb]
theorem Aw8(h:Nat.beq (Nat.land a m) a=true)(hj:a.testBit j=true):m.testBit j=true:=by
 have h1:(a&&&m)=a:=S2 h;have h2:(a&&&m).testBit j=true:=by rw[h1];exact hj
 rw[bL,A9]at h2;exact h2.2
theorem Awn(h:∀j,a.testBit j=true->m.testBit j=true):Nat.beq (Nat.land a m) a=true:=by
 have h1:(a&&&m)=a:=eY λj=>by
  rw[bL];cases ha:a.testBit j with
  |false=>rfl
  |true=>rw[h j ha];rfl
 show Nat.beq (a&&&m) a=true;rw[h1];simp
theorem Ap2(h:Nat.beq (Nat.land a x) 0=true)(hj:a.testBit j=true):x.testBit j=false:=by
 have h1:(a&&&x)=0:=S2 h;have h2:(a&&&x).testBit j=false:=by rw[h1];simp
 rw[bL,hj,UY]at h2;exact h2
theorem Amo(h:Nat.beq (Nat.land a x) 0=false):∃j,a.testBit j=true/\x.testBit j=true:=by
 have h1:(a&&&x)≠0:=λe=>by
  have:Nat.beq (a&&&x) 0=false:=h;rw[e]at this;cases this
 obtain⟨j,hj⟩:=Nat.exists_testBit_of_ne_zero h1;rw[bL,A9]at hj;exact⟨j,hj⟩
def J1(m:Nat):Nat->List Oper->List Bool->List Nat
 |i,o::os,b::bs=>match b with
  |true=>J1 m (Nat.add i 1) os bs
  |false=>Cp (Nat.beq (Nat.land (Q2 o) m) (Q2 o)) (i::J1 m (Nat.add i 1) os bs)<|J1 m (Nat.add i 1) os bs
 |_,_,_=>[]
def g_(ops:Array Oper)(listed:Array Bool):List Nat:=J1 (RP listed.toList) 0 ops.toList listed.toList
theorem oU(listed:Array Bool)(j:Nat):(RP listed.toList).testBit j=listed.getD j false:=by
 rw[Ai9];simp[Sm,B4]
theorem Atq{o:Oper}:Nat.beq (Nat.land (Q2 o) (RP listed.toList)) (Q2 o)=(o.after.all λe=>!Region.binds .any e||listed.getD e.on false):=by
 rw[N4,Array.all_eq_true_iff_forall_mem];constructor
 ·intro h e he;cases hb:Region.binds .any e with
  |false=>rfl
  |true=>
   have:=Aw8 h ((gC _ _).2 ⟨e,by simpa using he,hb,rfl⟩);rw[oU]at this;simpa using this
 ·intro h;refine Awn λj hj=>?_;obtain⟨e,he,hb,rfl⟩:=(gC _ _).1 hj;have:=h e (by simpa using he);rw[hb]at this;rw[oU];simpa using this
theorem Ag7(m p:Nat)(o:Oper)(os:List Oper)(b:Bool)(bs:List Bool):J1 m p (o::os) (b::bs)=match b with
   |true=>J1 m (Nat.add p 1) os bs
   |false=>Cp (Nat.beq (Nat.land (Q2 o) m) (Q2 o)) (p::J1 m (Nat.add p 1) os bs)<|J1 m (Nat.add p 1) os bs:=rfl
theorem rR(ops:Array Oper)(listed:Array Bool):∀(os:List Oper) (bs:List Bool) (p:Nat),os=ops.toList.drop p->bs=listed.toList.drop p->
  J1 (RP listed.toList) p os bs=(List.range' p os.length).filter λi=>!listed.getD i true&&((ops[i]?).map (·.after.all λe=>!Region.binds .any e||listed.getD e.on false)).getD false
 |[],bs,p,ho,hb=>by simp[J1]
 |o::os,[],p,ho,hb=>by
  have hsz:listed.size<=p:=by
   have:=congrArg List.length hb;simp at this;omega
  rw[J1]
  ·symm;rw[List.filter_eq_nil_iff];intro i hi;rw[List.mem_range']at hi;obtain⟨k,_,rfl⟩:=hi;rw[Sm,eP F0];simp
  ·simp
 |o::os,b::bs,p,ho,hb=>by
  have ho1:ops[p]? =some o:=by
   have:=congrArg (·[0]?) ho;simpa using this.symm
  have hb1:listed[p]? =some b:=by
   have:=congrArg (·[0]?) hb;simpa using this.symm
  have ho2:os=ops.toList.drop (p+1):=by
   have:=congrArg List.tail ho;simpa using this
  have hb2:bs=listed.toList.drop (p+1):=by
   have:=congrArg List.tail hb;simpa using this
  have ih:=rR ops listed os bs (p+1) ho2 hb2;have hg:listed.getD p true=b:=by rw[Sm,hb1];rfl
  rw[Ag7,B6,nu,List.filter_cons,hg,ho1];cases b with
  |true=>
   rw[A4 F8];exact ih
  |false=>
   simp only[VN,Option.getD_some,nR,UY];rw[Atq];cases(o.after.all λe=>!Region.binds .any e||listed.getD e.on false)with
   |true=>rw[Ui,A7 rfl];exact congrArg (p:: ·) ih
   |false=>rw[Sn,A4 F8];exact ih
theorem Atp(ops:Array Oper)(listed:Array Bool):g_ ops listed=Region.ready .any ops listed:=by
 rw[g_,rR ops listed _ _ 0 F8 F8,Region.ready,nG];simp
def uT(ops:Array Oper)(T:Nat->Bool)(i bi:Nat)(oi:Oper):Nat->List Oper->List Bool->Nat->Bool
 |_,[],_,_=>true
 |_,_::_,[],_=>false
 |j,o::os,b::bs,acc=>match b with
  |true=>uT ops T i bi oi (Nat.add j 1) os bs acc
  |false=>Cp (Nat.beq j i) (uT ops T i bi oi (Nat.add j 1) os bs acc)<|
   Cp (Nat.beq (Nat.land (Q2 o) (Nat.lor acc bi)) 0)
    (Cp (T j&&oi.apart ops o) (uT ops T i bi oi (Nat.add j 1) os bs acc) false)
    (uT ops T i bi oi (Nat.add j 1) os bs (Nat.lor acc (Nat.shiftLeft 1 j)))
def J!(ops:Array Oper)(T:Nat->Bool)(listed:Array Bool)(i:Nat):Bool:=
 Region.noSelect ops&&(match ops[i]? with
  |some oi=>!listed.getD i true&&(Nat.beq (Nat.land (Q2 oi) (RP listed.toList)) (Q2 oi)&&uT ops T i (Nat.shiftLeft 1 i) oi 0 ops.toList listed.toList 0)
  |none=>false)
theorem Ag9(ops:Array Oper)(T:Nat->Bool)(i bi:Nat)(oi:Oper)(p:Nat)(o:Oper)(os:List Oper)(b:Bool)(bs:List Bool)(am:Nat):uT ops T i bi oi p (o::os) (b::bs) am=match b with
   |true=>uT ops T i bi oi (Nat.add p 1) os bs am
   |false=>Cp (Nat.beq p i) (uT ops T i bi oi (Nat.add p 1) os bs am)<|
    Cp (Nat.beq (Nat.land (Q2 o) (Nat.lor am bi)) 0)
     (Cp (T p&&oi.apart ops o) (uT ops T i bi oi (Nat.add p 1) os bs am) false)
     (uT ops T i bi oi (Nat.add p 1) os bs (Nat.lor am (Nat.shiftLeft 1 p))):=rfl
theorem qh{ops:Array Oper}{T:Nat->Bool}{listed:Array Bool}{i:Nat}{oi:Oper}:∀(os:List Oper) (bs:List Bool) (p:Nat) (acc:List Nat) (am:Nat),os=ops.toList.drop p->bs=listed.toList.drop p->
  (∀q,am.testBit q=true↔q∈acc)-> (∀j,j<p->j<ops.size-> (listed.getD j true||(Nat.beq j i||(acc.any (Nat.beq j)||(T j&&match ops[j]? with
  |some oj=>oi.apart ops oj
  |none=>true))))=true)->uT ops T i (Nat.shiftLeft 1 i) oi p os bs am=true->vo .any ops listed i (qG ops T listed i oi) (List.range' p os.length) acc=true
 |[],bs,p,acc,am,ho,hb,ha,hp,h=>by
  have hsz:ops.size<=p:=by
   have:=congrArg List.length ho;simp at this;omega
  rw[V5,List.range'_zero,vo,qG,XY];intro j hj;rw[ZA]at hj;exact hp j F0 hj
 |o::os,[],p,acc,am,ho,hb,ha,hp,h=>by simp[uT]at h
 |o::os,b::bs,p,acc,am,ho,hb,ha,hp,h=>by
  have ho1:ops[p]? =some o:=by
   have:=congrArg (·[0]?) ho;simpa using this.symm
  have hb1:listed[p]? =some b:=by
   have:=congrArg (·[0]?) hb;simpa using this.symm
  have ho2:os=ops.toList.drop (p+1):=by
   have:=congrArg List.tail ho;simpa using this
  have hb2:bs=listed.toList.drop (p+1):=by
   have:=congrArg List.tail hb;simpa using this
  have hg:listed.getD p true=b:=by rw[Sm,hb1];rfl
  have next:∀(acc':List Nat) (am':Nat),(∀q,am'.testBit q=true↔q∈acc')-> (∀q,q∈acc->q∈acc')-> ((listed.getD p true||(Nat.beq p i||(acc'.any (Nat.beq p)||(T p&&match ops[p]? with
   |some oj=>oi.apart ops oj
   |none=>true))))=true)->uT ops T i (Nat.shiftLeft 1 i) oi (p+1) os bs am'=true->vo .any ops listed i (qG ops T listed i oi) (List.range' (p+1) os.length) acc'=true:=by
   intro acc' am' h1 h2 h3 h4;refine qh os bs (p+1) acc' am' ho2 hb2 h1 (λj hj hjs=>?_) h4;by_cases hjp:j=p
   ·rw[hjp];exact h3
   ·have:=hp j F0 hjs;simp only[R!]at this⊢;rcases this with h|h|h|h
    ·exact .inl h
    ·exact .inr (.inl h)
    ·obtain⟨y,hy,hh⟩:=List.any_eq_true.1 h;exact .inr (.inr (.inl (List.any_eq_true.2 ⟨y,h2 y hy,hh⟩)))
    ·exact .inr (.inr (.inr h))
  rw[B6,nu,vo];rw[Ag9]at h;cases b with
  |true=>
   have hk:M5 .any ops listed i p acc=false:=by rw[M5,hg];rfl
   rw[hk];exact next acc am ha (λ_ h=>h) (by rw[hg];rfl) h
  |false=>
   simp only at h;cases hpi:Nat.beq p i with
   |true=>
    rw[hpi,Ui]at h;have hk:M5 .any ops listed i p acc=false:=by rw[M5,hpi];simp
    rw[hk];exact next acc am ha (λ_ h=>h) (by rw[hpi];simp) h
   |false=>
    rw[hpi,Sn]at h;cases hm:Nat.beq (Nat.land (Q2 o) (Nat.lor am (Nat.shiftLeft 1 i))) 0 with
    |true=>
     rw[hm,Ui]at h;have hk:M5 .any ops listed i p acc=false:=by
      rw[M5,ho1];simp only;cases hany:(o.after.any λe=>Region.binds .any e&&(Nat.beq e.on i||acc.any (Nat.beq e.on)))with
      |false=>simp
      |true=>
       exfalso;rw[<-Array.any_toList]at hany;obtain⟨e,he,hh⟩:=List.any_eq_true.1 hany;rw[A9,R!]at hh;have hbit:=Ap2 hm ((gC _ _).2 ⟨e,by simpa using he,hh.1,rfl⟩);have hbit:(am||| (1<<<i)).testBit e.on=false:=hbit;rw[ZB,YW,eU,Z!]at hbit;rcases hh.2 with h1|h1
       ·have:=S2 h1;simp[this]at hbit
       ·obtain⟨y,hy,h2⟩:=List.any_eq_true.1 h1;have:=S2 h2;have:=(ha e.on).2 (by rw[this];exact hy);rw[hbit.1]at this;cases this
     rw[hk];cases hT:(T p&&oi.apart ops o)with
     |false=>rw[hT,Sn]at h;cases h
     |true=>
      rw[hT,Ui]at h;exact next acc am ha (λ_ h=>h) (by rw[ho1];simp only;rw[hT];simp) h
    |false=>
     rw[hm,Sn]at h;have hk:M5 .any ops listed i p acc=true:=by
      rw[M5,ho1,hg,hpi];simp only[nR,UY];obtain⟨j,h1,h2⟩:=Amo hm;obtain⟨e,he,hb,rfl⟩:=(gC _ _).1 h1;rw[<-Array.any_toList];refine List.any_eq_true.2 ⟨e,by simpa using he,?_⟩;rw[hb,UY,R!];have h2:(am||| (1<<<i)).testBit e.on=true:=h2;rw[ZB,R!,eU,Z!]at h2;rcases h2 with h2|h2
      ·exact .inr (List.any_eq_true.2 ⟨e.on,(ha _).1 h2,F8⟩)
      ·left;have h2:i=e.on:=by simpa using h2
       rw[h2];simp
     rw[hk];refine next (p::acc) (Nat.lor am (Nat.shiftLeft 1 p)) (λq=>?_) (λ_ h=>H9 _ h) F8 h
     show(am||| (1<<<p)).testBit q=true↔_;rw[ZB,R!,eU,Z!,VQ,ha q];simp only[B2];constructor
     ·rintro(h|h)
      ·exact .inr h
      ·exact .inl h.symm
     ·rintro(h|h)
      ·exact .inr h.symm
      ·exact .inl h
theorem J_{ops:Array Oper}{T:Nat->Bool}{i:Nat}(h:J! ops T listed i=true):Gd ops T listed i=true:=by
 unfold J! at h;rw[A9]at h;obtain⟨h1,h2⟩:=h;cases ho:ops[i]? with
 |none=>rw[ho]at h2;cases h2
 |some oi=>
  rw[ho]at h2;simp only[A9]at h2;obtain⟨h3,h4,h5⟩:=h2;rw[Gd,h1,ho,UY,A9];refine⟨?_,?_⟩
  ·rw[List.contains_iff_mem,Region.ready,List.mem_filter,ZA];refine⟨(Array.getElem?_eq_some_iff.1 ho).1,?_⟩;have h4':=(Atq (listed:=listed)).symm.trans h4;rw[h3,ho,VN,Option.getD_some];exact h4'
  ·have:=qh (oi:=oi) (T:=T) (i:=i) (listed:=listed) ops.toList listed.toList 0 [] 0 F8 F8 (λq=>by simp) (λj hj=>absurd hj F0) h5;rw[YZ,<-nG]at this;exact this
def ny:List Bool->List Bool->Bool
 |t::zs,b::bs=>match t,b with
  |true,false=>false
  |_,_=>ny zs bs
 |_,_=>true
theorem Amj:∀(zs bs:List Bool),ny zs bs=true↔∀i,i<bs.length->zs.getD i false=true->bs.getD i false=true
 |[],bs=>by simp[ny]
 |t::zs,[]=>by simp[ny]
 |t::zs,b::bs=>by
  have ih:=Amj zs bs;have hs:(∀i,i<(b::bs).length-> (t::zs).getD i false=true-> (b::bs).getD i false=true)↔(t=true->b=true)/\∀i,i<bs.length->zs.getD i false=true->bs.getD i false=true:=by
   constructor
   ·intro h;exact⟨by simpa using h 0 F8,λi hi=>by simpa using h (i+1) (by simpa using hi)⟩
   ·rintro⟨h1,h2⟩ i hi;cases i with
    |zero=>simpa using h1
    |succ i=>simpa using h2 i (by simpa using hi)
  rw[hs,<-ih];cases t<;>cases b<;>simp[ny]
def c_(z listed:Array Bool):Bool:=ny z.toList listed.toList
def WK{R:Type}:PV->List Step-> (PV->Option R)->Option R
 |v,[],k=>k v
 | .agg l, .fld n off::r,k=>match l[n]? with
  |some f=>Cp (Nat.beq (W6 l n) off) (WK f r k)<|none
  |none=>none
 | .val e x, .idx j z::r,k=>match e,x with
  | .vec _ a,l=>Cp (Nat.beq a.size z) (Option.bind (Af l j) λy=>WK (a.pv y) r k)<|none
  |_,_=>none
 |_,_,_=>none
def h_{R:Type}(new:PV):PV->List Step-> (PV->Option R)->Option R
 |v,[],k=>Cp (Nat.beq new.size v.size) (k new)<|none
 | .agg l, .fld n off::r,k=>match l[n]? with
  |some f=>Cp (Nat.beq (W6 l n) off) (h_ new f r (λf'=>k (.agg (l.set n f'))))<|none
  |none=>none
 | .val e x, .idx j z::r,k=>match e,x with
  | .vec n a,l=>Cp (Nat.beq a.size z) ((match r with
   |[]=>match a.of new with
    |some y=>Option.bind (Pn l j y) λl'=>k (.val (.vec n a) l')
    |none=>none
   |_=>Option.bind (Af l j) λy=>h_ new (a.pv y) r (λp=>match a.of p with
    |some y'=>Option.bind (Pn l j y') λl'=>k (.val (.vec n a) l')
    |none=>none)))<|none
  |_,_=>none
 |_,_,_=>none
def getRoot{R:Type}:Item->List Step-> (PV->Option R)->Option R
 | .box _ v,p,k=>WK v p k
 | .arr _ e l, .idx j z::r,k=>Cp (Nat.beq e.size z) (Option.bind (Af l j) λy=>WK (e.pv y) r k)<|none
 |_,_,_=>none
def C8{R:Type}(new:PV):Item->List Step-> (Item->Option R)->Option R
 | .box T v,p,k=>h_ new v p λv'=>k (.box T v')
 | .arr E e l, .idx j z::r,k=>Cp (Nat.beq e.size z) ((match r with
   |[]=>match e.of new with
    |some y=>Option.bind (Pn l j y) λl'=>k (.arr E e l')
    |none=>none
   |_=>Option.bind (Af l j) λy=>h_ new (e.pv y) r (λp=>match e.of p with
    |some y'=>Option.bind (Pn l j y') λl'=>k (.arr E e l')
    |none=>none)))<|none
 |_,_,_=>none
def zeroOf(P:Program)(t:TypeId):Option PV:=
 match P.info? t with|some i=>(match i.zero with|some z=>kR P t z|none=>none)|none=>none
structure Tab where
 l:List (Nat×Con)
 gl:List (Nat×List Value)
 vw:Bool
 cp:Bool:=false
def lG:List (Nat×Con)->Nat->Option Con|[],_=>none|(g,c)::r,f=>Cp (Nat.beq g f) (some c)<|lG r f
def Tab.get(T:Tab)(f:Nat):Option Con:=lG T.l f
def e?:List (Nat×List Value)->Nat->Option (List Value)|[],_=>none|(g,c)::r,f=>Cp (Nat.beq g f) (some c)<|e? r f
def Tab.glv(T:Tab)(P:Program)(g:Nat)(t:TypeId):Option PV:=match e? T.gl g with
 |some cs=>match parse P Q t cs with|some (v,[])=>some v|_=>none
 |none=>none
abbrev fN(R:Type):=Nat->List PV->S-> (S->PV->Option R)->Option R
def kJ:PV->List Nat
 | .own i=>[i]
 | .ptr i _=>[i]
 | .wp i=>[i]
 | .view _ i _ _ _ _=>[i]
 | .agg l=>go l
 | .tup l=>go l
 | .fn _ l=>go l
 | .mp _ _ l=>go l
 | .bfn _ l=>go l
 |_=>[]
where go:List PV->List Nat
 |[]=>[]
 |a::r=>kJ a++go r
def owns:PV->List Nat
 | .own i=>[i]
 | .view _ i _ _ _ _=>[i]
 | .agg l=>go l
 | .tup l=>go l
 |_=>[]
where go:List PV->List Nat
 |[]=>[]
 |a::r=>owns a++go r
def Tl:List (ET×Option TypeId)->List PV->List Nat
 |p::r,v::vs=>match p.2 with|none=>owns v++Tl r vs|some _=>Tl r vs
 |_,_=>[]
def S.AV(s:S):List Nat->Option S
 |[]=>some s
 |i::r=>match Cs s.it i with
  | .dead=>s.AV r
  | .box _ _=>none
  | .arr _ _ _=>match s.freeze i with|some s'=>s'.AV r|none=>none
def asInt:PV->Option Int| .val e x=>(match e,x with| .int k,y=>(match k,y with| .i64,z=>some z|_,_=>none)|_,_=>none)|_=>none
def dX:PV->Option Int| .val e x=>(match e,x with| .int k,y=>some (k.gi.toZ y)|_,_=>none)|_=>none
def TU(s:Slots)(o:Option Operand)(dflt:Int):Option Int:=match o with|none=>some dflt|some x=>dX (Eh s x)
def uZ(P:Program)(t:TypeId):Option TypeId:=match P.underlying t with|some (.slice e)=>some e|_=>none
def dQ:Nat->List (Nat×Operand)->Bool
 |_,[]=>true
 |n,(i,_)::r=>Nat.beq n i&&dQ (n+1) r
def sj(e:ET):List PV->Option (List e.T)
 |[]=>some []
 |a::r=>match e.of a,sj e r with|some x,some y=>some (x::y)|_,_=>none
def H7(P:Program)(t:TypeId)(e:ET):Bool:=match P.info? t with
 |some i=>Nat.beq i.size e.size&&Nat.ble i.bytes 4096&&(match i.zero with|some z=>Nat.beq z.cells.size e.size|none=>false)&&Nat.ble 1 e.size
 |none=>false
def VB:List (Nat×PV)->List PV->Option (List PV)
 |[],l=>some l
 |(i,v)::r,l=>match l[i]? with
  |some u=>Cp (Nat.beq u.size v.size&&v.xq) (VB r (l.set i v))<|none
  |none=>none
def L9(e:ET):List (Nat×PV)->List e.T->Option (List e.T)
 |[],l=>some l
 |(i,v)::r,l=>match l[i]?,e.of v with
  |some _,some x=>L9 e r (l.set i x)
  |_,_=>none
def QF(P:Program):List Field->List PV->Nat->Bool
 |[],[],_=>true
 |f::fs,v::vs,off=>Nat.beq f.offset off&&(match P.info? f.type with|some i=>Nat.beq i.size v.size|none=>false)&&QF P fs vs (off+v.size)
 |_,_,_=>false
def i!{R:Type}(P:Program)(s:S)(d:Option Nat)(et:TypeId)(x:PV)(lo hi:Option Operand)(k:S->Option R):Option R:=
 match P.info? et with
 |none=>none
 |some inf=>match x with
  | .own i=>match Cs s.it i with
   | .arr _ e l=>Cp (Nat.beq inf.size e.size&&Nat.ble 1 e.size) ((match TU s.sl lo 0,TU s.sl hi (Ad l)with
    |some a,some b=>Option.bind (ZW (Ad l) a b) λ_=>k (s.Gc d (.view true i [] e a (b-a)))
    |_,_=>none))<|none
   |_=>none
  | .view o i p e l0 n=>Cp (Nat.beq inf.size e.size&&Nat.ble 1 e.size) ((match TU s.sl lo 0,TU s.sl hi n with
    |some a,some b=>Option.bind (ZW n a b) λ_=>k (s.Gc d (.view o i p e (l0+a) (b-a)))
    |_,_=>none))<|none
  |_=>none
def dW(P:Program)(t:TypeId):Option (TypeId×Nat×TypeId):=match P.underlying t with
 |some (.array m et)=>some (t,m,et)
 |some (.pointer u)=>match P.underlying u with|some (.array m et)=>some (u,m,et)|_=>none
 |_=>none
def Aom :PV->Bool| .own _=>true| .view _ _ _ _ _ _=>true|_=>false
def ze{R:Type}(vw:Bool)(s:S)(d:Option Nat)(t:TypeId)(x:Operand)(lo hi:Option Operand)(k:S->Option R)(P:Program):Option R:=
 match P.underlying t with
 |some .string=>match Eh s.sl x with
  | .val .str l=>match TU s.sl lo 0,TU s.sl hi (Ad l)with
   |some a,some b=>Option.bind (Cb l a b) λy=>k (s.Gc d (.val .str y))
   |_,_=>none
  |_=>none
 |some (.slice et)=>Cp (vw&&Aom (Eh s.sl x)) (i! P s d et (Eh s.sl x) lo hi k)<|match s.AV (owns (Eh s.sl x))with
  |none=>none
  |some s=>match Eh s.sl x with
   | .val e l=>match e,l with
    | .list e,l=>match P.info? et with
     |some i=>Cp (Nat.beq i.size e.size&&Nat.ble 1 e.size) ((match TU s.sl lo 0,TU s.sl hi (Ad l)with
      |some a,some b=>Option.bind (Cb l a b) λy=>k (s.Gc d (.val (.list e) y))
      |_,_=>none))<|none
     |none=>none
    |_,_=>none
   | .nils=>match P.info? et,TU s.sl lo 0,TU s.sl hi 0 with
    |some _,some a,some b=>Option.bind (ZW 0 a b) λ_=>k (s.Gc d .nils)
    |_,_,_=>none
   |_=>none
 |_=>match dW P t with
  |some (_,m,et)=>match P.info? et with
   |none=>none
   |some inf=>match Eh s.sl x with
    | .ptr i p=>match Cs s.it i with
     | .box _ v=>match zV v p with
      |some (.val e l)=>match e,l with
       | .vec m' e,_=>Cp (Nat.beq m' m&&Nat.beq inf.size e.size&&Nat.ble 1 e.size) ((match TU s.sl lo 0,TU s.sl hi m with
        |some a,some b=>Option.bind (ZW m a b) λ_=>k (s.Gc d (.view false i p e a (b-a)))
        |_,_=>none))<|none
       |_,_=>none
      |_=>none
     |_=>none
    |_=>none
  |none=>none
def M4{R:Type}(cp:Bool)(s:S)(d:Option Nat)(t:TypeId)(x:Operand)(lo:Option Operand)(hi mx:Operand)(k:S->Option R)(P:Program):Option R:=
 match P.underlying t with
 |some (.slice et)=>match s.AV (owns (Eh s.sl x))with
  |none=>none
  |some s=>match Eh s.sl x with
   | .val e l=>match e,l with
    | .list e,l=>match P.info? et with
     |some i=>Cp (Nat.beq i.size e.size&&Nat.ble 1 e.size) ((match TU s.sl lo 0,dX (Eh s.sl hi),dX (Eh s.sl mx)with
      |some a,some b,some c=>Option.bind (Gi (decide (b<=c/\c<=Ad l))) λ_=>Option.bind (Cb l a b) λy=>k (s.Gc d (Cp cp (.cap e y (c-a))<| .val (.list e) y))
      |_,_,_=>none))<|none
     |none=>none
    |_,_=>none
   |_=>none
 |_=>none
def wP{R:Type}(P:Program)(s:S)(d:Option Nat)(t:TypeId)(x ix:Operand)(k:S->Option R):Option R:=
 match dX (Eh s.sl ix)with
 |none=>none
 |some j=>match P.underlying t with
  |some (.slice et)=>match P.info? et with
   |none=>none
   |some inf=>match Eh s.sl x with
    | .val e l=>match e,l with
     | .list e,l=>Cp (Nat.beq inf.size e.size&&Nat.ble 1 e.size) (Option.bind (Af l j) λy=>k (s.Gc d (.rptr (e.pv y))))<|none
     |_,_=>none
    | .own i=>match Cs s.it i with
     | .arr _ e l=>Cp (Nat.beq inf.size e.size&&Nat.ble 1 e.size) (Option.bind (Af l j) λ_=>k (s.Gc d (.ptr i [.idx j e.size])))<|none
     |_=>none
    | .view _ i p e lo n=>Cp (Nat.beq inf.size e.size&&Nat.ble 1 e.size) (Option.bind (Gi (decide (0<=j/\j<n))) λ_=>k (s.Gc d (.ptr i (p++[.idx (lo+j) e.size]))))<|none
    |_=>none
  |some (.array n et)=>match P.info? et with
   |none=>none
   |some inf=>match Eh s.sl x with
    | .ptr i p=>match Cs s.it i with
     | .box _ v=>match zV v p with
      |some (.val e l)=>match e,l with
       | .vec m e,l=>Cp (Nat.beq inf.size e.size&&Nat.ble 1 e.size&&Nat.beq m n) (Option.bind (Af l j) λ_=>k (s.Gc d (.ptr i (p++[.idx j e.size]))))<|none
       |_,_=>none
      |_=>none
     |_=>none
    |_=>none
  |_=>none
def iD{R:Type}(P:Program)(s:S)(d:Option Nat)(t:TypeId)(x:Operand)(k:S->Option R):Option R:=
 match Eh s.sl x with
 | .ptr i p=>getRoot (Cs s.it i) p λu=>Cp (Ml P t u) (k (s.Gc d u))<|none
 |_=>none
def Ayu:Step->Bool| .idx _ _=>true|_=>false
def J9(s:S)(a x:Operand):Option S:=match Eh s.sl a with
 | .ptr _ p=>match p.any Ayu with|true=>s.AV (owns (Eh s.sl x))|false=>some s
 |_=>none
def D4:PV->Bool| .tup _=>false| .cst _=>false| .any=>false| .view _ _ _ _ _ _=>false| .mp _ _ _=>false| .cap _ _ _=>false|v=>v.xq
def xw{R:Type}(P:Program)(s0:S)(t:TypeId)(a x:Operand)(k:S->Option R):Option R:=
 match J9 s0 a x with
 |none=>none
 |some s=>match Eh s.sl a with
  | .ptr i p=>match P.info? t with
   |some inf=>Cp (D4 (Eh s.sl x)&&Nat.beq inf.size (Eh s.sl x).size&&Nat.blt 0 inf.size) (C8 (Eh s.sl x) (Cs s.it i) p λit'=>k (s.Mr i it'))<|none
   |none=>none
  |_=>none
def dH(s:S)(E:TypeId)(e:ET):PV->Option (S×Nat)
 | .nils=>some (s.add (.arr E e []),s.new)
 | .own i=>match Cs s.it i with
  | .arr E' e' _=>Cp (Nat.beq E E') ((if e'=e then some (s,i)else none))<|none
  |_=>none
 | .view true i p e1 lo n=>match Cs s.it i with
  | .arr E' e' l=>Cp (Nat.beq E E'&&decide (lo=0)&&decide (e1=e)) ((if h:e'=e then some (((s.Mr i .dead).sub i .any).add (.arr E e (QL (h▸l) 0 n)),s.new)else none))<|none
  |_=>none
 |_=>none
def kB(e:ET):Item->Option (List e.T)
 | .arr _ e' l=>if h:e'=e then some (h▸l)else none
 |_=>none
def kQ{R:Type}(P:Program)(s:S)(E:TypeId)(e:ET)(t2:TypeId)(y:Operand)(k:List e.T->Option R):Option R:=
 match P.underlying t2 with
 |some .string=>match Eh s.sl y with
  | .val .str m=>(match ZU (.list (.int .u8)) (.list e) m with|some m=>k m|none=>none)
  |_=>none
 |some (.slice _)=>match elems s e (Eh s.sl y)with|some m=>k m|none=>none
 |some (.int _)=>match asInt (Eh s.sl y),zeroOf P E with
  |some n,some z=>match e.of z with
   |some z=>Option.bind (mkI n z) k
   |none=>none
  |_,_=>none
 |_=>none
def l!(P:Program)(s:S)(e:ET)(t2:TypeId)(y:Operand):Option (List e.T):=match P.underlying t2 with
 |some .string=>match Eh s.sl y with
  | .val .str m=>ZU (.list (.int .u8)) (.list e) m
  |_=>none
 |some (.slice _)=>elems s e (Eh s.sl y)
 |_=>none
def lI(e:ET):PV->Option (List e.T×Int)| .cap a l c=>(if h:a=e then some (h▸l,c)else none)|_=>none
def M6{R:Type}(P:Program)(s:S)(d:Option Nat)(x y:Operand)(t t2:TypeId)(k:S->Option R):Option R:=
 match uZ P t with
 |none=>none
 |some E=>match XK P Q E with
  |none=>none
  |some e=>Cp (H7 P E e&&(Eh s.sl x).xq) ((match lI e (Eh s.sl x)with
   |some (l,c)=>match l! P s e t2 y with
    |some m=>Option.bind (Bf l m) λr=>Option.bind (Gi (decide (c<Ad r))) λ_=>k ((s.add (.arr E e r)).Gc d (.own s.new))
    |none=>none
   |none=>match dH s E e (Eh s.sl x)with
   |none=>none
   |some (s1,i)=>match kB e (Cs s1.it i)with
    |none=>none
    |some l=>kQ P s E e t2 y λm=>Option.bind (Bf l m) λr=>k ((((s1.Mr i .dead).sub i .any).add (.arr E e r)).Gc d (.own s1.new))))<|none
def Zi(P:Program)(s:S)(e:ET)(t2:TypeId)(y:Operand):Option (List e.T):=
 match P.underlying t2 with
 |some .string=>match Eh s.sl y with
  | .val .str m=>ZU (.list (.int .u8)) (.list e) m
  |_=>none
 |some (.slice _)=>uE s e (Eh s.sl y)
 |_=>none
def U_{R:Type}(P:Program)(s:S)(d:Option Nat)(x y:Operand)(t t2:TypeId)(k:S->Option R):Option R:=
 match uZ P t with
 |none=>none
 |some E=>match P.info? E with
  |none=>none
  |some inf=>match Eh s.sl x with
   | .own i=>match Cs s.it i with
    | .arr E' e l=>Cp (Nat.beq inf.size e.size&&Nat.ble 1 e.size) ((match Zi P s e t2 y with
     |some m=>k ((s.Mr i (.arr E' e (JT l m))).Gc d (.i .i64 (LK (Ad l) m.length)))
     |none=>none))<|none
    |_=>none
   | .view true i _ e1 lo n=>match Cs s.it i with
    | .arr E' e l=>Cp (Nat.beq inf.size e.size&&Nat.ble 1 e.size&&decide (e1=e)) ((match Zi P s e t2 y with
     |some m=>k ((s.Mr i (.arr E' e (Um l lo n m))).Gc d (.i .i64 (LK n m.length)))
     |none=>none))<|none
    |_=>none
   | .view false i p e1 lo n=>match Cs s.it i with
    | .box T v=>match zV v p with
     |some (.val a x)=>match a,x with
      | .vec q e,l=>Cp (Nat.beq inf.size e.size&&Nat.ble 1 e.size&&decide (e1=e)&&decide (0<=lo/\0<=n/\lo+n<=q)) ((match Zi P s e t2 y with
       |some m=>h_ (.val (.vec q e) (Um l lo n m)) v p λv'=>k ((s.Mr i (.box T v')).Gc d (.i .i64 (LK n m.length)))
       |none=>none))<|none
      |_,_=>none
     |_=>none
    |_=>none
   |_=>none
def zf{R:Type}(P:Program)(s:S)(d:Option Nat)(t:TypeId)(parts:List (Nat×Operand))(k:S->Option R):Option R:=
 match P.underlying t,zeroOf P t with
 |some (.struct fs),some (.agg zs)=>Cp (QF P fs.toList zs 0) ((match VB (parts.map λp=>(p.1,Eh s.sl p.2)) zs with
  |some l=>k (s.Gc d (.agg l))
  |none=>none))<|none
 |some (.array _ et),some (.val e l)=>match e,l with
  | .vec m a,l=>match P.info? et,L9 a (parts.map λp=>(p.1,Eh s.sl p.2)) l with
   |some inf,some l'=>Cp (Nat.beq inf.size a.size) (k (s.Gc d (.val (.vec m a) l')))<|none
   |_,_=>none
  |_,_=>none
 |_,_=>none
def bV{R:Type}(P:Program)(s0:S)(d:Option Nat)(t:TypeId)(len:Nat)(parts:List (Nat×Operand))(k:S->Option R):Option R:=
 match uZ P t with
 |none=>none
 |some E=>match XK P Q E with
  |none=>none
  |some e=>Cp (H7 P E e&&dQ 0 parts&&Nat.beq parts.length len&&Nat.ble (len*e.size) 4096) ((match s0.AV (owns.go (parts.map λp=>Eh s0.sl p.2))with
   |none=>none
   |some s=>match sj e (parts.map λp=>Eh s.sl p.2)with
    |some l=>k ((s.add (.arr E e l)).Gc d (.own s.new))
    |none=>none))<|none
def jB{R:Type}(P:Program)(s:S)(d:Option Nat)(t:TypeId)(a b:Operand)(k:S->Option R):Option R:=
 match uZ P t with
 |none=>none
 |some E=>match XK P Q E with
  |none=>none
  |some e=>Cp (H7 P E e) ((match asInt (Eh s.sl a),asInt (Eh s.sl b),zeroOf P E with
   |some n,some n',some z=>match e.of z with
    |some z=>Option.bind (mkI n z) λl=>Option.bind (Gi (geq n' n)) λ_=>k ((s.add (.arr E e l)).Gc d (.own s.new))
    |none=>none
   |_,_,_=>none))<|none
def ET.X3:ET->Bool| .list _=>true| .vec _ e=>e.X3| .cons a r=>a.X3||r.X3|_=>false
def jl:ET×Option TypeId->Bool|(.list e,some _)=>e.X3|(e,_)=>e.X3
def eG(rs:List Sh):Bool:=(Qo rs).any jl
def V8(c:Con):Bool:=eG c.rs
def mq(l:List (ET×Option TypeId)):Bool:=l.all λp=>p.2.isNone
def iZ{R:Type}(P:Program)(T:Tab)(inl:fN R)(s0:S)(d:Option Nat)(f:Nat)(caps:List PV)(as:List Operand)(k:S->Option R):Option R:=
 match T.get f with
 |some c=>match caps with
  |[]=>match dU c.ps (as.map (Eh s0.sl))with
   |none=>none
   |some ls0=>match(match V8 c with|true=>s0.AV (Tl (Qo c.ps) ls0)|false=>some s0)with
    |none=>none
    |some s=>Cp (!J6 (as.map (Eh s.sl))) (none)<|match dU c.ps (as.map (Eh s.sl))with
     |none=>none
     |some ls=>Cp (V8 c&& !(Tl (Qo c.ps) ls).isEmpty) (none)<|match LW s (Qo c.ps) ls with
      |none=>none
      |some x=>match consume s (Qo c.ps) ls with
       |none=>none
       |some is=>Cp (!((Tl (Qo c.ps) ls).all λi=>!Wy i is)) (none)<|match s.xR is with
        |none=>none
        |some s1=>Option.bind (c.fn x) λy=>
         match Es (Qo c.rs) y s1 with
         |(us,s')=>match iK c.rs us with
          |some vs=>k (s'.Gc d (q! vs))
          |none=>none
  |_=>none
 |none=>Cp (J6 (as.map (Eh s0.sl))) (inl f (as.map (Eh s0.sl)++caps) s0 (λs v=>k (s.Gc d v)))<|none
open Classical in
noncomputable def both{R:Type}(a:Option R):List (Option R)->Option R
 |[]=>a
 |b::r=>if a=b then both a r else none
theorem wJ(a:Option R):both a [a]=a:=by simp[both]
noncomputable def G5{R α:Type}(l:List α)(a b:Option R):Option R:=match l with|[]=>both a [b]|_::_=>b
theorem Ar0{α:Type}{l:List α}{a b:Option R}(h:l=[]->a=b):G5 l a b=b:=by
 cases l with
 |nil=>rw[h rfl];simp[G5,wJ]
 |cons _ _=>rfl
noncomputable def jg{R:Type}(P:Program)(s:S)(dn:Nat)(o:BinOp)(t:TypeId)(x:PV)(k:S->Option R):Option R:=
 match J8 o,P.underlying t with
 |some y,some (.slice _)=>match x with
  | .nils=>k (s.set dn (.b y))
  | .val e l=>match e,l with
   | .list e,l=>Cp (Nat.ble 1 e.size) (G5 l (k (s.set dn (.b y))) (k (s.set dn (.b (!y)))))<|none
   |_,_=>none
  | .own i=>match Cs s.it i with
   | .arr _ e l=>Cp (Nat.ble 1 e.size) (G5 l (k (s.set dn (.b y))) (k (s.set dn (.b (!y)))))<|none
   |_=>none
  |_=>none
 |_,_=>none
def pZ{R:Type}(P:Program)(T:Tab)(s:S)(dn:Nat)(g:Nat)(o:Op)(k:S->Option R):Option R:=
 match o with
 | .load t _=>match T.glv P g t with
  |some v=>Cp (Ml P t v) (k (s.set dn v))<|none
  |none=>none
 | .indexAddr t _ ix=>match dX (Eh s.sl ix),P.underlying t,T.glv P g t with
  |some j,some (.array m et),some (.val e l)=>match P.info? et,e,l with
   |some inf, .vec m' e,l=>Cp (Nat.beq m' m&&Nat.beq inf.size e.size&&Nat.ble 1 e.size) (Option.bind (Af l j) λy=>k (s.set dn (.rptr (e.pv y))))<|none
   |_,_,_=>none
  |_,_,_=>none
 | .slice t _ lo hi none=>match dW P t with
  |some (u,m,et)=>match T.glv P g u with
   |some (.val e l)=>match P.info? et,e,l with
    |some inf, .vec m' e,l=>Cp (Nat.beq m' m&&Nat.beq inf.size e.size&&Nat.ble 1 e.size) ((match TU s.sl lo 0,TU s.sl hi m with
     |some a,some b=>Option.bind (Cb l a b) λy=>k (s.set dn (.val (.list e) y))
     |_,_=>none))<|none
    |_,_,_=>none
   |_=>none
  |none=>none
 |_=>none
abbrev Y8(st:Bool)(a q:List UInt8):Bool:=match st with|true=>a==q|false=>geq (a.headD 0) (q.headD 0)
def keyOf:(e:ET)->e.T->Option (Bool×List UInt8)
 | .int .u8,a=>some (false,[a])
 | .str,a=>some (true,a)
 |_,_=>none
def tyB:Option TypeDesc->Option Bool|some (.int .u8)=>some false|some .string=>some true|_=>none
def lkC{R:Type}(st:Bool)(a:List UInt8)(k:PV->Option R)(z:PV):List (List UInt8)->List PV->Option R
 |q::ks,v::vs=>if Y8 st a q=true then k (.tup [v, .b true])else lkC st a k z ks vs
 |_,_=>k (.tup [z, .b false])
def jR{R:Type}(P:Program)(s:S)(dn:Nat)(t:TypeId)(x ix:Operand)(k:S->Option R):Option R:=
 match Eh s.sl x,Eh s.sl ix,P.underlying t with
 | .mp st ks vs, .val e a,some (.map kt et)=>match keyOf e a,tyB (P.underlying kt)with
  |some (sa,a'),some sb=>Cp (lM sa st&&lM sb st) ((match P.info? et with
   |some inf=>match inf.zero with
    |some .nilFunc=>lkC st a' (λv=>k (s.set dn v)) (.cst .nilFunc) ks vs
    |some (.agg cs)=>match kR P et (.agg cs)with
     |some z=>Cp z.isA (lkC st a' (λv=>k (s.set dn v)) z ks vs)<|none
     |none=>none
    |_=>none
   |none=>none))<|none
  |_,_=>none
 |_,_,_=>none
noncomputable def op2{R:Type}(P:Program)(T:Tab)(inl:fN R)(s:S)(dn:Nat)(ty:TypeId)(o:Op)(k:S->Option R):Option R:=
 match o with
 | .binOp o t x y _=>match Eh s.sl x,Eh s.sl y with
  | .val (.int a) u, .val (.int b) v=>match Y9 o b v,Y1 o a u b v with
   |some c,some r=>Option.bind (Gi c) λ_=>k (s.set dn r)
   |_,_=>none
  | .val .str u, .val .str v=>match o with
   | .add=>Option.bind (Bf u v) λr=>k (s.set dn (.val .str r))
   |_=>none
  |a, .nils=>jg P s dn o t a k
  |_,_=>none
 | .index t x ix=>match dX (Eh s.sl ix),Eh s.sl x with
  |some j, .val e0 l0=>match e0,l0,P.underlying t with
   | .str,l,some .string=>Option.bind (Af l j) λy=>k (s.set dn (.i .u8 y))
   | .vec n e,l,some (.array m et)=>Cp (Nat.beq m n) (Option.bind (Af l j) λy=>Cp (Ml P et (e.pv y)) (k (s.set dn (e.pv y)))<|none)<|none
   |_,_,_=>none
  |_,_=>none
 | .slice t x lo hi none=>match x with
  | .global g=>pZ P T s dn g (.slice t x lo hi none) k
  |x=>ze T.vw s (some dn) t x lo hi k P
 | .indexAddr t x ix=>match x with
  | .global g=>pZ P T s dn g (.indexAddr t x ix) k
  |x=>wP P s (some dn) t x ix k
 | .load t x=>match x with
  | .global g=>pZ P T s dn g (.load t x) k
  |x=>iD P s (some dn) t x k
 | .alloc t=>match zeroOf P t with
  |some v=>k ((s.add (.box t v)).Gc (some dn) (.ptr s.new []))
  |none=>none
 | .box t x=>Cp (D4 (Eh s.sl x)) (k ((s.add (.box t (Eh s.sl x))).Gc (some dn) (.ptr s.new [])))<|none
 | .assign (.const (.agg cs))=>match kR P ty (.agg cs)with
  |some v=>Cp (v.isA) (k (s.set dn v))<|none
  |none=>none
 | .move (.const (.agg cs))=>match kR P ty (.agg cs)with
  |some v=>Cp (v.isA) (k (s.set dn v))<|none
  |none=>none
 | .build t ps=>zf P s (some dn) t ps.toList k
 | .buildSlice t n ps=>bV P s (some dn) t n ps.toList k
 | .makeSlice t a b=>jB P s (some dn) t a b k
 | .convert a t x=>match P.underlying a,P.underlying t with
  |some .string,some (.slice e)=>match P.underlying e,Eh s.sl x with
   |some (.int .u8), .val .str l=>k ((s.add (.arr e (.int .u8) l)).Gc (some dn) (.own s.new))
   |_,_=>none
  |some (.slice _),some (.slice e)=>Cp (Nat.beq a t) ((match P.underlying e,Eh s.sl x with
   |some (.int .u8), .own i=>(match Cs s.it i with
    | .arr _ e' l=>match e',l with
     | .int .u8,_::_=>k (s.Gc (some dn) (.own i))
     |_,_=>none
    |_=>none)
   |_,_=>none))<|none
  |_,_=>none
 | .call ⟨.builtin .append,as,ts⟩=>match as.toList,ts.toList with
  |[x,y],[t,t2]=>M6 P s (some dn) x y t t2 k
  |_,_=>none
 | .call ⟨.builtin .copy,as,ts⟩=>match as.toList,ts.toList with
  |[x,y],[t,t2]=>U_ P s (some dn) x y t t2 k
  |_,_=>none
 | .call ⟨.builtin .cap,as,ts⟩=>match as.toList,ts.toList with
  |[x],[t]=>match P.underlying t,Eh s.sl x with
   |some (.slice _), .nils=>k (s.set dn (.i .i64 (0:Int)))
   |_,_=>none
  |_,_=>none
 | .call ⟨.value g,as,_⟩=>match Eh s.sl g with
  | .fn f caps=>iZ P T inl s (some dn) f caps as.toList k
  | .bfn f fs=>Cp ((T.get f).isNone&&J6 (as.toList.map (Eh s.sl))) (inl f (fs++as.toList.map (Eh s.sl)) s (λs v=>k (s.Gc (some dn) v)))<|none
  |_=>none
 | .slice t x lo (some hi) (some mx)=>M4 T.cp s (some dn) t x lo hi mx k P
 | .lookup t x ix true=>jR P s dn t x ix k
 |_=>none
noncomputable def exU{R:Type}(P:Program)(T:Tab)(inl:fN R)(o:Oper)(s:S)(k:S->Option R):Option R:=
 match op0 P s o.op with
 |some v=>k (s.Gc o.dst v)
 |none=>match op1 P s o.op with
  |some v=>k (s.Gc o.dst v)
  |none=>match o.dst with
   |some dn=>op2 P T inl s dn o.type o.op k
   |none=>match o.op with
    | .store t a x=>xw P s t a x k
    | .call ⟨.builtin .copy,as,ts⟩=>match as.toList,ts.toList with
     |[x,y],[t,t2]=>U_ P s none x y t t2 k
     |_,_=>none
    |_=>none
noncomputable def exG{R:Type}(P:Program)(T:Tab)(inl:fN R)(o:Oper)(t:Nat)(want:Bool)(s:S)(k:S->Option R):Option R:=
 let on (bv:Bool):Option R:=Cp (lM want bv) (exU P T inl o (s.res t bv) k)<|k ((s.res t bv).Gc o.dst .off)
 match Yp s.sl t with
 | .cst (.bool b)=>Cp (lM want b) (exU P T inl o s k)<|k (s.Gc o.dst .off)
 | .off=>k (s.Gc o.dst .off)
 | .val .bool b=>match o.dst,op0 P (s.res t want) o.op,op1 P (s.res t want) o.op with
  |some d,some v,_=>Cp (Nat.beq d t) (none)<|k (s.set d (.gd t want v))
  |some d,none,some v=>Cp (Nat.beq d t) (none)<|k (s.set d (.gd t want v))
  |_,_,_=>if b=true then on true else on false
 |_=>none
def Jf(n:Nat)(o:Oper):Bool:=match o.dst with|some d=>Nat.blt d n|none=>true
noncomputable def qB{R:Type}(P:Program)(T:Tab)(inl:fN R)(n:Nat)(ops:Array Oper)(o:Oper)(s:S)(k:S->Option R):Option R:=
 Cp (!Jf n o) (none)<|match o.guard with
 |none=>exU P T inl o s k
 |some (j,want)=>match(ops[j]?).bind (·.dst)with
  |none=>none
  |some t=>match Yp s.sl t with
   | .gd t2 w2 v=>match Yp s.sl t2 with
    | .val .bool b=>if b=true then exG P T inl o t want (s.res t2 true) k else exG P T inl o t want (s.res t2 false) k
    |_=>none
   |_=>exG P T inl o t want s k
def jk(st:Bool)(d t:Nat):Op->Option (List UInt8×Operand)
 | .insert t' (.tmp q) (.const (.int .u8 n)) x=>Cp (!st&&(Nat.beq t' t&&Nat.beq q d&&decide ((((GI.ofZ n:UInt8).toNat:Nat):Int)=n))) (some ([GI.ofZ n],x))<|none
 | .insert t' (.tmp q) (.const (.string b)) x=>Cp (st&&(Nat.beq t' t&&Nat.beq q d)) (some (bytesOf b,x))<|none
 |_=>none
def lB(P:Program)(n:Nat)(o:Oper):Option (Nat×Nat×Bool):=match o.op with
 | .makeMap t none=>match o.dst,o.guard,P.underlying t with
  |some d,none,some (.map kt _)=>match tyB (P.underlying kt)with|some st=>Cp (Nat.blt d n) (some (d,t,st))<|none|none=>none
  |_,_,_=>none
 |_=>none
def yZ:PV->Bool| .fn _ _=>true| .bfn _ _=>true| .agg _=>true|_=>false
def d?(st:Bool)(u:List UInt8):List (List UInt8)->Bool|[]=>false|q::r=>Y8 st u q||d? st u r
def lH(P:Program)(s:S):Op->Option PV
 | .build t ps=>match P.underlying t,zeroOf P t with
  |some (.struct fs),some (.agg zs)=>Cp (QF P fs.toList zs 0) ((match VB (ps.toList.map λp=>(p.1,Eh s.sl p.2)) zs with
   |some l=>some (.agg l)
   |none=>none))<|none
  |_,_=>none
 |_=>none
def lA(P:Program)(s:S)(o:Op):Option PV:=match op0 P s o with|some v=>some v|none=>lH P s o
noncomputable def JF{R:Type}(P:Program)(T:Tab)(inl:fN R)(n:Nat)(ops:Array Oper):List Oper->Option (Nat×Nat×Bool×List (List UInt8)×List PV)->S-> (S->Option R)->Option R
 |[],m,s,k=>match m with|none=>k s|some (d,_,st,ks,vs)=>k (s.set d (.mp st ks vs))
 |o::r,m,s,k=>match m with
  |none=>match lB P n o with
   |none=>qB P T inl n ops o s λs'=>JF P T inl n ops r none s' k
   |some (d,t,st)=>JF P T inl n ops r (some (d,t,st,[],[])) (s.set d .undef) k
  |some (d,t,st,ks,vs)=>match o.guard,o.dst with
   |none,some q=>match Cp (Nat.blt q n&& !Nat.beq q d) (lA P s o.op)<|none with
    |some v=>JF P T inl n ops r (some (d,t,st,ks,vs)) (s.set q v) k
    |none=>qB P T inl n ops o (s.set d (.mp st ks vs)) λs'=>JF P T inl n ops r none s' k
   |none,none=>match jk st d t o.op with
    |some (u,x)=>Cp (yZ (Eh s.sl x)&& !d? st u ks) (JF P T inl n ops r (some (d,t,st,ks++[u],vs++[Eh s.sl x])) s k)<|none
    |none=>qB P T inl n ops o (s.set d (.mp st ks vs)) λs'=>JF P T inl n ops r none s' k
   |_,_=>none
noncomputable def SA{R:Type}(P:Program)(T:Tab)(inl:fN R)(n:Nat)(ops:Array Oper)(l:List Oper)(s:S)(k:S->Option R):Option R:=JF P T inl n ops l none s k
def brk(T:Tab)(o:Oper):Bool:=match o.op with
 | .store _ _ _=>true
 | .call ⟨.builtin .append,_,_⟩=>true
 | .call ⟨.builtin .copy,_,_⟩=>true
 | .call ⟨.value (.func f),_,_⟩=>match T.get f with|some c=>!mq (Qo c.ps)|none=>true
 | .call ⟨.value _,_,_⟩=>true
 |_=>false
def Y2(T:Tab)(s:S)(o:Oper):Bool:=match o.op with
 | .slice _ x _ _ _=>(owns (Eh s.sl x)).isEmpty
 | .buildSlice _ _ ps=>(owns.go (ps.toList.map λp=>Eh s.sl p.2)).isEmpty
 | .call ⟨.value (.func f),as,_⟩=>match T.get f with
  |some c=>mq (Qo c.ps)&&(!V8 c||(owns.go (as.toList.map (Eh s.sl))).isEmpty)
  |none=>false
 |_=>!brk T o
def tw(z:Array Bool)(i:Nat):Bool:=z.getD i false
def calm(o:Oper):Bool:=o.guard.isNone&&(match o.op with
 | .load _ _=>true| .fieldAddr _ _ _=>true| .move _=>true| .binOp _ _ _ _ _=>true| .unOp _ _ _=>true| .extract _ _=>true| .pick _ _ _=>true
 | .buildSlice _ _ ps=>ps.isEmpty
 |_=>false)
def kY(T:Tab)(listed:Array Bool):List Oper->Nat->Bool->Array Bool->Array Bool
 |[],_,_,acc=>acc
 |o::r,i,ahead,acc=>Cp (brk T o&& !(listed.getD i true)) (kY T listed r (i+1) false (acc.push false))<|kY T listed r (i+1) ahead (acc.push (ahead||(listed.getD i false||(calm o&&o.after.all λe=>acc.getD e.on false))))
def k?(P:Program)(T:Tab):Op->Option PV
 | .load t (.global g)=>match T.glv P g t with
  |some v=>Cp (Ml P t v) (some v)<|none
  |none=>none
 |_=>none
def zD(P:Program)(T:Tab)(mem:Bool)(s:S)(o:Op):Option PV:=match op0 P s o with
 |some v=>some v
 |none=>match(Cp (mem) (op1 P s o)<|none)with|some v=>some v|none=>k? P T o
def Z'(P:Program)(T:Tab)(n:Nat)(mem:Bool)(ops:Array Oper)(o:Oper)(s:S):Option (Nat×PV):=
 match o.dst with
 |none=>none
 |some d=>Cp (!Nat.blt d n) (none)<|match o.guard with
  |none=>(zD P T mem s o.op).map λv=>(d,v)
  |some (j,want)=>match(ops[j]?).bind (·.dst)with
   |none=>none
   |some t=>match Yp s.sl t with
    | .cst (.bool b)=>Cp (lM want b) ((zD P T mem s o.op).map λv=>(d,v))<|some (d, .off)
    | .off=>some (d, .off)
    | .val .bool b=>Cp (Nat.beq d t) (none)<|(zD P T mem (s.res t want) o.op).map λv=>(d, .gd t want v)
    |_=>none
def Vf(P:Program)(Tb:Tab)(n:Nat)(mem:Bool)(ops:Array Oper)(T:Array Bool)(listed:Array Bool)(s:S):List Nat->Option (Nat×Nat×PV)
 |[]=>none
 |i::r=>match ops[i]? with
  |none=>none
  |some o=>match Z' P Tb n mem ops o s with
   |some (d,v)=>Cp (J! ops (tw T) listed i) (some (i,d,v))<|Vf P Tb n mem ops T listed s r
   |none=>Vf P Tb n mem ops T listed s r
structure BV where
 X:Type
 E:Option X
 v:X->PV
def bnd(P:Program)(s:S)(o:Op):Option BV:=match o with
 | .binOp o _ x y _=>match Eh s.sl x,Eh s.sl y with
  | .val (.int a) u, .val (.int b) v=>match Y9 o b v,Y1 o a u b v with
   |some c,some r=>some ⟨Unit,Gi c,λ_=>r⟩
   |_,_=>none
  | .val .str u, .val .str v=>match o with
   | .add=>some ⟨List UInt8,Bf u v, .val .str⟩
   |_=>none
  |_,_=>none
 | .index t x ix=>match dX (Eh s.sl ix),Eh s.sl x,P.underlying t with
  |some j, .val .str l,some .string=>some ⟨UInt8,Af l j, .i .u8⟩
  |_,_,_=>none
 | .slice t x lo hi mx=>match mx,P.underlying t with
  |none,some .string=>match Eh s.sl x with
   | .val .str l=>match TU s.sl lo 0,TU s.sl hi (Ad l)with
    |some a,some b=>some ⟨List UInt8,Cb l a b, .val .str⟩
    |_,_=>none
   |_=>none
  |none,some (.slice et)=>match Eh s.sl x with
   | .val e l=>match e,l with
    | .list e,l=>match P.info? et with
     |some i=>Cp (Nat.beq i.size e.size&&Nat.ble 1 e.size) ((match TU s.sl lo 0,TU s.sl hi (Ad l)with
      |some a,some b=>some ⟨List e.T,Cb l a b, .val (.list e)⟩
      |_,_=>none))<|none
     |none=>none
    |_,_=>none
   |_=>none
  |_,_=>none
 | .indexAddr t x ix=>match dX (Eh s.sl ix)with
  |none=>none
  |some j=>match P.underlying t with
   |some (.slice et)=>match P.info? et with
    |none=>none
    |some inf=>match Eh s.sl x with
     | .val e l=>match e,l with
      | .list e,l=>Cp (Nat.beq inf.size e.size&&Nat.ble 1 e.size) (some ⟨e.T,Af l j,λy=> .rptr (e.pv y)⟩)<|none
      |_,_=>none
     | .own i=>match Cs s.it i with
      | .arr _ e l=>Cp (Nat.beq inf.size e.size&&Nat.ble 1 e.size) (some ⟨e.T,Af l j,λ_=> .ptr i [.idx j e.size]⟩)<|none
      |_=>none
     | .view _ i p e lo n=>Cp (Nat.beq inf.size e.size&&Nat.ble 1 e.size) (some ⟨Unit,Gi (decide (0<=j/\j<n)),λ_=> .ptr i (p++[.idx (lo+j) e.size])⟩)<|none
     |_=>none
   |some (.array n et)=>match P.info? et with
    |none=>none
    |some inf=>match Eh s.sl x with
     | .ptr i p=>match Cs s.it i with
      | .box _ v=>match zV v p with
       |some (.val e l)=>match e,l with
        | .vec m e,l=>Cp (Nat.beq inf.size e.size&&Nat.ble 1 e.size&&Nat.beq m n) (some ⟨e.T,Af l j,λ_=> .ptr i (p++[.idx j e.size])⟩)<|none
        |_,_=>none
       |_=>none
      |_=>none
     |_=>none
   |_=>none
 |_=>none
inductive BG|on (b:BV)|ask (t:Nat) (want bv:Bool) (b:BV)
def jw(P:Program)(n:Nat)(ops:Array Oper)(o:Oper)(s:S):Option (Nat×BG):=
 match o.dst with
 |none=>none
 |some d=>Cp (!Nat.blt d n) (none)<|match o.guard with
  |none=>(bnd P s o.op).map λb=>(d, .on b)
  |some (j,want)=>match(ops[j]?).bind (·.dst)with
   |none=>none
   |some t=>match Yp s.sl t with
    | .cst (.bool b)=>Cp (lM want b) ((bnd P s o.op).map λb=>(d, .on b))<|none
    | .val .bool b=>Cp (Nat.beq d t) (none)<|(bnd P (s.res t want) o.op).map λB=>(d, .ask t want b B)
    |_=>none
def BR(P:Program)(n:Nat)(ops:Array Oper)(T:Array Bool)(listed:Array Bool)(s:S):List Nat->Option (Nat×Nat×BG)
 |[]=>none
 |i::r=>match ops[i]? with
  |none=>none
  |some o=>match jw P n ops o s with
   |some (d,v)=>Cp (J! ops (tw T) listed i) (some (i,d,v))<|BR P n ops T listed s r
   |none=>BR P n ops T listed s r
def eH(s:S)(d:Nat)(o:Op):Option (Nat×TypeId×Nat×List Step):=match o with
 | .load t x=>match Eh s.sl x with
  | .ptr i p=>match Cs s.it i with| .dead=>none|_=>some (d,t,i,p)
  |_=>none
 |_=>none
def eJ(n:Nat)(ops:Array Oper)(o:Oper)(s:S):Option (Nat×TypeId×Nat×List Step):=
 match o.dst with
 |none=>none
 |some d=>Cp (!Nat.blt d n) (none)<|match o.guard with
  |none=>eH s d o.op
  |some (j,want)=>match(ops[j]?).bind (·.dst)with
   |none=>none
   |some t=>match Yp s.sl t with
    | .cst (.bool b)=>Cp (lM want b) (eH s d o.op)<|none
    |_=>none
def KC(n:Nat)(ops:Array Oper)(T:Array Bool)(listed:Array Bool)(s:S):List Nat->Option (Nat×Nat×TypeId×Nat×List Step)
 |[]=>none
 |i::r=>match ops[i]? with
  |none=>none
  |some o=>match eJ n ops o s with
   |some v=>Cp (J! ops (tw T) listed i) (some (i,v))<|KC n ops T listed s r
   |none=>KC n ops T listed s r
def gOk(ops:Array Oper)(s:S)(o:Oper):Bool:=match o.guard with
 |none=>true
 |some (j,_)=>match(ops[j]?).bind (·.dst)with
  |none=>false
  |some t=>match Yp s.sl t with| .cst (.bool _)=>true|_=>false
def iX(ops:Array Oper)(s:S)(i:Nat):Option (Nat×Bool):=match ops[i]? with
 |none=>none
 |some o=>match o.guard with
  |none=>none
  |some (j,_)=>match(ops[j]?).bind (·.dst)with
   |none=>none
   |some t=>match Yp s.sl t with
    | .val .bool b=>some (t,b)
    | .gd t2 _ _=>match Yp s.sl t2 with
     | .val .bool b=>some (t2,b)
     |_=>none
    |_=>none
def bD{R:Type}(ops:Array Oper):List Nat->S-> (S->Option R)->Option R
 |[],s,k=>k s
 |i::r,s,k=>match iX ops s i with
  |some (t,b)=>if b=true then bD ops r (s.res t true) k else bD ops r (s.res t false) k
  |none=>bD ops r s k
noncomputable abbrev yP{R:Type}(l:List Bool):(List Bool->R)->R:=List.rec (λk=>k []) (λb _ ih k=>match b with|true=>ih λr=>k (true::r)|false=>ih λr=>k (false::r)) l
theorem V_{R:Type}:∀(l:List Bool) (k:List Bool->R),yP l k=k l
 |[],_=>rfl
 |true::l,k=>V_ l _
 |false::l,k=>V_ l _
noncomputable abbrev nrm{R:Type}(a:Array Bool)(k:Array Bool->R):R:=yP a.toList λl=>k ⟨l⟩
theorem um(a:Array Bool)(k:Array Bool->R):nrm a k=k a:=V_ _ _
theorem p_(z listed:Array Bool):c_ z listed=LR (tw z) listed:=by
 rw[N4,c_,Amj,LR,XY];simp only[ZA,R!,O1,tw,YZ];refine forall_congr' λi=>forall_congr' λhi=>?_;rw[B4,B4,nB,nB,Sm,Sm];cases(z[i]?.getD false)<;>simp
noncomputable def QX{R:Type}(P:Program)(T:Tab)(inl:fN R)(n:Nat)(mem:Bool)(ops:Array Oper):Nat->Array Bool->Array Bool->S-> (S->Option R)->Option R
 |fuel,z0,listed,s,k=>nrm listed λlisted=>match g_ ops listed with
  |[]=>k s
  |i::is=>match fuel with
   |0=>none
   |fuel+1=>
    let z:=Cp (mem&&c_ z0 listed) (kY T listed ops.toList 0 true #[])<|z0
    let main (s:S) (fin:S->Option R):Option R:=
     match Vf P T n mem ops z listed s (i::is)with
     |some (i,d,v)=>QX P T inl n mem ops fuel z (listed.setIfInBounds i true) (s.set d v) k
     |none=>match BR P n ops z listed s (i::is)with
     |some (i,d, .on b)=>Option.bind b.E λx=>QX P T inl n mem ops fuel z (listed.setIfInBounds i true) (s.set d (b.v x)) k
     |some (i,d, .ask t want bv b)=>
      let on (c:Bool):Option R:=Cp (lM want c) (Option.bind b.E λx=>QX P T inl n mem ops fuel z (listed.setIfInBounds i true) ((s.res t c).set d (b.v x)) k)<|QX P T inl n mem ops fuel z (listed.setIfInBounds i true) ((s.res t c).set d .off) k
      if bv=true then on true else on false
     |none=>match(Cp (mem) (KC n ops z listed s (i::is))<|none)with
     |some (i,d,t,j,p)=>getRoot (Cs s.it j) p λu=>Cp (Ml P t u) (QX P T inl n mem ops fuel z (listed.setIfInBounds i true) (s.set d u) k)<|none
     |none=>fin s
    let one (s:S) (i:Nat):Option R:=match ops[i]? with
      |some o=>Cp (mem&& !((Y2 T s o&&gOk ops s o)||(!tw z i&&c_ z (listed.setIfInBounds i true)))) (none)<|
       qB P T inl n ops o s λs'=>QX P T inl n mem ops fuel z (listed.setIfInBounds i true) s' k
      |none=>none
    let rest (s:S):Option R:=both (one s i) (is.map (one s))
    main s λs=>Cp mem (bD ops ((i::is)++(i::is)) s λs=>main s rest)<|rest s
def WO(s:S):List (ET×Option TypeId)->List PV->List Nat->Bool
 |[],[],_=>true
 |(e,o)::r,v::vs,seen=>match o with
  |none=>(owns v).isEmpty&&WO s r vs seen
  |some E=>match e,v with
   | .list a, .nils=>WO s r vs seen
   | .list a, .own i=>!Wy i seen&&(match Cs s.it i with| .arr E' a' _=>Nat.beq E' E&&decide (a'=a)|_=>false)&&WO s r vs (i::seen)
   |_,_=>false
 |_,_,_=>false
inductive Co|own (E:TypeId) (e:ET)|ro (e:ET)|wp
structure At where
 t:Nat
 p:List Nat
 c:Co
def atV:PV->List Nat->Option PV
 |v,[]=>some v
 | .agg l,n::r=>match l[n]? with|some v=>atV v r|none=>none
 |_,_=>none
def WH(new:PV):PV->List Nat->Option PV
 |_,[]=>some new
 | .agg l,n::r=>match l[n]? with
  |some v=>match WH new v r with|some v'=>some (.agg (l.set n v'))|none=>none
  |none=>none
 |_,_=>none
def XS(t:Nat)(new:PV):Slots->Slots
 |[]=>[]
 |(q,v)::r=>Cp (Nat.beq q t) ((q,new)::r)<|(q,v)::XS t new r
def xY:PV->List Nat->Option (Nat×List Nat)
 | .ptr i [],p=>some (i,p)
 | .fn _ l,n::r=>match l[n]? with
  |some v=>(match v with| .ptr i []=>some (i,r)|_=>none)
  |none=>none
 | .mp _ _ l,n::r=>match l[n]? with
  |some v=>(match v with| .bfn _ (.ptr i []::_)=>some (i,r)|_=>none)
  |none=>none
 |_,_=>none
def zC(s:S)(a:At):Option S:=
 match xY (Yp s.sl a.t) a.p with
 |some (i,q)=>match Cs s.it i with
  | .box T v=>match atV v q with
   |some (.cst (.pointer none))=>match WH (.wp i) v q with
    |some v'=>some (s.Mr i (.box T v'))
    |none=>none
   |some (.wp _)=>some s
   |_=>none
  |_=>none
 |none=>none
def kO(s:S)(a:At):Option S:=
 let go (v:PV) (put:S->PV->Option S):Option S:=match a.c,v with
  | .own E e, .nils=>put (s.add (.arr E e [])) (.own s.new)
  | .own _ _, .own _=>some s
  | .ro e, .nils=>put s (.val (.list e) [])
  | .ro _, .own i=>s.freeze i
  | .ro _, .val (.list _) _=>some s
  |_,_=>none
 match a.c with
 | .wp=>zC s a
 |_=>
 match xY (Yp s.sl a.t) a.p with
 |some (i,q)=>(match Cs s.it i with
  | .box T v=>match atV v q with
   |some u=>go u λs' n=>match WH n v q with
    |some v'=>some (s'.Mr i (.box T v'))
    |none=>none
   |none=>none
  |_=>none)
 |none=>match Yp s.sl a.t with
 | .view o i p e1 lo n=>match a.c,a.p with
  | .own E e,[]=>Cp (Nat.blt 0 e.size) ((match dH s E e (.view o i p e1 lo n)with
   |some (s',j)=>some ⟨XS a.t (.own j) s'.sl,s'.it,s'.st⟩
   |none=>none))<|none
  |_,_=>none
 |v=>match atV v a.p with
  |some u=>go u λs' n=>match WH n v a.p with
   |some v'=>some ⟨XS a.t v' s'.sl,s'.it,s'.st⟩
   |none=>none
  |none=>none
def Zg(s:S):List At->Option S
 |[]=>some s
 |a::r=>match kO s a with|some s'=>Zg s' r|none=>none
def oE(s:Slots):List Nat->Slots
 |[]=>[]
 |t::r=>match Yp s t with
  | .undef=>oE s r
  | .off=>oE s r
  | .gd _ _ _=>oE s r
  |v=>(t,v)::oE s r
def Axa:Item->List Nat| .box _ v=>kJ v|_=>[]
def reach(it:List Item):Nat->List Nat->List Nat->List Nat
 |0,_,seen=>seen
 |_+1,[],seen=>seen
 |q+1,i::r,seen=>Cp (Wy i seen) (reach it q r seen)<|reach it q (r++Axa (Cs it i)) (seen++[i])
def posOf(i:Nat):List Nat->Nat->Option Nat
 |[],_=>none
 |j::r,n=>Cp (Nat.beq i j) (some n)<|posOf i r (n+1)
def zW(o:List Nat):PV->PV
 | .own i=>match posOf i o 0 with|some j=> .own j|none=> .any
 | .ptr i p=>match posOf i o 0 with|some j=> .ptr j p|none=> .any
 | .wp i=>match posOf i o 0 with|some j=> .wp j|none=> .any
 | .view w i p e lo n=>match posOf i o 0 with|some j=> .view w j p e lo n|none=> .any
 | .agg l=> .agg (go o l)
 | .tup l=> .tup (go o l)
 | .fn f l=> .fn f (go o l)
 | .mp st ks l=> .mp st ks (go o l)
 | .bfn f l=> .bfn f (go o l)
 | .gd t w v=> .gd t w (zW o v)
 | .rptr v=> .rptr (zW o v)
 |v=>v
where go (o:List Nat):List PV->List PV
 |[]=>[]
 |a::r=>zW o a::go o r
def xK(o:List Nat):Item->Item| .box T v=> .box T (zW o v)|a=>a
def dR(o:List Nat)(l:Slots):Slots:=l.map λp=>(p.1,zW o p.2)
def X'(l:Slots):List Nat:=(l.map λp=>kJ p.2).flatten
def S.canon(s:S)(lv:List Nat):S:=
 let sl:=oE s.sl lv
 let o:=reach s.it 200 (X' sl++(s.st.map X').flatten) []
 ⟨dR o sl,o.map λi=>xK o (Cs s.it i),s.st.map (dR o)⟩
def S.cn(s:S)(lv:List Nat)(co:List At):Option S:=match Zg s co with|some s'=>some (s'.canon lv)|none=>none
inductive An
 |d
 |seq (a b:An)
 |cut (lv:List Nat) (co:List At) (a b:An)
 |blk (a:An)
 |loop (lv:List Nat) (co:List At) (a:An)
 |cond (a b:An)
 |mode (mem:Bool)
 |keep (lv:List Nat) (mem:Bool)
 |pr (n:Nat) (T E:TypeId)
def wM:An->Bool| .mode b=>b| .keep _ b=>b|_=>true
def O_{R:Type}(an:An)(inl:fN R):fN R:=match an with| .keep lv _=>λf as s k=>inl f as ⟨oE s.sl lv,s.it,s.st⟩ k|_=>inl
def An.l:An->An| .seq a _=>a| .cut _ _ a _=>a| .cond a _=>a| .blk a=>a| .loop _ _ a=>a|_=> .d
def An.r:An->An| .seq _ b=>b| .cut _ _ _ b=>b| .cond _ b=>b|_=> .d
structure K (R:Type)where
 n:S->Option R
 x:Nat->S->Option R
 r:S->Option R
def hold{R:Type}(k:S->Option R)(s:S):Option R:=k s
def Q0{R:Type}(an:An)(k:S->Option R)(s:S):Option R:=match an with
 | .cut lv co _ _=>match s.cn lv co with|some s'=>hold k s'|none=>none
 |_=>k s
def RY{R:Type}(an:An)(k:S->Option R)(s:S):Option R:=match an with
 | .loop lv co _=>match s.cn lv co with|some s'=>k s'|none=>none
 |_=>none
def iter{R:Type}(an:An)(body:(S->Option R)->S->Option R):Nat->S->Option R
 |0,_=>none
 |q+1,s=>body (RY an (iter an body q)) s
noncomputable def yE:{n:Nat//n=Ay}:=Classical.choice ⟨⟨Ay,rfl⟩⟩
noncomputable def Bs:Nat:=yE.1
theorem Am:Bs=Ay:=yE.2
noncomputable def ex{R:Type}(P:Program)(T:Tab)(inl:fN R)(n:Nat):Code->An->K R->S->Option R
 | .skip,_,k,s=>k.n s
 | .ret,_,k,s=>k.r s
 | .exit id,_,k,s=>k.x id s
 | .seq a b,an,k,s=>ex P T inl n a an.l {k with n:=Q0 an λs'=>ex P T inl n b an.r k s'} s
 | .cond c a b,an,k,s=>match Eh s.sl c with
  | .val .bool t=>if t=true then ex P T inl n a an.l k s else ex P T inl n b an.r k s
  |_=>none
 | .block id a,an,k,s=>ex P T inl n a an.l {k with x:=λid' s'=>Cp (Nat.beq id' id) (k.n s')<|k.x id' s'} s
 | .loop a,an,k,s=>RY an (iter an (λkn s'=>ex P T inl n a an.l {k with n:=kn} s') Bs) s
 | .region _ ops false,an,k,s=>Cp (jG ops.toList) (SA P T (O_ an inl) n ops ops.toList s k.n)<|none
 | .region _ ops true,an,k,s=>Cp (jG ops.toList) (QX P T (O_ an inl) n (wM an) ops ops.size (Cp (wM an) (#[])<|Array.replicate ops.size true) (Array.replicate ops.size false) s k.n)<|none
 |_,_,_,_=>none
def Xh:Nat->List PV->Slots
 |_,[]=>[]
 |n,a::r=>(n,a)::Xh (n+1) r
def iR(P:Program)(s:S):ResultVar->Option PV
 | .tmp t=>Cp ((Eh s.sl (.tmp t)).xq) (some (Eh s.sl (.tmp t)))<|none
 | .cell a t=>match Yp s.sl a with
  | .ptr i p=>match Cs s.it i with
   | .box _ v=>match zV v p with
    |some u=>Cp (Ml P t u) (some u)<|none
    |none=>none
   |_=>none
  |_=>none
def pL(P:Program)(s:S):List ResultVar->Option (List PV)
 |[]=>some []
 |r::rs=>match iR P s r,pL P s rs with|some v,some vs=>some (v::vs)|_,_=>none
def isW(i:Nat):PV->Bool
 | .cst v=>(match v with| .pointer none=>true|_=>false)
 | .wp j=>Nat.beq i j
 | .ptr j p=>Nat.beq i j&&p.isEmpty
 |_=>false
def gW{R:Type}(n:Nat)(TB EB:TypeId)(as:List PV)(s:S)(k:S->PV->Option R):Option R:=
 match as with
 |[.ptr i []]=>match Cs s.it i with
  | .box T (.agg [a,v])=>Cp (Nat.beq T TB&&isW i a) (match n with
   |0=>Cp (Nat.beq v.size 1&& !v.isA) (k (s.Mr i (.box T (.agg [.wp i,v]))) (.tup [])) none
   |1=>(match v with
    | .nils=>k ((s.Mr i .dead).sub i .any) (.val .str [])
    | .own j=>(match Cs s.it j with
     | .arr E e l=>(match e,l with
      | .int .u8,l=>Cp (Nat.beq E EB) (Option.bind (Gi (decide (Ad l<=17179869184))) λ_=>k ((((s.Mr i .dead).sub i .any).Mr j .dead).sub j .any) (.val .str l)) none
      |_,_=>none)
     |_=>none)
    |_=>none)
   |_=>none) none
  |_=>none
 |[.ptr i [], .val (.int .i64) m]=>match n with
  |2=>(match Cs s.it i with
   | .box T (.agg [.cst a, .nils])=>(match a with
    | .pointer none=>Cp (Nat.beq T TB) (Option.bind (Gi (decide (0<=m/\m<=281474976710656))) λ_=>k ((s.add (.arr EB (.int .u8) [])).Mr i (.box T (.agg [.wp i, .own s.new]))) (.tup [])) none
    |_=>none)
   |_=>none)
  |_=>none
 |_=>none
noncomputable def Xp{R:Type}(P:Program)(T:Tab):Nat->List (Nat×An)->fN R
 |0,_=>λ_ _ _ _=>none
 |q+1,VK=>λf as s k=>match X7 VK f,P.funcs[f]? with
  |some an,some fn=>match an with
   | .pr n TB EB=>gW n TB EB as s k
   |_=>match fn.body with
    |none=>none
    |some c=>Cp (Nat.ble as.length fn.ntmps) (
     ex P T (Xp P T q VK) fn.ntmps c an {n:=YK P fn.results.toList k,x:=λ_ _=>none,r:=YK P fn.results.toList k} ⟨Xh 0 as,s.it,s.sl::s.st⟩)<|none
  |_,_=>none
where
 X7:List (Nat×An)->Nat->Option An|[],_=>none|(g,a)::r,f=>Cp (Nat.beq g f) (some a)<|X7 r f
 YK {R:Type} (P:Program) (vars:List ResultVar) (k:S->PV->Option R) (s':S):Option R:=match pL P s' vars,s'.st with
  |some vs,sl::st=>k ⟨sl,s'.it,st⟩ (q! vs)
  |_,_=>none
def M0:List (ET×Option TypeId)->List PV->List Nat
 |(_,none)::r,v::vs=>owns v++M0 r vs
 |(_,some _)::r,_::vs=>M0 r vs
 |_,_=>[]
def lF(P:Program)(rs:List Sh)(vars:List ResultVar)(s:S):Option (List PV):=match pL P s vars with|some vs=>dU rs vs|none=>none
def nI(P:Program)(rs:List Sh)(vars:List ResultVar)(s0:S):Option (Zb (Qo rs)):=
 match lF P rs vars s0 with
 |none=>none
 |some ls0=>match s0.AV (M0 (Qo rs) ls0)with
  |none=>none
  |some s=>match lF P rs vars s with
   |some ls=>Cp (WO s (Qo rs) ls []) (LW s (Qo rs) ls)<|none
   |none=>none
def args(ps:List Sh)(x:Zb (Qo ps)):Option (List PV):=iK ps (Es (Qo ps) x ⟨[],[],[]⟩).1
def f_(ps:List Sh)(x:Zb (Qo ps)):List Item:=(Es (Qo ps) x ⟨[],[],[]⟩).2.it
noncomputable def run(P:Program)(T:Tab)(VK:List (Nat×An))(f:Func)(an:An)(ps rs:List Sh)(x:Zb (Qo ps)):Option (Zb (Qo rs)):=
 match f.body,args ps x with
 |some c,some vs=>ex P T (Xp P T 8 VK) f.ntmps c an {n:=nI P rs f.results.toList,x:=λ_ _=>none,r:=nI P rs f.results.toList} ⟨Xh 0 vs,f_ ps x,[]⟩
 |_,_=>none
end Go.Rx
namespace Go.Rx
open Go Go.Lv
variable{σ:Env}{i:Nat}{s:S}{v:Value}
inductive MD|dead|box (b:Nat) (cells:List Value) (T:TypeId)|own (s:Nat) (E:TypeId) (v:Value) (cs:List Value)
def MD.Ex:MD->Mob
 | .dead=> .own 1 0 (.slice none 0 0) []
 | .box b c T=> .box b c T
 | .own s E v cs=> .own s E v cs
def MD.base:MD->Option Nat
 | .box b _ _=>some b
 | .own _ _ (.slice (some ⟨b,0,none⟩) _ _) _=>some b
 |_=>none
def Cj{α:Type}(f:α->List Value->Prop):List α->List Value->Prop
 |[],cs=>cs=[]
 |x::l,cs=>∃c1 c2,cs=c1++c2/\f x c1/\Cj f l c2
def Ax(B:Reg)(w:World):(e:ET)->e.T->List Value->Prop
 | .int k,x,cs=>cs=[iv (T:=k.T) (k:=k.k) x]
 | .bool,b,cs=>cs=[.bool b]
 | .str,s,cs=>cs=[sv s]
 | .list e,l,cs=>∃v c0,cs=[v]/\Rd B w e.size v c0/\Cj (Ax B w e) l c0
 | .vec n e,l,cs=>l.length=n/\Cj (Ax B w e) l cs
 | .cons a r,x,cs=>∃c1 c2,cs=c1++c2/\Ax B w a x.1 c1/\Ax B w r x.2 c2
 | .nil,_,cs=>cs=[]
def lW:Step->Nat| .fld _ off=>off| .idx j z=>j.toNat*z
def Au:List Step->Nat|[]=>0|s::r=>lW s+Au r
def R'(B:Reg)(w:World)(pv:Value)(cs:List Value):Prop:=
 ∃b off arr T fr,pv= .pointer (some ⟨b,off,none⟩)/\B b/\w.heap[b]? =some (.cells arr T fr)/\∀i,i<cs.length->arr[off+i]? =cs[i]?
def asV(agg:Bool)(f:List Value->Prop)(v:Value):Prop:=match agg with|true=>∃cs:List Value,v= .agg cs.toArray/\f cs|false=>f [v]
def b!(o:Bool)(md:MD)(p:List Step)(z:Nat)(lo n:Int)(v:Value):Prop:=
 0<=lo/\0<=n/\ (∃pt cap,v= .slice pt n.toNat cap/\n.toNat<=cap/\ (pt=none->cap=0)/\ (0<cap->∃b,md.base=some b/\pt=some ⟨b,Au p+lo.toNat*z,none⟩))/\
  (o=true->∃s E q len cap c0,md= .own s E (.slice q len cap) c0/\p=[]/\lo.toNat+n.toNat<=len/\ (∀pt m cap',v= .slice pt m cap'->lo.toNat+cap'<=cap)/\ (lo=0->v= .slice q n.toNat cap))/\ (o=false->∃b,md.base=some b)
def aW(st:Bool)(k:List UInt8):Value:=match st with|true=>sv k|false=>iv (T:=UInt8) (k:= .u8) (k.headD 0)
def Ba(B:Reg)(w:World)(L:List MD):PV->List Value->Prop
 | .val e x,cs=>Ax B w e x cs
 | .agg l,cs=>go B w L l cs
 | .tup _,_=>False
 | .nils,cs=>cs=[.slice none 0 0]
 | .own i,cs=>∃s E v c0,L[i]? =some (.own s E v c0)/\cs=[v]
 | .ptr i p,cs=>∃md b,L[i]? =some md/\md.base=some b/\cs=[.pointer (some ⟨b,Au p,none⟩)]
 | .wp i,cs=>cs=[.pointer none]\/∃md b,L[i]? =some md/\md.base=some b/\cs=[.pointer (some ⟨b,0,none⟩)]
 | .rptr v,cs=>∃pv c0,cs=[pv]/\R' B w pv c0/\Ba B w L v c0
 | .view o i p e lo n,cs=>∃md v,L[i]? =some md/\cs=[v]/\b! o md p e.size lo n v
 | .fn f caps,cs=>∃vs:List Value,cs=[.func (.func f) #[] vs.toArray]/\goV B w L caps vs
 | .cap e l c,cs=>∃v c0,cs=[v]/\Rd B w e.size v c0/\Cj (Ax B w e) l c0/\0<=c/\∃p len,v= .slice p len c.toNat
 | .mp st ks l,cs=>∃r es n,cs=[.map (some r)]/\B r/\w.heap[r]? =some (.map es n)/\es.toList.map (·.key)=ks.map (aW st)/\goV B w L l (es.toList.map (·.val))
 | .bfn f fs,cs=>∃vs:List Value,cs=[.func (.func f) vs.toArray #[]]/\goV B w L fs vs
 | .cst v,cs=>cs=[v]/\v.oneCell'=true
 | .any,cs=>∃v,cs=[v]/\v.oneCell'=true
 | .gd _ _ _,_=>False
 | .off,_=>False
 | .undef,_=>False
where
 go (B:Reg) (w:World) (L:List MD):List PV->List Value->Prop
 |[],cs=>cs=[]
 |a::r,cs=>∃c1 c2,cs=c1++c2/\Ba B w L a c1/\go B w L r c2
 goV (B:Reg) (w:World) (L:List MD):List PV->List Value->Prop
 |[],vs=>vs=[]
 |a::r,vs=>∃v vs',vs=v::vs'/\asV a.isA (Ba B w L a) v/\goV B w L r vs'
def Ga(B:Reg)(w:World)(L:List MD)(p:PV)(v:Value):Prop:=asV p.isA (Ba B w L p) v
abbrev Ek:=Ba.goV
def Ef(B:Reg)(w:World)(L:List MD):PV->Value->Prop
 | .tup l,v=>∃vs:List Value,v= .tuple vs.toArray/\Ek B w L l vs
 |p,v=>Ga B w L p v
def Gx(B:Reg)(w:World)(L:List MD)(σ:Env)(t:Nat):PV->Prop
 | .undef=>True
 | .off=>σ t=Go.undef
 | .gd j want p=>∃b,σ j= .bool b/\ (b=want->Ef B w L p (σ t))/\ (b≠want->σ t=Go.undef)
 |p=>Ef B w L p (σ t)
def Xo(B:Reg)(w:World)(L:List MD):Item->MD->Prop
 | .dead,_=>True
 | .box T v, .box b cells T'=>T'=T/\Ba B w L v cells
 | .arr E e l, .own s E' v cs=>E'=E/\s=e.size/\Cj (Ax B w e) l cs
 |_,_=>False
def Fp(B:Reg)(w:World)(L:List MD)(σ:Env)(sl:Slots):Prop:=∀p∈sl,Gx B w L σ p.1 p.2
def bN(B:Reg)(w:World)(L:List MD):List Env->List Slots->Prop
 |[],[]=>True
 |σ::σs,sl::st=>Fp B w L σ sl/\bN B w L σs st
 |_,_=>False
def Awi(B:Reg)(w:World)(L:List MD)(it:List Item):Prop:=it.length=L.length/\∀(i:Nat) (a:Item) (m:MD),it[i]? =some a->L[i]? =some m->Xo B w L a m
structure MemR (B:Reg) (w:World) (L:List MD) (s:S) (σs:List Env) (σ:Env):Prop where
 it:Awi B w L s.it
 sl:Fp B w L σ s.sl
 stk:bN B w L σs s.st
variable {B B':Reg} {w w':World} {L L':List MD}
theorem Cj.mono{α:Type}{f g:α->List Value->Prop}(h:∀x c,f x c->g x c):∀{l:List α} {cs:List Value},Cj f l cs->Cj g l cs
 |[],_,hh=>hh
 |_::_,_,⟨c1,c2,e,h1,h2⟩=>⟨c1,c2,e,h _ _ h1,Cj.mono h h2⟩
theorem Ax.step(hb:∀b,B b->B' b)(hs:Same B w w'):∀{e:ET} {x:e.T} {cs:List Value},Ax B w e x cs->Ax B' w' e x cs
 | .int k,x,cs,h=>h
 | .bool,x,cs,h=>h
 | .str,x,cs,h=>h
 | .list e,l,cs,⟨v,c0,e1,h1,h2⟩=>⟨v,c0,e1,h1.step hb hs,h2.mono λx c h=>Ax.step hb hs h⟩
 | .vec n e,l,cs,⟨h1,h2⟩=>⟨h1,h2.mono λx c h=>Ax.step hb hs h⟩
 | .cons a r,x,cs,⟨c1,c2,e,h1,h2⟩=>⟨c1,c2,e,Ax.step hb hs h1,Ax.step hb hs h2⟩
 | .nil,_,cs,h=>h
def RI(L L':List MD):Prop:=(∀(i s:Nat) (E:TypeId) (v:Value) (c:List Value),L[i]? =some (.own s E v c)->∃s' E' c',L'[i]? =some (.own s' E' v c'))/\ (∀(i:Nat) (md:MD) (b:Nat),L[i]? =some md->md.base=some b->∃md',L'[i]? =some md'/\md'.base=some b)
theorem RI.refl(L:List MD):RI L L:=⟨λ_ _ _ _ _ h=>⟨_,_,_,h⟩,λ_ md _ h h'=>⟨md,h,h'⟩⟩
theorem RI.append(L M:List MD):RI L (L++M):=by
 have key:∀(i:Nat) (a:MD),L[i]? =some a-> (L++M)[i]? =some a:=λi a h=>by
  rw[I9 (List.getElem?_eq_some_iff.1 h).1];exact h
 exact⟨λi s E v c h=>⟨s,E,c,key _ _ h⟩,λi md b h h'=>⟨md,key _ _ h,h'⟩⟩
theorem R'.step{pv:Value}{cs:List Value}(hb:∀b,B b->B' b)(hs:Same B w w')(h:R' B w pv cs):R' B' w' pv cs:=by
 obtain⟨b,off,arr,T,fr,h1,h2,h3,h4⟩:=h;exact⟨b,off,arr,T,fr,h1,hb _ h2,(hs b h2).trans h3,h4⟩
theorem b!.step{o:Bool}{md:MD}{p:List Step}{z:Nat}{lo n:Int}(hl:RI L L')(hi:L[i]? =some md)(h:b! o md p z lo n v):∃md',L'[i]? =some md'/\b! o md' p z lo n v:=by
 obtain⟨h1,h2,⟨pt,cap,h3,h4,h5,h6⟩,h7,h8⟩:=h;cases o with
 |true=>
  obtain⟨s,E,q,len,cap0,c0,rfl,g2,g3,g4,g5'⟩:=h7 rfl;obtain⟨s',E',c',g5⟩:=hl.1 i s E _ c0 hi;refine⟨_,g5,h1,h2,⟨pt,cap,h3,h4,h5,λhc=>?_⟩,λ_=>⟨s',E',q,len,cap0,c',rfl,g2,g3,g4,g5'⟩,(λh=>by cases h)⟩;obtain⟨b,e1,e2⟩:=h6 hc;obtain⟨md',k1,k2⟩:=hl.2 i _ b hi e1;rw[g5]at k1;cases k1;exact⟨b,k2,e2⟩
 |false=>
  obtain⟨b0,hb0⟩:=h8 rfl;obtain⟨md',k1,k2⟩:=hl.2 i _ b0 hi hb0;refine⟨md',k1,h1,h2,⟨pt,cap,h3,h4,h5,λhc=>?_⟩,(λh=>by cases h),λ_=>⟨b0,k2⟩⟩;obtain⟨b,e1,e2⟩:=h6 hc;rw[hb0]at e1;cases e1;exact⟨b0,k2,e2⟩
theorem asV.mono{a:Bool}{f g:List Value->Prop}(h:∀c,f c->g c)(hv:asV a f v):asV a g v:=by
 cases a with
 |true=>obtain⟨cs,e,h1⟩:=hv;exact⟨cs,e,h _ h1⟩
 |false=>exact h _ hv
mutual
theorem Ba.step(hb:∀b,B b->B' b)(hs:Same B w w')(hl:RI L L'):∀{p:PV} {cs:List Value},Ba B w L p cs->Ba B' w' L' p cs
 | .val e x,cs,h=>Ax.step hb hs (show Ax B w e x cs from h)
 | .agg l,cs,h=>Ba.xH hb hs hl (show Ba.go B w L l cs from h)
 | .tup _,_,h=>h.elim
 | .nils,cs,h=>h
 | .own i,cs,⟨s,E,v,c0,h1,h2⟩=>let⟨s',E',c',h3⟩:=hl.1 i s E v c0 h1;⟨s',E',v,c',h3,h2⟩
 | .ptr i p,cs,⟨md,b,h1,h2,h3⟩=>let⟨md',h4,h5⟩:=hl.2 i md b h1 h2;⟨md',b,h4,h5,h3⟩
 | .rptr v,cs,⟨pv,c0,h1,h2,h3⟩=>⟨pv,c0,h1,h2.step hb hs,Ba.step hb hs hl h3⟩
 | .wp i,cs, .inl h=> .inl h
 | .wp i,cs, .inr ⟨md,b,h1,h2,h3⟩=>let⟨md',h4,h5⟩:=hl.2 i md b h1 h2; .inr ⟨md',b,h4,h5,h3⟩
 | .view o i p e lo n,cs,⟨md,v,h1,h2,h3⟩=>let⟨md',h4,h5⟩:=h3.step hl h1;⟨md',v,h4,h2,h5⟩
 | .fn f caps,cs,⟨vs,h1,h2⟩=>⟨vs,h1,Ba.yS hb hs hl h2⟩
 | .bfn f fs,cs,⟨vs,h1,h2⟩=>⟨vs,h1,Ba.yS hb hs hl h2⟩
 | .cap e l c,cs,⟨v,c0,e1,h1,h2,h3,h4⟩=>⟨v,c0,e1,h1.step hb hs,h2.mono λx c h=>Ax.step hb hs h,h3,h4⟩
 | .mp st ks l,cs,⟨r,es,n,h1,h2,h3,h4,h5⟩=>⟨r,es,n,h1,hb _ h2,(hs r h2).trans h3,h4,Ba.yS hb hs hl h5⟩
 | .cst v,cs,h=>h
 | .any,cs,h=>h
 | .gd _ _ _,_,h=>h.elim
 | .off,_,h=>h.elim
 | .undef,_,h=>h.elim
theorem Ba.xH(hb:∀b,B b->B' b)(hs:Same B w w')(hl:RI L L'):∀{l:List PV} {cs:List Value},Ba.go B w L l cs->Ba.go B' w' L' l cs
 |[],cs,h=>h
 |a::r,cs,⟨c1,c2,e,h1,h2⟩=>⟨c1,c2,e,Ba.step hb hs hl h1,Ba.xH hb hs hl h2⟩
theorem Ba.yS(hb:∀b,B b->B' b)(hs:Same B w w')(hl:RI L L'):∀{l:List PV} {vs:List Value},Ek B w L l vs->Ek B' w' L' l vs
 |[],vs,h=>h
 |a::r,vs,⟨v,vs',e,h1,h2⟩=>⟨v,vs',e,h1.mono λc h=>Ba.step hb hs hl h,Ba.yS hb hs hl h2⟩
end
theorem Ga.step(hb:∀b,B b->B' b)(hs:Same B w w')(hl:RI L L'){p:PV}{v:Value}(h:Ga B w L p v):Ga B' w' L' p v:=asV.mono (λ_ h=>Ba.step hb hs hl h) h
theorem Ef.step(hb:∀b,B b->B' b)(hs:Same B w w')(hl:RI L L'){p:PV}{v:Value}(h:Ef B w L p v):Ef B' w' L' p v:=by
 cases p<;>first
  |(obtain⟨vs,e,h1⟩:=h;exact⟨vs,e,Ba.yS hb hs hl h1⟩)
  |(apply Ga.step hb hs hl;exact h)
def PV.isV:PV->Bool| .undef=>false| .off=>false| .gd _ _ _=>false|_=>true
theorem Gx.iff{t:Nat}{p:PV}(hv:p.isV=true):Gx B w L σ t p↔Ef B w L p (σ t):=by
 cases p<;>first|exact XB|cases hv
theorem Gx.step(hb:∀b,B b->B' b)(hs:Same B w w')(hl:RI L L'){σ:Env}{t:Nat}{p:PV}(h:Gx B w L σ t p):Gx B' w' L' σ t p:=by
 cases p
 case undef=>exact h
 case off=>exact h
 case gd=>obtain⟨b,h1,h2,h3⟩:=h;exact⟨b,h1,λe=>(h2 e).step hb hs hl,h3⟩
 all_goals exact(Gx.iff rfl).2 (((Gx.iff rfl).1 h).step hb hs hl)
theorem Fp.step(hb:∀b,B b->B' b)(hs:Same B w w')(hl:RI L L'){σ:Env}{sl:Slots}(h:Fp B w L σ sl):Fp B' w' L' σ sl:=λp hp=>(h p hp).step hb hs hl
theorem bN.step(hb:∀b,B b->B' b)(hs:Same B w w')(hl:RI L L'):∀{σs:List Env} {st:List Slots},bN B w L σs st->bN B' w' L' σs st
 |[],[],h=>h
 |_::_,_::_,⟨h1,h2⟩=>⟨h1.step hb hs hl,h2.step hb hs hl⟩
theorem Xo.step(hb:∀b,B b->B' b)(hs:Same B w w')(hl:RI L L'){a:Item}{m:MD}(h:Xo B w L a m):Xo B' w' L' a m:=by
 cases a<;>cases m<;>first
  |exact h
  |exact⟨h.1,Ba.step hb hs hl h.2⟩
  |exact⟨h.1,h.2.1,h.2.2.mono λx c h=>Ax.step hb hs h⟩
theorem MemR.step{s:S}{σs:List Env}{σ:Env}(h:MemR B w L s σs σ)(hb:∀b,B b->B' b)(hs:Same B w w'):MemR B' w' L s σs σ:=
 ⟨⟨h.it.1,λi a m h1 h2=>(h.it.2 i a m h1 h2).step hb hs (.refl L)⟩,h.sl.step hb hs (.refl L),h.stk.step hb hs (.refl L)⟩
def Oy(R:Reg)(L:List MD)(s:S)(σs:List Env)(σ:Env):Fact where
 holds A w:=MemR (λb=>A b/\R b) w L s σs σ
 step h ha hs _:=h.step (λb ⟨h1,h2⟩=>⟨ha b h1,h2⟩) (λb ⟨h1,_⟩=>hs b h1)
structure Fix where
 R:Reg
 M:Reg
 w0:World
 new:∀b,w0.heap.size<=b->R b
 mod:∀b,M b->R b
 gl:List (Nat×List Value)
 glok:∀p∈gl,R p.1/\ ¬M p.1/\p.1<w0.heap.size/\∃T fr,w0.heap[p.1]? =some (.cells p.2.toArray T fr)
abbrev Rel(Z:Fix)(s:S)(σs:List Env)(A:Reg)(L:List MD)(σ:Env)(w:World):Prop:=St A w [Oy Z.R L s σs σ, .old Z.M Z.w0] (L.map MD.Ex)
theorem Rel.mem{Z:Fix}{σs:List Env}{A:Reg}{L:List MD}{w:World}(h:Rel Z s σs A L σ w):MemR (λb=>A b/\Z.R b) w L s σs σ:=h.fact 0 rfl
theorem Rel.V!{Z:Fix}{σs:List Env}{A:Reg}{L:List MD}{w:World}(h:Rel Z s σs A L σ w){p:Nat×List Value}(hp:p∈Z.gl):(A p.1/\Z.R p.1)/\∃T fr,w.heap[p.1]? =some (.cells p.2.toArray T fr):=by
 obtain⟨h1,h2,h3,T,fr,h4⟩:=Z.glok p hp;obtain⟨h5,h6⟩:=(h.fact 1 (f:= .old Z.M Z.w0) rfl).2 p.1 h3 h2;exact⟨⟨h5,h1⟩,T,fr,h6.trans h4⟩
theorem Rel.as{Z:Fix}{σs:List Env}{A:Reg}{L:List MD}{w:World}{F:List Fact}{LL:List Mob}(h:St A w F LL)(hF:F[i]? =some (.old Z.M Z.w0))
  (hm:MemR (λb=>A b/\Z.R b) w L s σs σ) (hL:LL=L.map MD.Ex):Rel Z s σs A L σ w:=by
 subst hL;exact(h.noF.qP (f:= .old Z.M Z.w0) (h.fact i hF)).qP (f:=Oy Z.R L s σs σ) hm
end Go.Rx
namespace Go.Rx
open Go Go.Lv
variable{o:BinOp}{e:ET}{k:Kd}{i t:Nat}{x:Operand}{v:Value}
variable {P:Program} {B:Reg} {w:World} {L:List MD} {s:S} {σs:List Env} {σ:Env}
theorem GQ{x:k.T}(h:Ef B w L (.val (.int k) x) v):v=iv (T:=k.T) (k:=k.k) x:=by
 have: [v]=[iv (T:=k.T) (k:=k.k) x]:=h;simpa using this
theorem FB{x:Bool}(h:Ef B w L (.val .bool x) v):v= .bool x:=by
 have: [v]=[.bool x]:=h;simpa using this
theorem tK{x:List UInt8}(h:Ef B w L (.val .str x) v):v=sv x:=by
 have: [v]=[sv x]:=h;simpa using this
theorem HF{p:List Step}{md:MD}{b:Nat}(h:L[i]? =some md)(hb:md.base=some b):Ef B w L (.ptr i p) (.pointer (some ⟨b,Au p,none⟩)):=⟨md,b,h,hb,rfl⟩
theorem Wz{p:List Step}(h:Ef B w L (.ptr i p) v):∃md b,L[i]? =some md/\md.base=some b/\v= .pointer (some ⟨b,Au p,none⟩):=by
 obtain⟨md,b,h1,h2,h3⟩:=h;exact⟨md,b,h1,h2,by simpa using h3⟩
theorem HC(h:Ef B w L (.own i) v):∃z E c0,L[i]? =some (.own z E v c0):=by
 obtain⟨z,E,v',c0,h1,h2⟩:=h;have:v=v':=by simpa using h2
 subst this;exact⟨z,E,c0,h1⟩
theorem Zt{l:List e.T}(h:Ef B w L (.val (.list e) l) v):∃c0,Rd B w e.size v c0/\Cj (Ax B w e) l c0:=by
 obtain⟨v',c0,h1,h2,h3⟩:=h;have:v=v':=by simpa using h1
 subst this;exact⟨c0,h2,h3⟩
theorem mE{l:List e.T}{c0:List Value}(h1:Rd B w e.size v c0)(h2:Cj (Ax B w e) l c0):Ef B w L (.val (.list e) l) v:=⟨v,c0,rfl,h1,h2⟩
theorem FQ(h:Ef B w L .nils v):v= .slice none 0 0:=by
 have: [v]=[.slice none 0 0]:=h;simpa using this
theorem qm{f:Nat}{caps:List PV}(h:Ef B w L (.fn f caps) v):∃vs:List Value,v= .func (.func f) #[] vs.toArray/\Ek B w L caps vs:=by
 obtain⟨vs,h1,h2⟩:=h;exact⟨vs,by simpa using h1,h2⟩
theorem vU{p:PV}(h:Ef B w L (.rptr p) v):∃c0,R' B w v c0/\Ba B w L p c0:=by
 obtain⟨pv,c0,h1,h2,h3⟩:=h;have:v=pv:=by simpa using h1
 subst this;exact⟨c0,h2,h3⟩
theorem cM{p:PV}(hp:p.xq=true):Ef B w L p v↔Ga B w L p v:=by cases p<;>first|exact XB|cases hp
theorem PV.ig{p:PV}(hp:p.xq=true):p.isV=true:=by cases p<;>first|rfl|cases hp
theorem Ve{p:PV}(h:p.isV=false):p= .undef\/p= .off\/∃j w q,p= .gd j w q:=by
 cases p
 case undef=>exact .inl rfl
 case off=>exact .inr (.inl rfl)
 case gd j w q=>exact .inr (.inr ⟨j,w,q,rfl⟩)
 all_goals cases h
def known(p:PV):Option PV:=match p with| .undef=>none| .off=>none| .gd _ _ _=>none|v=>some v
theorem K0{p q:PV}(h:known p=some q):p=q/\q.isV=true:=by
 cases hv:p.isV with
 |true=>
  have:known p=some p:=by cases p<;>first|rfl|cases hv
  rw[this]at h;cases h;exact⟨rfl,hv⟩
 |false=>rcases Ve hv with rfl|rfl|⟨_,_,_,rfl⟩<;>cases h
theorem qU:∀(sl:Slots) (t:Nat),Yp sl t= .undef\/ (t,Yp sl t)∈sl
 |[],_=> .inl rfl
 |(q,v)::r,t=>by
  simp only[Yp];cases h:Nat.beq q t with
  |true=>
   have:=S2 h;subst this;exact .inr F8
  |false=>exact(qU r t).imp (λh=>h) (λh=>H9 _ h)
theorem Mu(hm:Fp B w L σ s.sl):Gx B w L σ t (Yp s.sl t):=by
 rcases qU s.sl t with h|h
 ·rw[h];exact trivial
 ·exact hm _ h
theorem xU{k:IntKind}{kd:Kd}(h:Kd.of k=some kd):kd.k=k:=by
 cases k<;>simp[Kd.of]at h<;>subst h<;>rfl
theorem gB(v:Value):ofConst v= .undef\/ ((ofConst v).xq=true/\Ga B w L (ofConst v) v):=by
 unfold ofConst;split
 ·rename_i k n;split
  ·rename_i kd hk;have hk':=xU hk;subst hk';cases hd:decide (kd.gi.toZ (kd.gi.ofZ n)=n)with
   |true=>
    refine .inr ⟨rfl,?_⟩;have:kd.gi.toZ (kd.gi.ofZ n)=n:=by simpa using hd
    show [_]=[_];simp[iv,this]
   |false=>exact .inr ⟨rfl,rfl,rfl⟩
  ·exact .inr ⟨rfl,rfl,rfl⟩
 ·exact .inr ⟨rfl,rfl⟩
 ·rename_i b;refine .inr ⟨rfl,?_⟩
  show [_]=[_];simp[sv,bytesOf]
 ·exact .inr ⟨rfl,rfl⟩
 ·exact .inl rfl
 ·exact .inl rfl
 ·rename_i h1 h2 h3 h4 h5 h6;refine .inr ⟨rfl,rfl,?_⟩;cases v<;>first|rfl|exact(h5 _ rfl).elim|exact(h6 _ rfl).elim
theorem Qk(hm:Fp B w L σ s.sl)(x:Operand)(hv:(Eh s.sl x).isV=true):Ef B w L (Eh s.sl x) (ev σ x):=by
 cases x with
 |tmp t=>
  have h:=Mu (t:=t) hm
  revert hv
  simp only[Eh,ev];split
  ·rename_i b hb;intro _;rw[hb]at h;have h2: [σ t]=[Value.bool b]:=h.1;have h3:σ t= .bool b:=by simpa using h2
   rw[h3];rfl
  ·rename_i hv';intro hv;exact(Gx.iff hv).1 h
 |const v=>
  rcases gB (B:=B) (w:=w) (L:=L) v with h|h
  ·rw[show Eh s.sl (.const v)= .undef from h]at hv;cases hv
  ·exact(cM h.1).2 h.2
 |global g=>cases hv
 |func f=>exact⟨[],rfl,rfl⟩
theorem Dl{p:PV}(hm:Fp B w L σ s.sl)(h:Eh s.sl x=p)(hv:p.isV=true):Ef B w L p (ev σ x):=by
 subst h;exact Qk hm x hv
theorem Yh{a:k.T}(hm:Fp B w L σ s.sl)(h:Eh s.sl x= .val (.int k) a):ev σ x=iv (T:=k.T) (k:=k.k) a:=GQ (Dl hm h rfl)
theorem qX{a:Bool}(hm:Fp B w L σ s.sl)(h:Eh s.sl x= .val .bool a):ev σ x= .bool a:=FB (Dl hm h rfl)
theorem Qs{a:List UInt8}(hm:Fp B w L σ s.sl)(h:Eh s.sl x= .val .str a):ev σ x=sv a:=tK (Dl hm h rfl)
theorem Akq{x y:k.T}{v:PV}{t:TypeId}(h:jr k o x y=some v):v.isV=true/\∃val,Jw P o t (iv (T:=k.T) (k:=k.k) x) (iv (T:=k.T) (k:=k.k) y) val/\Ef B w L v val:=by
 cases o<;>simp only[jr,HN,reduceCtorEq]at h<;>subst h
 ·exact⟨rfl,_,Bin.add _ _,rfl⟩
 ·exact⟨rfl,_,Bin.sub _ _,rfl⟩
 ·exact⟨rfl,_,Bin.mul _ _,rfl⟩
 ·exact⟨rfl,_,Bin.and _ _,rfl⟩
 ·exact⟨rfl,_,Bin.or _ _,rfl⟩
 ·exact⟨rfl,_,Bin.xor _ _,rfl⟩
 ·exact⟨rfl,_,Bin.eql _ _,rfl⟩
 ·exact⟨rfl,_,Bin.neq _ _,rfl⟩
 ·exact⟨rfl,_,Bin.lss _ _,rfl⟩
 ·exact⟨rfl,_,Bin.leq _ _,rfl⟩
 ·exact⟨rfl,_,Bin.gtr _ _,rfl⟩
 ·exact⟨rfl,_,Bin.geq _ _,rfl⟩
theorem Acl(h:k.isU=true)(y:k.T):0<=k.gi.toZ y:=by
 cases k<;>first|exact XW _|cases h
theorem Adf (k:Kd):k.gi.toZ (k.gi.ofZ 0)=0:=by cases k<;>rfl
theorem D3{k':Kd}{x:k.T}{y:k'.T}{v:PV}{t:TypeId}(h:Y1 o k x k' y=some v)(hc:Y9 o k' y=some true):
  v.isV=true/\∃val,Jw P o t (iv (T:=k.T) (k:=k.k) x) (iv (T:=k'.T) (k:=k'.k) y) val/\Ef B w L v val:=by
 have hnz:Bg y (k'.gi.ofZ 0)=true->k'.gi.toZ y≠0:=λh hz=>by
  simp[Bg,Adf,hz]at h
 have hsh:(Cp (k'.isU) (true)<|Ha y (k'.gi.ofZ 0))=true->0<=k'.gi.toZ y:=λh=>by
  cases hu:k'.isU with
  |true=>exact Acl hu y
  |false=>rw[hu]at h;simpa [Ha,Adf]using h
 cases o<;>simp only[Y1,Y9,HN,reduceCtorEq]at h hc
 ·split at h
  ·rename_i hk;subst hk;cases h;exact⟨rfl,_,Bin.quo _ _ (hnz hc),rfl⟩
  ·cases h
 ·split at h
  ·rename_i hk;subst hk;have hz:=hnz hc;cases k'<;>simp only[yT,VN,XZ,HN,reduceCtorEq]at h<;>subst h
   ·exact⟨rfl,_,Bin.Asd _ _ hz,rfl⟩
   ·exact⟨rfl,_,Bin.Avr _ _ hz,rfl⟩
   ·exact⟨rfl,_,Bin.Api _ _ hz,rfl⟩
   ·exact⟨rfl,_,Bin.Arq _ _ hz,rfl⟩
  ·cases h
 ·subst h;exact⟨rfl,_,Bin.shl _ _ (hsh hc),rfl⟩
 ·have h0:=hsh hc;cases k<;>simp only[zG,VN,XZ,HN,reduceCtorEq]at h<;>subst h
  ·exact⟨rfl,_,Bin.Aph _ _ h0,rfl⟩
  ·exact⟨rfl,_,Bin.Awq _ _ h0,rfl⟩
  ·exact⟨rfl,_,Bin.As4 _ _ h0,rfl⟩
  ·exact⟨rfl,_,Bin.Arj _ _ h0,rfl⟩
  ·exact⟨rfl,_,Bin.Asz _ _ h0,rfl⟩
theorem Cj.len{α:Type}{f:α->List Value->Prop}{z:Nat}(h:∀x c,f x c->c.length=z):∀{l:List α} {cs:List Value},Cj f l cs->cs.length=l.length*z
 |[],_,hh=>by rw[show _=[]from hh];simp
 |x::l,_,⟨c1,c2,e,h1,h2⟩=>by
  subst e;rw[A?,h x c1 h1,Cj.len h h2,B6,VG];omega
theorem Ax.len:∀{e:ET} {x:e.T} {cs:List Value},Ax B w e x cs->cs.length=e.size
 | .int k,x,cs,h=>by rw[show cs=_ from h];rfl
 | .bool,x,cs,h=>by rw[show cs=_ from h];rfl
 | .str,x,cs,h=>by rw[show cs=_ from h];rfl
 | .list e,l,cs,⟨v,c0,e1,_,_⟩=>by rw[e1];rfl
 | .vec n e,l,cs,⟨h1,h2⟩=>by rw[h2.len λx c h=>Ax.len h,h1];rfl
 | .cons a r,x,cs,⟨c1,c2,e,h1,h2⟩=>by rw[e,A?,Ax.len h1,Ax.len h2];rfl
 | .nil,_,cs,h=>by rw[show cs=_ from h];rfl
mutual
theorem Ba.len:∀{p:PV} {cs:List Value},Ba B w L p cs->cs.length=p.size
 | .val e x,cs,h=>Ax.len (show Ax B w e x cs from h)
 | .agg l,cs,h=>Ba.yY (show Ba.go B w L l cs from h)
 | .tup _,_,h=>h.elim
 | .nils,cs,h=>by rw[show cs=_ from h];rfl
 | .own i,cs,⟨_,_,_,_,_,h⟩=>by rw[h];rfl
 | .ptr i p,cs,⟨_,_,_,_,h⟩=>by rw[h];rfl
 | .rptr v,cs,⟨_,_,h,_⟩=>by rw[h];rfl
 | .wp _,cs,h=>by rcases h with h|⟨_,_,_,_,h⟩<;>rw[h]<;>rfl
 | .fn f caps,cs,⟨_,h,_⟩=>by rw[h];rfl
 | .cap _ _ _,cs,⟨_,_,h,_⟩=>by rw[h];rfl
 | .bfn _ _,cs,⟨_,h,_⟩=>by rw[h];rfl
 | .mp _ _ _,cs,⟨_,_,_,h,_⟩=>by rw[h];rfl
 | .cst v,cs,h=>by rw[show cs=_ from h.1];rfl
 | .any,cs,⟨_,h,_⟩=>by rw[h];rfl
 | .view _ _ _ _ _ _,cs,⟨_,_,_,h,_⟩=>by rw[h];rfl
 | .gd _ _ _,_,h=>h.elim
 | .off,_,h=>h.elim
 | .undef,_,h=>h.elim
theorem Ba.yY:∀{l:List PV} {cs:List Value},Ba.go B w L l cs->cs.length=PV.size.go l
 |[],cs,h=>by rw[show cs=_ from h];rfl
 |a::r,cs,⟨c1,c2,e,h1,h2⟩=>by rw[e,A?,Ba.len h1,Ba.yY h2];rfl
end
theorem Ba.field:∀{l:List PV} {n:Nat} {f:PV} {cs:List Value},Ba.go B w L l cs->l[n]? =some f->∃c1 c2 c3,cs=c1++(c2++c3)/\c1.length=W6 l n/\Ba B w L f c2/\
  (∀f' c2',Ba B w L f' c2'->Ba.go B w L (l.set n f') (c1++(c2'++c3)))
 |[],n,f,cs,_,h=>by simp at h
 |a::r,0,f,cs,⟨c1,c2,e,h1,h2⟩,h=>by
  simp at h;subst h;exact⟨[],c1,c2,by simpa using e,rfl,h1,λf' c2' h'=>⟨c2',c2,F8,h',h2⟩⟩
 |a::r,n+1,f,cs,⟨c1,c2,e,h1,h2⟩,h=>by
  obtain⟨d1,d2,d3,e',h3,h4,h5⟩:=Ba.field (n:=n) h2 (by simpa using h);refine⟨c1++d1,d2,d3,by rw[e,e'];simp,by rw[A?,Ba.len h1,h3];rfl,h4,λf' c2' h'=>?_⟩;exact⟨c1,d1++(c2'++d3),F8,h1,h5 f' c2' h'⟩
theorem Ba.lU{p:PV}{cs:List Value}(h:Ba B w L p cs):p.xq=true:=by
 cases p<;>first|rfl|exact h.elim
theorem tu{p:PV}(h:Ga B w L p v):p.xq=true:=by
 unfold Ga asV at h;split at h
 ·obtain⟨cs,_,h⟩:=h;exact h.lU
 ·exact h.lU
theorem Je{p:PV}(h:Ga B w L p v):p.isV=true/\Ef B w L p v:=⟨PV.ig (tu h),(cM (tu h)).2 h⟩
theorem Ek.get:∀{l:List PV} {vs:List Value} {i:Nat} {p:PV},Ek B w L l vs->l[i]? =some p->∃v,vs[i]? =some v/\Ga B w L p v
 |[],_,_,_,_,h=>by simp at h
 |a::r,_,0,p,⟨v,vs',e,h1,h2⟩,h=>by simp at h;subst h;subst e;exact⟨v,rfl,h1⟩
 |a::r,_,i+1,p,⟨v,vs',e,h1,h2⟩,h=>by subst e;simpa using Ek.get (i:=i) h2 (by simpa using h)
theorem mP(hm:Fp B w L σ s.sl):∀(l:List Operand),J6 (l.map (Eh s.sl))=true->Ek B w L (l.map (Eh s.sl)) (l.map (ev σ))
 |[],_=>rfl
 |x::r,h=>by
  simp only[IZ,J6,A9]at h;exact⟨_,_,rfl,(cM h.1).1 (Qk hm x (PV.ig h.1)),mP hm r h.2⟩
theorem MF(p q:List Step):Au (p++q)=Au p+Au q:=by
 induction p with
 |nil=>simp[Au]
 |cons a r ih=>simp only[SU,Au,ih];omega
theorem CM{α:Type}{a:Array α}{l:List α}(h:a.toList=l):a=l.toArray:=by subst h;simp
def OpR(B:Reg)(w:World)(L:List MD)(σ:Env):PV->Value->Prop
 | .undef,_=>True
 | .off,v=>v=Go.undef
 | .gd j want p,v=>∃b,σ j= .bool b/\ (b=want->Ef B w L p v)/\ (b≠want->v=Go.undef)
 |p,v=>Ef B w L p v
theorem OpR.iff{p:PV}(hv:p.isV=true):OpR B w L σ p v↔Ef B w L p v:=by
 cases p<;>first|exact XB|cases hv
theorem bM(hm:Fp B w L σ s.sl)(x:Operand):OpR B w L σ (Eh s.sl x) (ev σ x):=by
 cases hv:(Eh s.sl x).isV with
 |true=>exact(OpR.iff hv).2 (Qk hm x hv)
 |false=>
  cases x with
  |tmp t=>
   have h:=Mu (t:=t) hm
   revert hv
   simp only[Eh,ev];split
   ·intro hv;cases hv
   ·intro hv
    revert h hv
    generalize Yp s.sl t=p;intro h hv;cases p<;>first|exact h|cases hv
  |const v=>
   rcases gB (B:=B) (w:=w) (L:=L) v with h|h
   ·rw[show Eh s.sl (.const v)= .undef from h];exact trivial
   ·have h1:=PV.ig h.1;simp only[Eh]at hv;rw[h1]at hv;cases hv
  |global g=>exact trivial
  |func f=>cases hv
theorem D7{b:Bool}{p:PV}(ht:σ t= .bool b)(h:OpR B w L σ p v):OpR B w L σ (YC t b p) v:=by
 unfold YC;split
 ·rename_i j want q;obtain⟨c,h1,h2,h3⟩:=h;cases hb:(Nat.beq j t&&lM want b)with
  |true=>
   simp only[A9]at hb;have hj:=S2 hb.1;subst hj;have hw:want=b:=by cases want<;>cases b<;>simp_all [lM]
   subst hw;rw[ht]at h1;cases h1;have h4:=h2 rfl;cases hv:q.isV with
   |true=>exact(OpR.iff hv).2 h4
   |false=>
    cases q<;>first
     |exact trivial
     |exact absurd hv Bool.noConfusion
     |(exfalso;exact(show False from h4))
  |false=>exact trivial
 ·exact h
end Go.Rx
namespace Go.Rx
open Go Go.Lv
variable{b:Bool}{e:ET}{x:Operand}{p v:PV}{t:TypeId}
variable {P:Program} {B:Reg} {w w':World} {L L':List MD} {s:S} {σs:List Env} {σ:Env} {Z:Fix} {A A':Reg} {n:Nat}
theorem Bn{a b:Nat}(h:Nat.beq a b=true):a=b:=S2 h
theorem Aq{α:Type}{x:Option α}{r:α}(h:(Cp (b) (x)<|none)=some r):b=true/\x=some r:=by
 cases b with
 |true=>exact⟨rfl,h⟩
 |false=>cases h
theorem xg{a:Bool}(h:lM a b=true):a=b:=by cases a<;>cases b<;>simp_all [lM]
structure OkLoad (P:Program) (t:TypeId) (u:PV):Prop where
 agg:∃d,P.underlying t=some d/\Y4 d=u.isA
 size:Im P t u.size
 one:u.isA=false->u.size=1
theorem Pb{u:PV}(h:Ml P t u=true):OkLoad P t u:=by
 unfold Ml at h;split at h
 ·rename_i b hb;simp only[A9]at h;obtain⟨⟨h1,h2⟩,h3⟩:=h;have:=xg h1;subst this;unfold zB at hb;cases hu:P.underlying t with
  |none=>rw[hu]at hb;cases hb
  |some d=>
   rw[hu]at hb;refine⟨⟨d,hu,by simpa using hb⟩,?_,λhz=>?_⟩
   ·split at h2
    ·rename_i i hi;exact⟨i,hi,S2 h2⟩
    ·cases h2
   ·rw[hz]at h3;exact S2 (by simpa using h3)
 ·cases h
theorem zk:∀{e:ET} {x:e.T} {cs:List Value},Ba.go B w L (e.pvl x) cs↔Ax B w e x cs
 | .cons a r,(x,y),cs=>by
  have ih1:= @zk a x;have ih2:= @zk r y;have e1:∀c,Ba B w L (Cp (a.isS) (.agg (a.pvl x))<| .val a x) c↔Ax B w a x c:=λc=>by
   cases h:a.isS with
   |true=>exact ih1
   |false=>exact XB
  constructor
  ·rintro⟨c1,c2,e,h1,h2⟩;exact⟨c1,c2,e,(e1 c1).1 h1,ih2.1 h2⟩
  ·rintro⟨c1,c2,e,h1,h2⟩;exact⟨c1,c2,e,(e1 c1).2 h1,ih2.2 h2⟩
 | .nil,_,cs=>XB
 | .int k,x,cs=>⟨λ⟨c1,c2,e,h1,h2⟩=>by rw[e,show c2=[]from h2,F_];exact h1,λh=>⟨cs,[],F8,h,rfl⟩⟩
 | .bool,x,cs=>⟨λ⟨c1,c2,e,h1,h2⟩=>by rw[e,show c2=[]from h2,F_];exact h1,λh=>⟨cs,[],F8,h,rfl⟩⟩
 | .str,x,cs=>⟨λ⟨c1,c2,e,h1,h2⟩=>by rw[e,show c2=[]from h2,F_];exact h1,λh=>⟨cs,[],F8,h,rfl⟩⟩
 | .list e,x,cs=>⟨λ⟨c1,c2,e,h1,h2⟩=>by rw[e,show c2=[]from h2,F_];exact h1,λh=>⟨cs,[],F8,h,rfl⟩⟩
 | .vec n e,x,cs=>⟨λ⟨c1,c2,e,h1,h2⟩=>by rw[e,show c2=[]from h2,F_];exact h1,λh=>⟨cs,[],F8,h,rfl⟩⟩
theorem UN{x:e.T}{cs:List Value}:Ba B w L (e.pv x) cs↔Ax B w e x cs:=by
 unfold ET.pv;cases h:e.isS with
 |true=>exact zk
 |false=>exact XB
theorem Alo{e':ET}{x:e.T}{y:e'.T}{cs:List Value}(h:ZU e e' x=some y)(hx:Ax B w e x cs):Ax B w e' y cs:=by
 unfold ZU at h;split at h
 ·rename_i he;subst he;cases h;exact hx
 ·cases h
theorem At8{rec:List PV->Option e.T}(hrec:∀l x cs,rec l=some x->Ba.go B w L l cs->Ax B w e x cs){x:e.T}{cs:List Value}(h:ZQ e rec p=some x)(hp:Ba B w L p cs):Ax B w e x cs:=by
 unfold ZQ at h;split at h
 ·exact Alo h hp
 ·exact hrec _ _ _ h hp
 ·cases e<;>simp only[ET.zA,reduceCtorEq,HN]at h;subst h;exact⟨_,[],show cs=_ from hp,Rd.nil,rfl⟩
 ·cases h
theorem wh:∀{e:ET} {l:List PV} {x:e.T} {cs:List Value},e.ofl l=some x->Ba.go B w L l cs->Ax B w e x cs
 | .cons a r,[],x,cs,h,hl=>by simp[ET.ofl]at h
 | .cons a r,p::ps,x,cs,h,⟨c1,c2,e,h1,h2⟩=>by
  simp only[ET.ofl]at h;obtain⟨y,hy,h⟩:=bind_some h;obtain⟨z,hz,h⟩:=bind_some h;cases h;exact⟨c1,c2,e,At8 (λl x cs h hl=>wh h hl) hy h1,wh hz h2⟩
 | .nil,[],x,cs,h,hl=>hl
 | .nil,_::_,x,cs,h,hl=>by simp[ET.ofl]at h
 | .int k,l,x,cs,h,hl=>by cases l<;>simp[ET.ofl]at h
 | .bool,l,x,cs,h,hl=>by cases l<;>simp[ET.ofl]at h
 | .str,l,x,cs,h,hl=>by cases l<;>simp[ET.ofl]at h
 | .list e,l,x,cs,h,hl=>by cases l<;>simp[ET.ofl]at h
 | .vec n e,l,x,cs,h,hl=>by cases l<;>simp[ET.ofl]at h
theorem PJ{x:e.T}{cs:List Value}(h:e.of p=some x)(hp:Ba B w L p cs):Ax B w e x cs:=At8 (λ_ _ _ h hl=>wh h hl) h hp
theorem Aju{e:ET}:∀{l:List PV} {x:List e.T} {cs:List Value},Z8.go e l=some x->Ba.go B w L l cs->Cj (Ax B w e) x cs
 |[],x,cs,hx,hl=>by simp only[Z8.go,HN]at hx;subst hx;exact hl
 |a::q,x,cs,hx,⟨c1,c2,e',h1,h2⟩=>by
  simp only[Z8.go]at hx;split at hx
  ·rename_i y ys hy hys;cases hx;exact⟨c1,c2,e',PJ hy h1,Aju hys h2⟩
  ·cases hx
theorem Ags{m:Nat}{l:List PV}{cs:List Value}(h:Z8 m e l=some v)(hl:Ba.go B w L l cs):Ba B w L v cs:=by
 unfold Z8 at h;split at h
 ·rename_i x hx;obtain⟨hb,h⟩:=Aq h;cases h;exact⟨Bn hb,Aju hx hl⟩
 ·cases h
theorem qJ{f:TypeId->List Value->Option (PV×List Value)}(hf:∀t cs v q,f t cs=some (v,q)->∃c,cs=c++q/\Ba B w L v c):∀{ts:List TypeId} {cs:List Value} {vs:List PV} {q:List Value},uV f ts cs=some (vs,q)->∃c,cs=c++q/\Ba.go B w L vs c
 |[],cs,vs,q,h=>by simp only[uV,HN,SO]at h;obtain⟨rfl,rfl⟩:=h;exact⟨[],rfl,rfl⟩
 |t::ts,cs,vs,q,h=>by
  simp only[uV]at h;split at h
  ·rename_i v cs' h1;split at h
   ·rename_i us r' h2;cases h;obtain⟨c1,rfl,h3⟩:=hf _ _ _ _ h1;obtain⟨c2,rfl,h4⟩:=qJ hf h2;exact⟨c1++c2,F8,c1,c2,rfl,h3,h4⟩
   ·cases h
  ·cases h
theorem Ah5(c:Value):(ofConst c).isA=false:=by
 unfold ofConst;split
 ·split
  ·rename_i m _ kd _;cases decide (kd.gi.toZ (kd.gi.ofZ m)=m)<;>rfl
  ·rfl
 all_goals rfl
theorem Bfg{c:Value}(hc:(ofConst c).xq=true):Ba B w L (ofConst c) [c]:=by
 rcases gB (B:=B) (w:=w) (L:=L) c with h|⟨_,h⟩
 ·rw[h]at hc;cases hc
 ·unfold Ga at h;rw[Ah5]at h;exact h
theorem YP:∀(q:Nat) {t:TypeId} {cs:List Value} {v:PV} {r:List Value},parse P q t cs=some (v,r)->∃c,cs=c++r/\Ba B w L v c
 |0,_,_,_,_,h=>by simp[parse]at h
 |q+1,t,cs,v,r,h=>by
  simp only[parse]at h;split at h
  ·split at h
   ·rename_i vs r' h1;cases h;obtain⟨c,h2,h3⟩:=qJ (λt cs v q' h=>YP q h) h1;exact⟨c,h2,h3⟩
   ·cases h
  ·split at h
   ·rename_i a vs r' h0 h1;split at h
    ·rename_i u hu;cases h;obtain⟨c,h2,h3⟩:=qJ (λt cs v q' h=>YP q h) h1;exact⟨c,h2,Ags hu h3⟩
    ·cases h
   ·cases h
  ·split at h
   ·rename_i c r';obtain⟨hb,h⟩:=Aq h;cases h;exact⟨[c],rfl,Bfg hb⟩
   ·cases h
  ·cases h
theorem cJ{v:Value}(h:kR P t v=some p):Ba B w L p v.cells.toList:=by
 unfold kR at h;split at h
 ·rename_i p' h1;cases h;obtain⟨c,h2,h3⟩:=YP (B:=B) (w:=w) (L:=L) Q h1;rw[F_]at h2;rw[h2];exact h3
 ·cases h
theorem E3{a:PV}{c1 c2 c3:List Value}(ho:OkLoad P t a)(ha:Ba B w L a c2):∃v,Ga B w L a v/\∀w0,(part t (c1++(c2++c3)).toArray c1.length).run P w0= .ok v w0:=by
 obtain⟨d,hd,hA⟩:=ho.agg;have hlen:=ha.len;cases hb:a.isA with
 |true=>
  refine⟨.agg c2.toArray,by unfold Ga;rw[hb];exact⟨c2,rfl,ha⟩,λw0=>?_⟩;simp only[part,C1,Fj hd (hA.trans hb),Ca ho.size,B8,U9,I7];congr 2;apply ZH;rw[<-hlen];simp[List.take_append,o!]
 |false=>
  rw[ho.one hb]at hlen
  match c2,hlen with
  |[v],_=>
   refine⟨v,by unfold Ga;rw[hb];exact ha,λw0=>?_⟩;simp only[part,C1,Fj hd (hA.trans hb),B8,SN,R8];simp
theorem rF{rec:TypeId->PV->PV->Option Bool}{q:Nat}(hrec:∀{t:TypeId} {x y:PV} {b:Bool} {v v':Value},rec t x y=some b->Ga B w L x v->Ga B w L y v'->∀w0,(Op.equalIn q t v v').run P w0= .ok b w0):
  ∀{fs:List Field} {l m:List PV} {off:Nat} {b:Bool} {p1 p2 c1 c2:List Value},wm P rec fs l m off=some b->Ba.go B w L l c1->Ba.go B w L m c2->p1.length=off->p2.length=off->
   ∀w0,(Op.eqFields q (p1++c1).toArray (p2++c2).toArray fs).run P w0= .ok b w0
 |[],[],[],off,b,p1,p2,c1,c2,h,_,_,_,_,w0=>by
  simp only[wm,HN]at h;subst h;rfl
 |f::fs,x::l,y::m,off,b,p1,p2,c1,c2,h,⟨d1,e1,hc1,hx,hl⟩,⟨d2,e2,hc2,hy,hm⟩,h1,h2,w0=>by
  subst hc1 hc2;simp only[wm]at h;cases hc:(f.name== "_"|| !Nat.beq f.offset off|| !Ml P f.type x|| !Ml P f.type y|| !Nat.beq x.size y.size)with
  |true=>rw[hc]at h;cases h
  |false=>
   rw[hc]at h
   try dsimp only[Cp,cond]at h
   simp only[YW,eu]at hc;obtain⟨⟨⟨⟨hn,ho⟩,hlx⟩,Z3⟩,hsz⟩:=hc;have hoff:=Bn ho;have hsz':=Bn hsz;split at h
   ·rename_i bx br hbx hbr;cases h;obtain⟨v,hv,hpx⟩:=E3 (c1:=p1) (c3:=e1) (Pb hlx) hx;obtain⟨v',hv',hpy⟩:=E3 (c1:=p2) (c3:=e2) (Pb Z3) hy;have hr:=hrec hbx hv hv';have hnm:f.name≠ "_":=by simpa using hn
    have ih:=rF hrec (p1:=p1++d1) (p2:=p2++d2) hbr hl hm (by simp[h1,hx.len]) (by simp[h2,hy.len,hsz']);rw[C0,C0]at ih;rw[h1,<-hoff]at hpx;rw[h2,<-hoff]at hpy;simp only[Op.eqFields,hnm,ne_eq,not_false_eq_true,U9,C1,hpx,hpy,B8,hr];cases bx with
    |true=>simpa using ih w0
    |false=>simp
   ·cases h
 |[],_::_,_,_,_,_,_,_,_,h,_,_,_,_,_=>by simp[wm]at h
 |[],[],_::_,_,_,_,_,_,_,h,_,_,_,_,_=>by simp[wm]at h
 |_::_,[],_,_,_,_,_,_,_,h,_,_,_,_,_=>by simp[wm]at h
 |_::_,_::_,[],_,_,_,_,_,_,h,_,_,_,_,_=>by simp[wm]at h
theorem I3{te:TypeId}{k:Kd}{d:Nat}(ho:∀x:k.T,OkLoad P te (.val (.int k) x))(hi:gU P te=true):∀{a b:List k.T} {p1 p2 c1 c2:List Value},Cj (Ax B w (.int k)) a c1->Cj (Ax B w (.int k)) b c2->a.length=b.length->p1.length=p2.length->
  ∀w0,(Op.eqItems (d+1) te 1 (p1++c1).toArray (p2++c2).toArray (List.range' p1.length a.length)).run P w0= .ok (ZT a b) w0
 |[],[],_,_,_,_,_,_,_,_,w0=>by simp[Op.eqItems,ZT]
 |x::a,y::b,p1,p2,c1,c2,⟨d1,e1,hc1,hx,ha⟩,⟨d2,e2,hc2,hy,hb⟩,hl,hp,w0=>by
  subst hc1 hc2;obtain⟨v,hv,hpx⟩:=E3 (B:=B) (w:=w) (L:=[]) (a:= .val (.int k) x) (c1:=p1) (c3:=e1) (ho x) hx;obtain⟨v',hv',hpy⟩:=E3 (B:=B) (w:=w) (L:=[]) (a:= .val (.int k) y) (c1:=p2) (c3:=e2) (ho y) hy;have q1:=GQ (show Ef B w [] (.val (.int k) x) v from hv);have q2:=GQ (show Ef B w [] (.val (.int k) y) v' from hv');have hk:∃k0,P.underlying te=some (.int k0):=by
   unfold gU at hi;split at hi
   ·exact⟨_,by assumption⟩
   ·cases hi
  obtain⟨k0,hk⟩:=hk;have hr:=run_equalIn_int w0 d te k.k k0 (GI.toZ x) (GI.toZ y) hk;have n1:d1.length=1:=by have:d1=_:=hx;rw[this];rfl
  have n2:d2.length=1:=by have:d2=_:=hy;rw[this];rfl
  have ih:=I3 (d:=d) ho hi (p1:=p1++d1) (p2:=p2++d2) ha hb (by simpa using hl) (by simp[hp,n1,n2]);rw[C0,C0,A?,n1]at ih;simp only[B6,nu,Op.eqItems,C1,cG,hpx,B8];rw[hp,hpy];simp only[B8,q1,q2,iv,hr];rw[<-hp];simp only[ZT,geq];cases hz:(GI.toZ x==GI.toZ y)with
  |true=>simpa [hz]using ih w0
  |false=>simp[hz]
 |[],_::_,_,_,_,_,_,_,h,_,_=>by simp at h
 |_::_,[],_,_,_,_,_,_,h,_,_=>by simp at h
theorem u?:∀(q:Nat) {t:TypeId} {x y:PV} {b:Bool} {v v':Value} (d:Nat),eqV P q t x y=some b->Ga B w L x v->Ga B w L y v'->∀w0,(Op.equalIn (d+q) t v v').run P w0= .ok b w0
 |0,_,_,_,_,_,_,_,h,_,_,_=>by simp[eqV]at h
 |q+1,t,x,y,b,v,v',d,h,hx,hy,w0=>by
  simp only[eqV]at h;split at h
  ·rename_i k0 k a k' c hu;split at h
   ·rename_i hk;subst hk;cases h;have e1:=GQ (show Ef B w L (.val (.int k') a) v from hx);have e2:=GQ (show Ef B w L (.val (.int k') c) v' from hy);rw[e1,e2];exact run_equalIn_int w0 (d+q) t k'.k k0 _ _ hu
   ·cases h
  ·rename_i a c hu;cases h;rw[FB (show Ef B w L (.val .bool a) v from hx),FB (show Ef B w L (.val .bool c) v' from hy)];exact fF w0 (d+q) t _ _ hu
  ·rename_i a c hu;cases h;rw[tK (show Ef B w L (.val .str a) v from hx),tK (show Ef B w L (.val .str c) v' from hy)];have:=run_equalIn_string w0 (d+q) t ⟨a.toArray⟩ ⟨c.toArray⟩ hu;rw[<-K7];rw[this,mO,mO]
  ·rename_i fs l m hu;cases hst:P.stoodInHeld t with
   |true=>rw[hst]at h;cases h
   |false=>
    rw[hst]at h
    try dsimp only[Cp,cond]at h
    obtain⟨c1,rfl,h1⟩:=hx;obtain⟨c2,rfl,h2⟩:=hy;have hf:P.fieldsOf t=fs:=by simp[Program.fieldsOf,hu]
    have:=run_equalIn_struct w0 (d+q) t c1.toArray c2.toArray (by rw[hf];exact hu) hst;rw[<-K7,this,hf];have:=rF (p1:=[]) (p2:=[]) (q:=d+q) (λh hx hy w0=>u? q d h hx hy w0) h h1 h2 rfl rfl w0;simpa using this
  ·rename_i n te m k a m' k' c hu;obtain⟨hb,h⟩:=Aq h;simp only[A9]at hb;obtain⟨⟨⟨⟨hm,hm'⟩,hq⟩,hl⟩,hi⟩:=hb;split at h
   ·rename_i hk;subst hk;cases h;have hm:=Bn hm;have hm':=Bn hm';subst hm;subst hm';obtain⟨c1,rfl,h1⟩:=hx;obtain⟨c2,rfl,h2⟩:=hy;obtain⟨l1,h1⟩:a.length=m'/\Cj (Ax B w (.int k')) a c1:=h1;obtain⟨l2,h2⟩:c.length=m'/\Cj (Ax B w (.int k')) c c2:=h2;obtain⟨q,rfl⟩:∃p,q=p+1:=⟨q-1,by have:=U3 hq;omega⟩;have ho:=Pb hl;obtain⟨i,g1,g2⟩:=ho.size;have hce:P.cellsOf te=1:=by simp[Program.cellsOf,g1];exact g2
    have:=run_equalIn_array (w:=w0) (d+(q+1)) c1.toArray c2.toArray hu g1;rw[<-K7,this,nG,hce,<-l1];have:=I3 (p1:=[]) (p2:=[]) (d:=d+q) (λx=>(⟨ho.agg,ho.size,ho.one⟩:OkLoad P te (.val (.int k') x))) hi h1 h2 (l1.trans l2.symm) rfl w0;simpa [K7]using this
   ·cases h
  ·cases h
theorem sP{l:List PV}(hm:Fp B w L σ s.sl)(h:eB P s t x=some (.agg l)):Ga B w L (.agg l) (ev σ x):=by
 unfold eB at h;split at h
 ·rename_i cs;have:=cJ (B:=B) (w:=w) (L:=L) h;exact⟨cs.toList,by simp[ev],this⟩
 ·have e:Eh s.sl x= .agg l:=Z6 h;exact Dl (p:= .agg l) hm e rfl
theorem Ap8{o:BinOp}{t':TypeId}{y:Operand}(hm:Fp B w L σ s.sl)(h:kW P s o t x y=some v):∃b,v= .b b/\∀w',XO P σ w' (.binOp o t x y t') (.bool b):=by
 unfold kW at h;split at h
 ·rename_i q l m hq hl hm';have hx:=sP hm hl;have hy:=sP hm hm';cases hg:P.eqGuardType P.depth t with
  |true=>rw[hg]at h;cases h
  |false=>
   rw[hg]at h;simp only[X0,Sn,YO]at h;obtain⟨b,hb,rfl⟩:=h;refine⟨_,rfl,λw'=>?_⟩;have he:=u? Q (10000-Q) hb hx hy;obtain⟨c1,e1,_⟩:=hx;obtain⟨c2,e2,_⟩:=hy;rw[e1,e2]at he;refine X.bin e1 e2 λox oy w0=>?_;have hgd:=run_eqGuard_agg (P:=P) w0 o t ox oy c1.toArray c2.toArray hg;have he':(Op.equalIn 10000 t (.agg c1.toArray) (.agg c2.toArray)).run P w0= .ok b w0:=he w0;cases o<;>simp only[J8,HN,reduceCtorEq]at hq<;>subst hq
   ·simp only[C1,hgd,B8,run_eql_struct,he',cond_true,Ui]
   ·simp only[C1,hgd,B8,run_neq_struct,he',X0,Sn]
 ·cases h
end Go.Rx
namespace Go.Rx
open Go Go.Lv
variable{b:Bool}{f off:Nat}{c x y:Operand}{a a' p v:PV}{t:TypeId}
variable {P:Program} {B:Reg} {w:World} {L:List MD} {s:S} {σs:List Env} {σ:Env}
abbrev Yields(P:Program)(B:Reg)(w:World)(L:List MD)(σ:Env)(W:World->Prop)(o:Op)(v:PV):Prop:=v.isV=true/\∃val,(∀w',W w'->XO P σ w' o val)/\Ef B w L v val
theorem Aov{W:World->Prop}(hc:ev σ c= .bool b)(ha:b=true->OpR B w L σ a (ev σ x))(ha':b=false->OpR B w L σ a' (ev σ y))(h:xX b a a'=some p):
  Yields P B w L σ W (.pick c x y) p:=by
 have key:∀(q:PV) (v:Value),OpR B w L σ q v->known q=some p->p.isV=true/\Ef B w L p v:=λq v hq hp=>by
  obtain⟨rfl,hv⟩:=K0 hp;exact⟨hv,(OpR.iff hv).1 hq⟩
 cases b with
 |true=>
  obtain⟨h1,h2⟩:=key a _ (ha rfl) h;exact⟨h1,_,λw' _=>X.pick hc rfl rfl rfl,h2⟩
 |false=>
  obtain⟨h1,h2⟩:=key a' _ (ha' rfl) h;exact⟨h1,_,λw' _=>X.pick hc rfl rfl rfl,h2⟩
theorem tO(h:YI x=some b):ev σ x= .bool b:=by
 unfold YI at h;split at h
 ·cases h;rfl
 ·cases h
theorem Agm{W:World->Prop}{lit:Option Bool}(hc:ev σ c= .bool b)(ha:b=true->OpR B w L σ a (ev σ x))(ha':b=false->OpR B w L σ a' (ev σ y))
  (hl:lit=some true->YI x=some true) (hl':lit=some false->YI y=some false) (h:jK b lit a a'=some p):
  Yields P B w L σ W (.pick c x y) p:=by
 unfold jK at h;split at h
 ·rename_i u v;have hu:b=true->ev σ x= .bool u:=λhb=>FB (ha hb);have hv:b=false->ev σ y= .bool v:=λhb=>FB (ha' hb);split at h
  ·have:=tO (σ:=σ) (hl rfl);cases h;refine⟨rfl, .bool (b||v),λw' _=>X.pick hc rfl rfl ?_,rfl⟩;cases b with
   |true=>simpa using this
   |false=>simpa using hv rfl
  ·have:=tO (σ:=σ) (hl' rfl);cases h;refine⟨rfl, .bool (b&&u),λw' _=>X.pick hc rfl rfl ?_,rfl⟩;cases b with
   |true=>simpa using hu rfl
   |false=>simpa using this
  ·cases h;refine⟨rfl, .bool (Cp (b) (u)<|v),λw' _=>X.pick hc rfl rfl ?_,rfl⟩;cases b with
   |true=>simpa using hu rfl
   |false=>simpa using hv rfl
 ·rename_i e u e' v _;split at h
  ·rename_i he;subst he;cases h;refine⟨rfl,if b then ev σ x else ev σ y,λw' _=>X.pick hc rfl rfl rfl,?_⟩;cases b with
   |true=>simpa using(show Ef B w L (.val e' u) (ev σ x)from ha rfl)
   |false=>simpa using(show Ef B w L (.val e' v) (ev σ y)from ha' rfl)
  ·cases h
 ·cases h
theorem E8{z:Nat}(h:fieldInfo P t f=some (off,z))(hz:Nat.beq z 0=false):mT P t f off:=
 mT.mk h (by intro e;subst e;cases hz)
theorem Adm{l:List PV}{u:PV}{v:Value}(h:Ef B w L (.rptr (.agg l)) v)(hl:l[f]? =some u)(ho:W6 l f=off):
  ∃b o,v= .pointer (some ⟨b,o,none⟩)/\Ef B w L (.rptr u) (.pointer (some ⟨b,o+off,none⟩)):=by
 obtain⟨c0,⟨b,o,arr,T,fr,rfl,h2,h3,h4⟩,h5⟩:=vU h;obtain⟨c1,c2,c3,e,h6,h7,_⟩:=Ba.field (show Ba.go B w L l c0 from h5) hl;refine⟨b,o,rfl,_,c2,rfl,⟨b,o+off,arr,T,fr,rfl,h2,h3,λi hi=>?_⟩,h7⟩;have:=h4 (off+i) (by rw[e];simp;omega);rw[K7,this,e,SF F0,h6,ho];rw[show off+i-off=i by omega,I9 hi]
theorem Aq9{o:BinOp}{q:Bool}{k k':Kd}{a:k.T}{c:k'.T}(h:kI o q k a k' c=some v):
  v.isV=true/\∃val,Jw P o t (iv (T:=k.T) (k:=k.k) a) (iv (T:=k'.T) (k:=k'.k) c) val/\Ef B w L v val:=by
 unfold kI at h;cases hd:yN o with
 |true=>
  rw[hd]at h;cases q with
  |true=>
   try dsimp only[Cp,cond]at h
   split at h
   ·rename_i hc;exact D3 h hc
   ·cases h
  |false=>
   try dsimp only[Cp,cond]at h
   cases hb:(k'.isU&&kV o)with
   |true=>
    rw[hb]at h;simp only[A9]at hb;refine D3 h ?_;have h1:=hb.2;have h2:=hb.1;cases o<;>simp[kV]at h1<;>simp[Y9,h2]
   |false=>rw[hb]at h;cases h
 |false=>
  rw[hd]at h
  try dsimp only[Cp,cond]at h
  split at h
  ·rename_i hk;subst hk;exact Akq h
  ·cases h
theorem yw(W:World->Prop)(hm:Fp B w L σ s.sl){o:Op}(h:op0 P s o=some v):Yields P B w L σ W o v:=by
 unfold op0 at h;split at h
 ·
  rename_i x;have hx:=bM hm x;obtain⟨h1,hv⟩:=K0 (show known (Eh s.sl x)=some v from h);rw[h1]at hx;exact⟨hv,_,λw' _=>X.move rfl,(OpR.iff hv).1 hx⟩
 ·rename_i x;have hx:=bM hm x;obtain⟨h1,hv⟩:=K0 (show known (Eh s.sl x)=some v from h);rw[h1]at hx;exact⟨hv,_,λw' _=>X.assign rfl,(OpR.iff hv).1 hx⟩
 ·
  rename_i o t x y t';split at h
  ·rename_i k a k' c hx hy;have ex:=Yh hm hx;have ey:=Yh hm hy;obtain⟨hv,val,hb,hr⟩:=Aq9 (P:=P) (B:=B) (w:=w) (L:=L) (t:=t) h;exact⟨hv,val,λw' _=>X.bin ex ey hb,hr⟩
  ·rename_i a c hx hy;have ex:=qX hm hx;have ey:=qX hm hy;split at h
   ·rename_i hu;split at h
    ·cases h;exact⟨rfl,_,λw' _=>X.bin ex ey (Bin.Ans hu _ _),rfl⟩
    ·cases h;exact⟨rfl,_,λw' _=>X.bin ex ey (Bin.Alc hu _ _),rfl⟩
    ·cases h
   ·cases h
  ·rename_i a c hx hy;have ex:=Qs hm hx;have ey:=Qs hm hy;split at h
   ·cases h;exact⟨rfl,_,λw' _=>X.bin ex ey (Bin.Are _ _),rfl⟩
   ·cases h;exact⟨rfl,_,λw' _=>X.bin ex ey (Bin.Asm _ _),rfl⟩
   ·cases h
  ·obtain⟨b,rfl,hb⟩:=Ap8 (t':=t') hm h;exact⟨rfl,_,λw' _=>hb w',rfl⟩
 ·
  rename_i o t x;split at h
  ·rename_i k a hx;have ex:=Yh hm hx;split at h
   ·cases h;exact⟨rfl,_,λw' _=>X.neg ex,rfl⟩
   ·cases h;exact⟨rfl,_,λw' _=>X.Ayi ex,rfl⟩
   ·cases h
  ·rename_i a hx;have ex:=qX hm hx;split at h
   ·cases h;exact⟨rfl,_,λw' _=>X.not ex,rfl⟩
   ·cases h
  ·cases h
 ·
  rename_i c a b;split at h
  ·rename_i t x hx;have hs:=Mu (t:=t) hm;rw[hx]at hs;have hc:σ t= .bool x:=by have: [σ t]=[Value.bool x]:=hs.1;simpa using this
   exact Aov hc (λe=>D7 (by rw[hc,e]) (bM hm a)) (λe=>D7 (by rw[hc,e]) (bM hm b)) h
  ·rename_i t x hx;have hs:=Mu (t:=t) hm;rw[hx]at hs;have hc:σ t= .bool x:=FB hs;refine Agm hc (λe=>D7 (by rw[hc,e]) (bM hm a)) (λe=>D7 (by rw[hc,e]) (bM hm b)) (λe=>?_) (λe=>?_) h
   ·split at e
    ·rename_i hl;exact hl
    ·split at e<;>cases e
   ·split at e
    ·cases e
    ·split at e
     ·rename_i hl;exact hl
     ·cases e
  ·cases h
 ·
  rename_i x i;split at h
  ·rename_i l hx;obtain⟨vs,e1,h1⟩:=Dl hm hx rfl;obtain⟨val,h2,h3⟩:=Ek.get h1 h;obtain⟨h4,h5⟩:=Je h3;exact⟨h4,val,λw' _=>X.extract e1 h2,h5⟩
  ·cases h
 ·
  rename_i a t x;split at h
  ·rename_i k u k' d hx ht ha;have ex:=Yh hm hx;split at h
   ·rename_i kd hk;have hk':=xU hk;subst hk';cases h;exact⟨rfl,_,λw' _=>X.conv (T':=kd.T) ha ht ex,rfl⟩
   ·cases h
  ·cases h
 ·
  rename_i f fs cs;split at h
  ·rename_i hfs;have hf:=CM hfs;subst hf;cases ha:J6 (cs.toList.map (Eh s.sl))with
   |true=>
    rw[ha]at h;cases h;refine⟨rfl,_,λw' _=>?_,⟨_,rfl,mP hm _ ha⟩⟩;have:=X.makeFunc (P:=P) (σ:=σ) (w:=w') (f:=f) (cap:=cs.toList) (vs:=cs.toList.map (ev σ)) rfl;simpa using this
   |false=>rw[ha]at h;cases h
  ·rename_i f1 fr hfs;split at h
   ·rename_i hcs;have hf:=CM hcs;subst hf;obtain⟨ha,h⟩:=Aq h;cases h;have h1:=mP hm _ ha;have hfs':fs=(f1::fr).toArray:=by rw[<-hfs]
    rw[hfs'];exact⟨rfl,_,λw' _ _ _ _ _ _=>by simp[execOp,Instr.makeFunc],⟨_,rfl,h1⟩⟩
   ·cases h
 ·
  rename_i x;split at h
  ·rename_i i p hx;cases h;have hr:=Dl hm hx rfl;obtain⟨md,b,h1,h2,h3⟩:=Wz hr;exact⟨rfl,_,λw' _=>X.nilCheck h3,HF h1 h2⟩
  ·rename_i u hx;cases h;have hr:=Dl hm hx rfl;obtain⟨c0,⟨b,off,arr,T,fr,h1,h2⟩,h3⟩:=vU hr;exact⟨rfl,_,λw' _=>X.nilCheck h1,by rw[<-h1];exact hr⟩
  ·cases h
 ·
  rename_i t x f;split at h
  ·rename_i i p off z hx hf;cases hz:Nat.beq z 0 with
   |true=>rw[hz]at h;cases h
   |false=>
    rw[hz]at h;cases h;obtain⟨md,b,h1,h2,h3⟩:=Wz (Dl hm hx rfl);refine⟨rfl,_,λw' _=>X.fieldAddr (off':=Au (p++[.fld f off])) (E8 hf hz) h3 ?_,HF h1 h2⟩;rw[MF];rfl
  ·rename_i l off z hx hf;split at h
   ·rename_i u hl;cases hz:(!Nat.beq z 0&&Nat.beq (W6 l f) off)with
    |true=>
     rw[hz]at h;cases h;simp only[A9,O1]at hz;obtain⟨b,o,h1,h2⟩:=Adm (Dl hm hx rfl) hl (S2 hz.2);exact⟨rfl,_,λw' _=>X.fieldAddr (E8 hf hz.1) h1 rfl,h2⟩
    |false=>rw[hz]at h;cases h
   ·cases h
  ·cases h
 ·
  rename_i as ts;split at h
  ·rename_i x y ha;have:=CM ha;subst this;split at h
   ·rename_i k a k' c hx hy;split at h
    ·rename_i hk;subst hk;cases h;exact⟨rfl,_,λw' _=>X.min (Yh hm hx) (Yh hm hy),rfl⟩
    ·cases h
   ·cases h
  ·cases h
 ·rename_i as ts;split at h
  ·rename_i x y ha;have:=CM ha;subst this;split at h
   ·rename_i k a k' c hx hy;split at h
    ·rename_i hk;subst hk;cases h;exact⟨rfl,_,λw' _=>X.max (Yh hm hx) (Yh hm hy),rfl⟩
    ·cases h
   ·cases h
  ·cases h
 ·cases h
end Go.Rx
namespace Go.Rx
open Go Go.Lv
variable{e:ET}{i z:Nat}{x:Operand}{u:PV}{E t:TypeId}{v:Value}
variable {P:Program} {B:Reg} {w:World} {L:List MD} {s:S} {σs:List Env} {σ:Env} {Z:Fix} {A:Reg}
theorem oV:∀{it:List Item} {i:Nat} {a:Item},Cs it i=a->a≠ .dead->it[i]? =some a
 |[],_,a,h,hd=>absurd h.symm (by simpa [Cs]using hd)
 |b::r,0,a,h,_=>by simpa [Cs]using h
 |b::r,i+1,a,h,hd=>by simpa using oV (it:=r) (by simpa [Cs]using h) hd
theorem MemR.item(hm:MemR B w L s σs σ){a:Item}(h:Cs s.it i=a)(hd:a≠ .dead):∃md,L[i]? =some md/\Xo B w L a md:=by
 have h1:=oV h hd;have hl:i<L.length:=by rw[<-hm.it.1];exact(List.getElem?_eq_some_iff.1 h1).1
 exact⟨L[i],by simp[hl],hm.it.2 i a _ h1 (by simp[hl])⟩
theorem MemR.box(hm:MemR B w L s σs σ){i:Nat}{T:TypeId}{v:PV}(h:Cs s.it i= .box T v):∃b cells,L[i]? =some (.box b cells T)/\Ba B w L v cells:=by
 obtain⟨md,h1,h2⟩:=hm.item h (by intro e;cases e);cases md with
 |dead=>exact h2.elim
 |box b cells T'=>obtain⟨rfl,h3⟩:=h2;exact⟨b,cells,h1,h3⟩
 |own _ _ _ _=>exact h2.elim
theorem MemR.arr(hm:MemR B w L s σs σ){l:List e.T}(h:Cs s.it i= .arr E e l):∃v cs,L[i]? =some (.own e.size E v cs)/\Cj (Ax B w e) l cs:=by
 obtain⟨md,h1,h2⟩:=hm.item h (by intro e;cases e);cases md with
 |dead=>exact h2.elim
 |box b cells T'=>exact h2.elim
 |own z E' v cs=>obtain⟨rfl,rfl,h3⟩:=h2;exact⟨v,cs,h1,h3⟩
theorem Rel.Ex(hr:Rel Z s σs A L σ w){md:MD}(h:L[i]? =some md):(L.map MD.Ex)[i]? =some md.Ex:=by simp[h]
structure Ext (Z:Fix) (s:S) (σs:List Env) (A:Reg) (L:List MD) (σ:Env) (w w':World):Prop where
 ex:∃(A':Reg) (L':List MD) (it':List Item),(∀b,A b->A' b)/\Rel Z ⟨s.sl,s.it++it',s.st⟩ σs A' (L++L') σ w'
 same:Same A w w'
theorem Ext.refl(hr:Rel Z s σs A L σ w):Ext Z s σs A L σ w w:=⟨⟨A,[],[],λ_ h=>h,by simpa using hr⟩,λ_ _=>rfl⟩
theorem rJ{c1 c2 c3:List Value}{o:Nat}(h:c1.length=o):((c1++(c2++c3)).drop o).take c2.length=c2:=by
 subst h;simp
theorem cY:∀{p:List Step} {v u:PV} {cs:List Value},zV v p=some u->Ba B w L v cs->∃c1 c2 c3,cs=c1++(c2++c3)/\c1.length=Au p/\Ba B w L u c2
 |[],v,u,cs,h,hv=>by simp only[zV,HN]at h;subst h;exact⟨[],cs,[],F8,rfl,hv⟩
 | .fld n off::r,v,u,cs,h,hv=>by
  cases v<;>simp only[zV,reduceCtorEq]at h;rename_i l;split at h
  ·rename_i f hf;cases hb:Nat.beq (W6 l n) off with
   |false=>rw[hb]at h;cases h
   |true=>
    rw[hb]at h;obtain⟨c1,c2,c3,e,h1,h2,_⟩:=Ba.field (show Ba.go B w L l cs from hv) hf;obtain⟨d1,d2,d3,e',h3,h4⟩:=cY h h2;refine⟨c1++d1,d2,d3++c3,by rw[e,e'];simp,?_,h4⟩;rw[A?,h1,h3,S2 hb];rfl
  ·cases h
 | .idx j z::r,v,u,cs,h,hv=>by cases v<;>simp[zV]at h
theorem Anv{T:TypeId}{b:Nat}{c1 c2 c3:List Value}{F:List Fact}{LL:List Mob}{w':World}(h:OkLoad P t u)(hu:Ba B w L u c2):
  ∃val,Ga B w L u val/\∀(A':Reg) (F:List Fact) (LL:List Mob) (w':World) (i:Nat),St A' w' F LL->LL[i]? =some (.box b (c1++(c2++c3)) T)->ev σ x= .pointer (some ⟨b,c1.length,none⟩)->XO P σ w' (.load t x) val:=by
 obtain⟨d,hd,ha⟩:=h.agg;have hlen:=hu.len;cases hA:u.isA with
 |true=>
  refine⟨.agg c2.toArray,by unfold Ga;rw[hA];exact⟨c2,rfl,hu⟩,λA' F LL w' i hs hL hx=>?_⟩;exact X.Ahz hs hL ⟨d,hd,ha.trans hA⟩ h.size hx (by rw[<-hlen];exact rJ rfl) hlen
 |false=>
  have h1:=h.one hA;rw[h1]at hlen
  match c2,hlen with
  |[v],_=>
   refine⟨v,by unfold Ga;rw[hA];exact hu,λA' F LL w' i hs hL hx=>?_⟩;exact X.Aob hs hL ⟨d,hd,ha.trans hA⟩ hx F8
theorem Aqj{c2:List Value}(h:OkLoad P t u)(hu:Ba B w L u c2)(hp:R' B w v c2)(hx:ev σ x=v):
  ∃val,Ga B w L u val/\∀w',Same B w w'->XO P σ w' (.load t x) val:=by
 obtain⟨d,hd,ha⟩:=h.agg;have hlen:=hu.len;obtain⟨b,off,arr,T,fr,rfl,hB,hb,hc⟩:=hp;have hcell:∀w',Same B w w'->∀k,k<c2.length->w'.cell? ⟨b,off+k,none⟩=c2[k]? :=λw' hs k hk=>by
  rw[cell_of ((hs b hB).trans hb)];exact hc k hk
 cases hA:u.isA with
 |true=>
  refine⟨.agg c2.toArray,by unfold Ga;rw[hA];exact⟨c2,rfl,hu⟩,λw' hs _ _ _ _ _=>?_⟩;have h1:=Lm (P:=P) (w:=w') (b:=b) (off:=off) c2 (hcell w' hs);rw[hlen]at h1;simp only[execOp,hx,Instr.loadAt,Instr.sureAddr,C1,I7,B8,loadVar,Fj hd (ha.trans hA),U9,Ca h.size,h1]
 |false=>
  have h1:=h.one hA;rw[h1]at hlen
  match c2,hlen with
  |[v],_=>
   refine⟨v,by unfold Ga;rw[hA];exact hu,λw' hs _ _ _ _ _=>?_⟩;have h2:w'.cell? ⟨b,off,none⟩=some v:=by simpa using hcell w' hs 0 F8
   simp only[execOp,hx,Instr.loadAt,Instr.sureAddr,C1,I7,B8,loadVar,Fj hd (ha.trans hA),SN,R8,GA h2]
theorem Cj.We{k:Kd}:∀{l:List k.T} {cs:List Value},Cj (Ax B w (.int k)) l cs->cs=Go.Lv.We (k:=k.k) l
 |[],_,h=>h
 |x::l,_,⟨c1,c2,e,h1,h2⟩=>by rw[e,show c1=_ from h1,Cj.We h2];rfl
theorem Cj.nil{α:Type}{f:α->List Value->Prop}:Cj f [] []:=rfl
theorem Cj.take{α:Type}{f:α->List Value->Prop}{z:Nat}(hz:∀x c,f x c->c.length=z):∀{l:List α} {cs:List Value} (k:Nat),Cj f l cs->Cj f (l.take k) (cs.take (k*z))
 |[],cs,k,h=>by rw[show cs=[]from h];simp[Cj]
 |a::l,cs,0,_=>by simp[Cj]
 |a::l,cs,k+1,⟨c1,c2,e,h1,h2⟩=>by
  subst e;refine⟨c1,c2.take (k*z),?_,h1,Cj.take hz k h2⟩;have:(k+1)*z=c1.length+k*z:=by rw[hz _ _ h1,VG];omega
  rw[this,zR]
theorem Cj.drop{α:Type}{f:α->List Value->Prop}{z:Nat}(hz:∀x c,f x c->c.length=z):∀{l:List α} {cs:List Value} (k:Nat),Cj f l cs->Cj f (l.drop k) (cs.drop (k*z))
 |[],cs,k,h=>by rw[show cs=[]from h];simp[Cj]
 |a::l,cs,0,h=>by simpa using h
 |a::l,cs,k+1,⟨c1,c2,e,h1,h2⟩=>by
  subst e;have:(k+1)*z=c1.length+k*z:=by rw[hz _ _ h1,VG];omega
  have h3:(c1++c2).drop (c1.length+k*z)=c2.drop (k*z):=by simp[o!]
  rw[this,h3];exact Cj.drop hz k h2
theorem Rd.part{u:Value}{cs:List Value}{p:List Step}{lo n:Int}(hv:b! true (.own z E u cs) p z lo n v)(h:Rd B w z u cs):Rd B w z v ((cs.drop (lo.toNat*z)).take (n.toNat*z)):=by
 obtain⟨h1,h2,⟨pt,cap,rfl,h4,h5,h6⟩,h7,_⟩:=hv;obtain⟨s',E',q,len,cap0,c0,e0,rfl,g2,g3,_⟩:=h7 rfl;cases e0;obtain⟨q',len',cap',e1,k1,k2,k3,k4⟩:=h;cases e1;have k5:=g3 _ _ _ rfl;have e5:lo.toNat*z+n.toNat*z<=len*z:=by rw[<-B5];exact C2 z g2
 refine⟨pt,n.toNat,cap,rfl,?_,h4,h5,λhc=>?_⟩
 ·rw[HH,SH,k1];omega
 ·obtain⟨b,e2,e3⟩:=h6 hc;obtain⟨b',off,arr,T,fr,e4,m1,m2,m3,m4⟩:=k4 F0;subst e4;have e6:b'=b/\off=0:=by
   unfold MD.base at e2;split at e2
   ·rename_i heq;cases heq
   ·rename_i heq;cases heq;cases e2;exact⟨rfl,rfl⟩
   ·cases e2
  obtain⟨rfl,rfl⟩:=e6;refine⟨b',lo.toNat*z,arr,T,fr,by rw[e3];simp[Au],m1,m2,?_,λi hi=>?_⟩
  ·have:lo.toNat*z+cap*z<=cap0*z:=by rw[<-B5];exact C2 z k5
   omega
  ·have:=m4 (lo.toNat*z+i) F0;rw[K1]at this;rw[this,SI,A7 hi,VA]
theorem VV{p:PV}{l:List e.T}(hm:MemR B w L s σs σ)(h:elems s e p=some l)(hv:Ef B w L p v):
  ∃c0,Cj (Ax B w e) l c0/\ ((Rd B w e.size v c0)\/ (∃i E u cs,i∈owns p/\L[i]? =some (.own e.size E u cs)/\∀(B:Reg) (w:World),Rd B w e.size u cs->Rd B w e.size v c0)):=by
 unfold elems at h;split at h
 ·rename_i e' x;split at h
  ·rename_i a l';split at h
   ·rename_i ha;subst ha;cases h;obtain⟨c0,h1,h2⟩:=Zt hv;exact⟨c0,h2, .inl h1⟩
   ·cases h
  ·cases h
 ·cases h;rw[FQ hv];exact⟨[],rfl, .inl Rd.nil⟩
 ·rename_i a l' c;split at h
  ·rename_i ha;subst ha;cases h;obtain⟨v',c0,h1,h2,h3,_⟩:=hv;cases h1;exact⟨c0,h3, .inl h2⟩
  ·cases h
 ·rename_i i;split at h
  ·rename_i E a l' hi;split at h
   ·rename_i ha;subst ha;cases h;obtain⟨v',cs,h1,h2⟩:=hm.arr hi;obtain⟨z,E',c',h3⟩:=HC hv;rw[h1]at h3;cases h3;exact⟨cs,h2, .inr ⟨i,E,_,cs, .head _,h1,λ_ _ h=>h⟩⟩
   ·cases h
  ·cases h
 ·rename_i i p e1 lo n;split at h
  ·rename_i E a l' hi;split at h
   ·rename_i ha;subst ha;cases he:decide (e1=a)with
    |false=>rw[he]at h;cases h
    |true=>
     rw[he]at h;cases h;have:=UT he;subst this;obtain⟨v',cs,h1,h2⟩:=hm.arr hi;obtain⟨md,v1,h3,h4,h5⟩:=hv;rw[h1]at h3;cases h3;have h6:v=v1:=by simpa using h4
     subst h6;exact⟨_,Cj.take (λx c h=>Ax.len h) _ (Cj.drop (λx c h=>Ax.len h) _ h2), .inr ⟨i,E,v',cs, .head _,h1,λ_ _ h=>Rd.part h5 h⟩⟩
   ·cases h
  ·cases h
 ·cases h
theorem Rd.slice{cs:List Value}(h:Rd B w z v cs)(hz:0<z):∃p len cap,v= .slice p len cap/\cs.length=len*z:=by
 obtain⟨p,len,cap,h1,h2,_⟩:=h;exact⟨p,len,cap,h1,h2⟩
theorem vg{e':TypeId}{p:Option Addr}{len cap:Nat}{l:List e.T}{cs:List Value}(ht:P.underlying t=some (.slice e'))(hz:Nat.beq e.size 0=false)(hc:Cj (Ax B w e) l cs)
  (hl:cs.length=len*e.size) (hx:ev σ x= .slice p len cap):∀w',XO P σ w' (.call ⟨.builtin .len, #[x], #[t]⟩) (iv (Ad l)):=by
 have h1:=hc.len λx c h=>Ax.len h;have hp:0<e.size:=by
  rcases a! e.size with h|h
  ·rw[h]at hz;cases hz
  ·exact h
 have:len=l.length:=SY hp (hl.symm.trans h1);subst this;intro w';exact X.wI ht hx
theorem Rel.Pf(hr:Rel Z s σs A L σ w){i z:Nat}{E:TypeId}{v:Value}{cs:List Value}(h:L[i]? =some (.own z E v cs)):Rd (λ_=>True) w z v cs:=
 St.Pf (E:=E) hr (j:=i) (hr.Ex h)
theorem iV(hr:Rel Z s σs A L σ w){o:Op}{v:PV}(h:op1 P s o=some v):Yields P (λb=>A b/\Z.R b) w L σ (Ext Z s σs A L σ w) o v:=by
 have hm:=hr.mem;have hS:∀w',Ext Z s σs A L σ w w'->Same (λb=>A b/\Z.R b) w w':=λw' he b hb=>he.same b hb.1;unfold op1 at h;split at h
 ·
  rename_i t x;split at h
  ·rename_i i p hx;obtain⟨md,b,h1,h2,h3⟩:=Wz (Dl hm.sl hx rfl);split at h
   ·rename_i T v0 hi;split at h
    ·rename_i u hu;cases hk:Ml P t u with
     |false=>rw[hk]at h;cases h
     |true=>
      rw[hk]at h;cases h;obtain⟨b',cells,h4,h5⟩:=hm.box hi;rw[h4]at h1;cases h1;cases h2;obtain⟨c1,c2,c3,e,h6,h7⟩:=cY hu h5;obtain⟨val,h8,h9⟩:=Anv (σ:=σ) (x:=x) (b:=b) (T:=T) (c1:=c1) (c3:=c3) (F:=[]) (LL:=[]) (w':=w) (Pb hk) h7;obtain⟨hv,hv'⟩:=Je h8;refine⟨hv,val,λw' he=>?_,hv'⟩;obtain⟨A',L',it',ha,hr'⟩:=he.ex;have h10:(L++L')[i]? =some (.box b cells T):=by rw[I9 (List.getElem?_eq_some_iff.1 h4).1];exact h4
      exact h9 A' _ _ w' i hr' (by rw[hr'.Ex h10,<-e];rfl) (by rw[h3,h6])
    ·cases h
   ·cases h
  ·rename_i u hx;cases hk:Ml P t u with
   |false=>rw[hk]at h;cases h
   |true=>
    rw[hk]at h;cases h;obtain⟨c0,h1,h2⟩:=vU (Dl hm.sl hx rfl);obtain⟨val,h3,h4⟩:=Aqj (P:=P) (Pb hk) h2 h1 rfl;obtain⟨hv,hv'⟩:=Je h3;exact⟨hv,val,λw' he=>h4 w' (hS w' he),hv'⟩
  ·cases h
 ·
  rename_i a t x;split at h
  ·rename_i ht;split at h
   ·rename_i e ha;split at h
    ·rename_i he;cases hel:elems s (.int .u8) (Eh s.sl x)with
     |none=>rw[hel]at h;cases h
     |some l=>
      rw[hel]at h;cases h;have hx:=bM hm.sl x;have hV:(Eh s.sl x).isV=true:=by
       cases hq:(Eh s.sl x).isV with
       |true=>rfl
       |false=>rcases Ve hq with h|h|⟨_,_,_,h⟩<;>rw[h]at hel<;>cases hel
      obtain⟨c0,h1,h2⟩:=VV hm hel ((OpR.iff hV).1 hx);have h3:=Cj.We (k:= .u8) h1;subst h3;refine⟨rfl,sv l,λw' hext=>?_,rfl⟩;rcases h2 with h2|⟨i,E,u,cs,_,h2,hpart⟩
      ·exact X.b2s (l:=l) ha he ht (h2.step (λ_ h=>h) (hS w' hext)) rfl
      ·obtain⟨A',L',it',ha',hr'⟩:=hext.ex;have h4:(L++L')[i]? =some (.own 1 E u cs):=by rw[I9 (List.getElem?_eq_some_iff.1 h2).1];exact h2
       exact X.b2s (l:=l) ha he ht (hpart _ _ (hr'.Pf h4)) rfl
    ·cases h
   ·cases h
  ·cases h
 ·
  rename_i as ts;split at h
  ·rename_i x t has hts;have h1:=CM has;have h2:=CM hts;subst h1 h2;split at h
   ·rename_i ht;split at h
    ·rename_i l hx;cases h;exact⟨rfl,_,λw' _=>X.Apn ht (Qs hm.sl hx),rfl⟩
    ·cases h
   ·rename_i e' ht;split at h
    ·rename_i e l hx;cases hz:Nat.beq e.size 0 with
     |true=>rw[hz]at h;cases h
     |false=>
      rw[hz]at h;cases h;obtain⟨c0,h3,h4⟩:=Zt (Dl hm.sl hx rfl);obtain⟨p,len,cap,h5,h6,_⟩:=h3;exact⟨rfl,_,λw' _=>vg ht hz h4 h6 h5 w',rfl⟩
    ·rename_i hx;cases h;have h3:=FQ (Dl hm.sl hx rfl);exact⟨rfl,_,λw' _=>X.wI ht h3,rfl⟩
    ·rename_i o i p e n lo hx;cases h;obtain⟨md,v1,h3,h4,h5⟩:=Dl hm.sl hx rfl;obtain⟨k1,k2,⟨pt,cap,k3,_⟩,_⟩:=h5;have h6:ev σ x=v1:=by simpa using h4
     refine⟨rfl,_,λw' _=>X.wI ht (h6.trans k3),?_⟩
     show [_]=[_];simp[iv,GI.toZ,Int.toNat_of_nonneg k2]
    ·rename_i i hx;split at h
     ·rename_i E e l hi;cases hz:Nat.beq e.size 0 with
      |true=>rw[hz]at h;cases h
      |false=>
       rw[hz]at h;cases h;obtain⟨v',cs,h3,h4⟩:=hm.arr hi;obtain⟨z,E',c',h5⟩:=HC (Dl hm.sl hx rfl);rw[h3]at h5;cases h5;obtain⟨p,len,cap,h6,h7,_⟩:=hr.Pf h3;exact⟨rfl,_,λw' _=>vg ht hz h4 h7 h6 w',rfl⟩
     ·cases h
    ·cases h
   ·rename_i n _ ht;cases h;exact⟨rfl,_,λw' _=>X.Arm ht rfl,rfl⟩
   ·cases h
  ·cases h
 ·cases h
end Go.Rx
namespace Go.Rx
open Go Go.Lv
variable{a:Item}{p:PV}{sl:Slots}{v:Value}
variable {P:Program} {B:Reg} {w w':World} {L L':List MD} {s:S} {σs:List Env} {σ:Env} {Z:Fix} {A A':Reg} {n:Nat}
theorem WZ:∀{sl:Slots} {d t:Nat} {p:PV},(t,p)∈xS d sl-> (t,p)∈sl/\t≠d/\∀j w q,p= .gd j w q->j≠d
 |[],_,_,_,h=>by simp[xS]at h
 |(q,v)::r,d,t,p,h=>by
  have key:∀{j:Nat},Nat.beq j d=false->j≠d:=λh e=>by subst e;simp at h
  simp only[xS]at h;cases hq:Nat.beq q d with
  |true=>rw[hq]at h;obtain⟨h1,h2⟩:=WZ h;exact⟨.tail _ h1,h2⟩
  |false=>
   rw[hq]at h;dsimp only[Cp,cond]at h;split at h
   ·rename_i j w u;cases hj:Nat.beq j d with
    |true=>rw[hj]at h;obtain⟨h1,h2⟩:=WZ h;exact⟨.tail _ h1,h2⟩
    |false=>
     rw[hj]at h;rcases List.mem_cons.1 h with h|h
     ·cases h;exact⟨.head _,key hq,λj' w' q' e=>by cases e;exact key hj⟩
     ·obtain⟨h1,h2⟩:=WZ h;exact⟨.tail _ h1,h2⟩
   ·rename_i hg;rcases List.mem_cons.1 h with h|h
    ·cases h;exact⟨.head _,key hq,λj' w' q' e=>(hg _ _ _ e).elim⟩
    ·obtain⟨h1,h2⟩:=WZ h;exact⟨.tail _ h1,h2⟩
theorem Gx.other{d t:Nat}(h:Gx B w L σ t p)(ht:t≠d)(hg:∀j w q,p= .gd j w q->j≠d):Gx B w L (Mr σ d v) t p:=by
 cases hv:p.isV with
 |true=>
  refine(Gx.iff hv).2 ?_;rw[aT _ _ ht];exact(Gx.iff hv).1 h
 |false=>
  rcases Ve hv with rfl|rfl|⟨j,w,q,rfl⟩
  ·exact trivial
  ·show Go.Lv.Mr σ d v t=_;rw[aT _ _ ht];exact h
  ·obtain⟨b,h1,h2,h3⟩:=h;have hj:=hg _ _ _ rfl;exact⟨b,by rw[aT _ _ hj];exact h1,by rw[aT _ _ ht];exact h2,by rw[aT _ _ ht];exact h3⟩
theorem Fp.set{d:Nat}(h:Fp B w L σ sl)(hp:Gx B w L (Mr σ d v) d p):Fp B w L (Mr σ d v) (j? sl d p):=by
 rintro⟨t,q⟩ hq;rcases List.mem_cons.1 hq with hq|hq
 ·cases hq;exact hp
 ·obtain⟨h1,h2,h3⟩:=WZ hq;exact(h _ h1).other h2 h3
theorem Rel.oz{s':S}{σ':Env}(hr:Rel Z s σs A L σ w)(hi:s'.it=s.it)(ht:s'.st=s.st)(h:Fp (λb=>A b/\Z.R b) w L σ' s'.sl):Rel Z s' σs A L σ' w:=
 Rel.as hr (i:=1) rfl ⟨by rw[hi];exact hr.mem.it,h,by rw[ht];exact hr.mem.stk⟩ rfl
theorem Gx.put{d:Nat}(hv:p.isV=true)(h:Ef B w L p v):Gx B w L (Mr σ d v) d p:=by
 refine(Gx.iff hv).2 ?_;rw[Ww];exact h
theorem Rel.set{d:Nat}{p:PV}{v:Value}(hr:Rel Z s σs A L σ w)(h:Gx (λb=>A b/\Z.R b) w L (Mr σ d v) d p):Rel Z (s.set d p) σs A L (Mr σ d v) w:=
 hr.oz rfl rfl (hr.mem.sl.set h)
def YJ(σ:Env)(d:Option Nat)(v:Value):Env:=match d with|some d=>Mr σ d v|none=>σ
theorem Rel.Gc{d:Option Nat}(hr:Rel Z s σs A L σ w)(hv:p.isV=true)(h:Ef (λb=>A b/\Z.R b) w L p v):Rel Z (s.Gc d p) σs A L (YJ σ d v) w:=by
 cases d with
 |none=>exact hr
 |some d=>exact hr.set (.put hv h)
theorem Rel.Ap3{d:Option Nat}(hr:Rel Z s σs A L σ w):Rel Z (s.Gc d .off) σs A L (YJ σ d Go.undef) w:=by
 cases d with
 |none=>exact hr
 |some d=>exact hr.set (show Mr σ d Go.undef d=Go.undef from Ww _ _ _)
theorem pJ:∀{sl:Slots} {t q:Nat} {b:Bool} {p:PV},(q,p)∈YF t b sl-> (q=t/\p= .cst (.bool b))\/ (∃p0,(q,p0)∈sl/\ (p=p0\/∃want u,p0= .gd t want u/\p=(Cp (lM want b) (u)<| .off)))
 |[],_,_,_,_,h=>by simp[YF]at h
 |(q',v)::r,t,q,b,p,h=>by
  simp only[YF]at h;rcases List.mem_cons.1 h with g|g
  ·clear h;cases hq:Nat.beq q' t with
   |true=>
    rw[hq]at g;simp only[cond_true,Ui,SO]at g;exact .inl ⟨g.1.trans (S2 hq),g.2⟩
   |false=>
    rw[hq]at g;dsimp only[Cp,cond]at g;split at g
    ·rename_i j want u;cases hj:Nat.beq j t with
     |true=>
      rw[hj]at g;simp only[cond_true,Ui,SO]at g;have:=S2 hj;subst this;exact .inr ⟨_,by rw[g.1];exact .head _, .inr ⟨want,u,rfl,g.2⟩⟩
     |false=>
      rw[hj]at g;cases g;exact .inr ⟨_, .head _, .inl rfl⟩
    ·cases g;exact .inr ⟨_, .head _, .inl rfl⟩
  ·rcases pJ g with h|⟨p0,h1,h2⟩
   ·exact .inl h
   ·exact .inr ⟨p0, .tail _ h1,h2⟩
theorem Fp.res{t:Nat}{b:Bool}(h:Fp B w L σ sl)(ht:σ t= .bool b):Fp B w L σ (YF t b sl):=by
 rintro⟨q,p⟩ hp;rcases pJ hp with⟨h1,h2⟩|⟨p0,h1,h2⟩
 ·subst h1;subst h2;exact⟨show [σ q]=[_] by rw[ht],rfl⟩
 ·have h3:=h _ h1;rcases h2 with rfl|⟨want,u,rfl,rfl⟩
  ·exact h3
  ·obtain⟨c,h4,h5,h6⟩:=h3;rw[ht]at h4;cases h4;cases hw:lM want b with
   |true=>
    have hb:=xg hw;subst hb;have h7:=h5 rfl;cases hv:u.isV with
    |true=>exact(Gx.iff hv).2 h7
    |false=>
     rcases Ve hv with rfl|rfl|⟨j,w',q',rfl⟩
     ·exact trivial
     ·exact(show False from h7).elim
     ·exact(show False from h7).elim
   |false=>
    show σ q=_;refine h6 λe=>?_;subst e;cases b<;>cases hw
theorem Rel.res{t:Nat}{b:Bool}(hr:Rel Z s σs A L σ w)(ht:σ t= .bool b):Rel Z (s.res t b) σs A L σ w:=hr.oz rfl rfl (hr.mem.sl.res ht)
structure Grow (A:Reg) (L:List MD) (it:List Item) (w:World) (A':Reg) (L':List MD) (it':List Item) (w':World):Prop where
 reg:∀b,A b->A' b
 same:Same A w w'
 md:∃M,L'=L++M
 it:∃m,it'=it++m
theorem Grow.refl{it:List Item}:Grow A L it w A L it w:=⟨λ_ h=>h,λ_ _=>rfl,⟨[],F8⟩,⟨[],F8⟩⟩
theorem Grow.trans{A'':Reg}{L'':List MD}{it it' it'':List Item}{w'':World}(h:Grow A L it w A' L' it' w')(h':Grow A' L' it' w' A'' L'' it'' w''):Grow A L it w A'' L'' it'' w'':=by
 obtain⟨M,e1⟩:=h.md;obtain⟨m,e2⟩:=h.it;obtain⟨M',e3⟩:=h'.md;obtain⟨m',e4⟩:=h'.it;exact⟨λb hb=>h'.reg b (h.reg b hb),λb hb=>(h'.same b (h.reg b hb)).trans (h.same b hb),⟨M++M',by rw[e3,e1,C0]⟩,⟨m++m',by rw[e4,e2,C0]⟩⟩
theorem Grow.ext{s':S}{σ':Env}(hg:Grow A L s.it w A' L' s'.it w')(hr:Rel Z s σs A L σ w)(hr':Rel Z s' σs A' L' σ' w'):Ext Z s σs A L σ w w':=by
 obtain⟨M,e1⟩:=hg.md;obtain⟨m,e2⟩:=hg.it;refine⟨⟨A',M,m,hg.reg,?_⟩,hg.same⟩;rw[<-e1];have hl:RI L L':=by rw[e1];exact RI.append _ _
 exact Rel.as hr' (i:=1) rfl ⟨by rw[<-e2];exact hr'.mem.it,hr.mem.sl.step (λb hb=>⟨hg.reg b hb.1,hb.2⟩) (λb hb=>hg.same b hb.1) hl,
  hr.mem.stk.step (λb hb=>⟨hg.reg b hb.1,hb.2⟩) (λb hb=>hg.same b hb.1) hl⟩ rfl
theorem Cu.mM{F:List Fact}{LL LL':List Mob}(h:St A w F LL)(hp:LL.Perm LL'):St A w F LL':=⟨h.lt,h.facts,h.mobs.perm hp⟩
theorem Rel.push{md:MD}(h:St A' w' [Oy Z.R L s σs σ, .old Z.M Z.w0] (md.Ex::L.map MD.Ex))(ha:Xo (λb=>A' b/\Z.R b) w' (L++[md]) a md):
  Rel Z (s.add a) σs A' (L++[md]) σ w':=by
 have hm:MemR (λb=>A' b/\Z.R b) w' L s σs σ:=h.fact 0 rfl;have hl:=RI.append L [md];refine Rel.as (h:=Cu.mM h ?_) (i:=1) rfl ⟨⟨?_,?_⟩,hm.sl.step (λ_ h=>h) (λ_ _=>rfl) hl,hm.stk.step (λ_ h=>h) (λ_ _=>rfl) hl⟩ rfl
 ·rw[Tx];exact(eX (l₁:=[md.Ex]) (l₂:=L.map MD.Ex))
 ·simp[S.add,hm.it.1]
 ·intro i a' m h1 h2;simp only[S.add]at h1;rcases VE i s.it.length with hi|hi
  ·rw[I9 hi]at h1;rw[I9 (by rw[<-hm.it.1];exact hi)]at h2;exact(hm.it.2 i a' m h1 h2).step (λ_ h=>h) (λ_ _=>rfl) hl
  ·rw[SF hi]at h1;rw[SF (by rw[<-hm.it.1];exact hi)]at h2;rw[hm.it.1]at h1;cases hq:i-L.length with
   |zero=>rw[hq]at h1 h2;simp at h1 h2;subst h1 h2;exact ha
   |succ q=>rw[hq]at h1;simp at h1
theorem LA:∀{it:List Item} {i j:Nat} {a b:Item},(CQ it i a)[j]? =some b-> (j=i/\b=a)\/ (j≠i/\it[j]? =some b)
 |[],_,_,_,_,h=>by simp[CQ]at h
 |c::r,0,0,a,b,h=>by simp[CQ]at h;exact .inl ⟨rfl,h.symm⟩
 |c::r,0,j+1,a,b,h=>by simp[CQ]at h;exact .inr ⟨F0,by simpa using h⟩
 |c::r,i+1,0,a,b,h=>by simp[CQ]at h;exact .inr ⟨F0,by simpa using h⟩
 |c::r,i+1,j+1,a,b,h=>by
  simp[CQ]at h;rcases LA h with⟨h1,h2⟩|⟨h1,h2⟩
  ·exact .inl ⟨F0,h2⟩
  ·exact .inr ⟨F0,by simpa using h2⟩
theorem LG:∀{it:List Item} {i:Nat} {a:Item},(CQ it i a).length=it.length
 |[],_,_=>rfl
 |_::_,0,_=>rfl
 |_::r,i+1,a=>by simp[CQ,LG]
theorem Rel.change{i:Nat}{md md':MD}(h:St A' w' [Oy Z.R L s σs σ, .old Z.M Z.w0] ((L.map MD.Ex).set i md'.Ex))(hi:L[i]? =some md)
  (hle:RI L (L.set i md')) (ha:Xo (λb=>A' b/\Z.R b) w' (L.set i md') a md'):Rel Z (s.Mr i a) σs A' (L.set i md') σ w':=by
 have hm:MemR (λb=>A' b/\Z.R b) w' L s σs σ:=h.fact 0 rfl;refine Rel.as h (i:=1) rfl ⟨⟨?_,?_⟩,hm.sl.step (λ_ h=>h) (λ_ _=>rfl) hle,hm.stk.step (λ_ h=>h) (λ_ _=>rfl) hle⟩ (by rw[VR])
 ·simp[S.Mr,LG,hm.it.1]
 ·intro j b m h1 h2;simp only[S.Mr]at h1;rcases LA h1 with⟨rfl,rfl⟩|⟨h3,h4⟩
  ·rw[U2 (List.getElem?_eq_some_iff.1 hi).1]at h2;cases h2;exact ha
  ·rw[SZ (S? h3)]at h2;exact(hm.it.2 j b m h4 h2).step (λ_ h=>h) (λ_ _=>rfl) hle
theorem RI.set{i:Nat}{md md':MD}(hi:L[i]? =some md)(h1:∀s E v c,md= .own s E v c->∃s' E' c',md'= .own s' E' v c')(h2:∀b,md.base=some b->md'.base=some b):RI L (L.set i md'):=by
 have hl:=(List.getElem?_eq_some_iff.1 hi).1;refine⟨λj s E v c h=>?_,λj m b h h'=>?_⟩
 ·by_cases hj:j=i
  ·subst hj;rw[hi]at h;cases h;obtain⟨s',E',c',rfl⟩:=h1 _ _ _ _ rfl;exact⟨s',E',c',by rw[U2 hl]⟩
  ·exact⟨s,E,c,by rw[SZ (S? hj)];exact h⟩
 ·by_cases hj:j=i
  ·subst hj;rw[hi]at h;cases h;exact⟨md',by rw[U2 hl],h2 b h'⟩
  ·exact⟨m,by rw[SZ (S? hj)];exact h,h'⟩
end Go.Rx
