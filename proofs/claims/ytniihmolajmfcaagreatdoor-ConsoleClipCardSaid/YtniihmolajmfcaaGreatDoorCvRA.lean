/- A part of a proof (see the text that ends in Proof). No conditions. -/
import Derived.Shelf.Bytes.WriteAny
import Derived.Shelf.Bytes.Bytes
import Derived.Shelf.Bytes.GrowRowOwn
import Derived.Test.YtniihmolajmfcaaGreatDoorCvBC
import Derived.OwnWalkIn
import Derived.TacticsInMore
import Derived.BigFrameIn
import Derived.Shelf.Bytes.SlJoin
import Derived.Lib.ItoaNum
import Derived.Lib.LaidTab
import Derived.Lib.Bytealg
import Derived.Sort.Grow
import Derived.Deep.Draws
import Derived.Shelf.Strconv.Itoa3
import Derived.Shelf.Strconv.AtoiAll
import Derived.Shelf.Strings.Count
import Derived.Shelf.Strings.Search3
import Derived.Shelf.Strings.Search1
import Derived.Shelf.Strings.Builder1
import Derived.Shelf.Strings.Builder2Cap
set_option linter.unusedVariables false
set_option linter.unusedSimpArgs false
namespace Go.Proofs.Rf
open Go.Shelf Go.RowKit Go Go.Proofs
variable {P:Program} {ρ:Ren}
end Go.Proofs.Rf
namespace Go.Proofs.Rf
open Go.RowKit Go.Shelf Go Go.Rx Go.Lv Go.Proofs
theorem I1{B:Reg}{w:World}:∀(l:List UInt8),Cj (Ax B w (.int .u8)) l (Lib.byteCells l)
 |[]=>rfl
 |x::l=>⟨[.int .u8 x.toNat],Lib.byteCells l,rfl,rfl,I1 l⟩
def Src(A:Nat->Prop)(W:World)(l:List UInt8)(v:Value):Prop:=
 ∃p len cap,v= .slice p len cap/\l.length=len/\len<=cap/\ (0<len->∃a:Addr,p=some a/\A a.block/\∀j x,(Lib.byteCells l)[j]? =some x->W.cell? (a.add j)=some x)
theorem Src.keep{A:Nat->Prop}{W W':World}{l:List UInt8}{v:Value}(h:Src A W l v)(hk:∀k,A k->W'.heap[k]? =W.heap[k]?):Src A W' l v:=by
 obtain⟨p,len,cap,h1,h2,h3,h4⟩:=h;refine⟨p,len,cap,h1,h2,h3,λhl=>?_⟩;obtain⟨a,e1,e2,e3⟩:=h4 hl;exact⟨a,e1,e2,λj x hx=>(World.cell?_of_block (by rw[Lib.block_add];exact hk _ e2)).trans (e3 j x hx)⟩
theorem enc_row{W:World}{E:TypeId}{k cap n:Nat}{l:List UInt8}{fr:Nat×Nat}{arr:Array Value}(hk:W.heap[k]? =some (.cells arr E fr))(hsz:arr.size=cap)(harr:∀i,i<l.length->arr[i]? =(Lib.byteCells l)[i]?)(hn:n<=l.length)(hcap:l.length<=cap):
  Ax (λj=>some k=some j) W (.list (.int .u8)) (l.take n) [.slice (some ⟨k,0,none⟩) n cap]:=by
 have hl:(Lib.byteCells (l.take n)).length=n:=by simp[Lib.byteCells];omega
 refine⟨_,Lib.byteCells (l.take n),rfl,⟨_,n,cap,rfl,by rw[hl];exact(cG n).symm,F0,(λh=>nomatch h),λ_=>⟨k,0,arr,E,fr,rfl,rfl,hk,by rw[hsz,K1];exact ZD (cG _),λi hi=>?_⟩⟩,I1 _⟩;have hi:i<n:=by simpa [ET.size]using hi
 rw[K1,harr i F0];simp[Lib.byteCells,List.getElem?_take_of_lt hi]
theorem sY{gl:List (Nat×List Value)}{R N:Reg}{w w':World}{e:ET}{y:e.T}{u:Value}(hk:KeepN N w w')(he:∀(B:Reg),Ax B w' e y [u])(hA:(PV.val e y).isA=false):jV gl R N w w' [.lf e none] y [u]:=by
 refine⟨hk,λ_=>False,[],λb hb=>hb.elim,trivial,?_⟩;intro s L B' hl h1 _;have hu:Es (Qo [.lf e none]) y s=([.val e y],s):=Bha e y s;refine⟨[.val e y],[],?_,?_,⟨u,[],rfl,?_,rfl⟩,rfl,λi a m h=>by simp at h⟩
 ·rw[hu];simp
 ·rw[hu];rfl
 ·show asV _ _ _;rw[hA];exact he B'
theorem Az8{w:World}{b:Nat}{o:Obj}(h:w.heap[b]? =some o):Ec w b o=w:=by
 unfold Ec;have:w.heap.setIfInBounds b o=w.heap:=by
  apply Zz;intro k;by_cases hk:b=k
  ·subst hk;rw[Zu (Go.Lv.lt_of_heap h),h]
  ·rw[VS hk]
 rw[this]
theorem Aw4{w:World}{b:Nat}{arr:Array Value}{T:TypeId}{fr:Nat×Nat}(h:w.heap[b]? =some (.cells arr T fr))(i:Nat)(v:Value):w.setCell ⟨b,i,none⟩ v=Ec w b (.cells (arr.setIfInBounds i v) T fr):=by
 unfold World.setCell Ec;congr 1;apply Zz;intro k;by_cases hk:b=k
 ·subst hk;rw[Zu (Go.Lv.lt_of_heap h)];simp[WT,h]
 ·rw[VS hk];simp[WT,hk]
variable {P:Program} {ρ:Ren}
theorem Aha{w:World}{a:Addr}{n k:Nat}(h:k≠a.block):(w.freeze a n).heap[k]? =w.heap[k]? :=by
 unfold World.freeze;split
 ·rfl
 ·simp[WT,S? h]
set_option maxHeartbeats 1000000 in
set_option maxRecDepth 100000 in
theorem P4(L:Lays.n169 P ρ)(X:Builder.Extra P ρ)(b:Nat)(w W1:World)(q p':Option Addr)(len cap:Nat)(l:List UInt8)(W2:World)(hlt:b<w.heap.size)
  (c1:w.drew.cell? ⟨b,1,none⟩=some (.slice q len cap)) (c2:W1.cell? ⟨b,1,none⟩=some (.slice q len cap)) (c3:W1.drew.cell? ⟨b,1,none⟩=some (.slice q len cap))
  (hSD:(Builtin.unsafeSliceData_ #[(ρ.t 37)] (ρ.t 127) #[.slice q len cap]).run P w.drew= .ok (.pointer p') W1)
  (hUS:(Builtin.unsafeString_ #[(ρ.t 127),(ρ.t 3)] (ρ.t 9) #[.pointer p', .int .i64 len]).run P W1= .ok (.string ⟨l.toArray⟩) W2):
  Calls P (ρ.f 169) #[.pointer (some ⟨b,0,none⟩)] w λe w'=>e= .returned (.string ⟨l.toArray⟩)/\w'=W2:=by
 have mixed:=L.mixed;have t72:=L.t72;have a72:=L.a72;have z72:=L.z72;have v72:=L.v72;have u72:=A_ L.t72;have t70:=L.t70;have a70:=L.a70;have z70:=L.z70;have v70:=L.v70;have u70:=A_ L.t70;have t37:=L.t37;have a37:=L.a37;have z37:=L.z37;have v37:=L.v37;have u37:=A_ L.t37;have t127:=L.t127;have a127:=L.a127;have z127:=L.z127;have v127:=L.v127;have u127:=A_ L.t127;have t3:=L.t3;have a3:=L.a3;have z3:=L.z3;have v3:=L.v3;have u3:=A_ L.t3;have t9:=L.t9;have a9:=L.a9;have z9:=L.z9;have v9:=L.v9;have u9:=A_ L.t9;have t5:=X.t5;have a5:=X.a5;have z5:=X.z5;have v5:=X.v5;have u5:=A_ X.t5
 go_enter L.f169,Body.n169_ntmps ρ
 go_wp2
 go_region_o
 all_goals (go_wp2;go_ret;exact⟨rfl,rfl⟩)
theorem Av3(L:Lays.n169 P ρ)(X:Builder.Extra P ρ):j_ P (ρ.f 169) (ρ.t 72) (ρ.t 5):=by
 rintro w b p v o l hb ⟨q,len,cap,rfl,hlen,hcap,hq,ho,hown⟩ hl;have hlen':len=l.length:=by simpa [Go.Lv.We]using hlen.symm
 subst hlen';have hlt:=Go.Lv.lt_of_heap hb;have cell:∀W:World,W.heap[b]? =w.heap[b]? ->W.cell? ⟨b,1,none⟩=some (.slice q l.length cap):=λW hW=>by rw[Lib.cell_of_heap (hW.trans hb)];rfl
 have gd:Gr w w.drew:=⟨C4 _,rfl,rfl,rfl⟩;have plain:∀(p':Option Addr),(Builtin.unsafeSliceData_ #[(ρ.t 37)] (ρ.t 127) #[.slice q l.length cap]).run P w.drew= .ok (.pointer p') w.drew->l=[]->
   Calls P (ρ.f 169) #[.pointer (some ⟨b,0,none⟩)] w λe w'=>e= .returned (sv l)/\Gr w w'/\∀k,k<w.heap.size->o≠some k->w'.heap[k]? =w.heap[k]? :=by
  rintro p' hSD rfl;refine(P4 L X b w w.drew q p' 0 cap [] w.drew hlt (cell _ rfl) (cell _ rfl) (cell _ rfl) hSD (Lib.run_unsafeString_none w.drew _ _ _ p')).mono ?_;rintro e w' ⟨rfl,rfl⟩;exact⟨rfl,gd,λk _ _=>rfl⟩
 cases hl0:l with
 |nil=>
  subst hl0;cases q with
  |none=>exact plain none rfl rfl
  |some a=>
   cases o with
   |none=>exact nomatch ho rfl
   |some g=>
    obtain⟨arr,fr,e,hg,_⟩:=hown g rfl;cases e;by_cases hc:cap=0
    ·subst hc;have hSD:=Lib.run_unsafeSliceData_zero (P:=P) w.drew #[(ρ.t 37)] (ρ.t 127) (ρ.t 5) L.t127 ⟨g,0,none⟩ 0 ((ρ.t 5),arr.size) (by have hg':w.drew.heap[g]? =some (.cells arr (ρ.t 5) fr):=hg;simp[World.shape?,hg']);have hk:∀k,k<w.heap.size-> (w.drew.alloc (.view ⟨g,0,none⟩ (ρ.t 5))).heap[k]? =w.heap[k]? :=λk hk=>Lib.alloc_old w.drew _ k hk;refine(P4 L X b w _ _ _ 0 0 [] _ hlt (cell _ rfl) (cell _ (hk b hlt)) (cell _ (hk b hlt)) hSD (Lib.run_unsafeString_none _ _ _ _ _)).mono ?_;rintro e w' ⟨rfl,rfl⟩;exact⟨rfl,⟨by simp[World.alloc],rfl,rfl,rfl⟩,λk hk' _=>hk k hk'⟩
    ·exact plain _ (Lib.run_unsafeSliceData_row _ _ _ _ _ _ hc) rfl
 |cons x r=>
  rw[<-hl0];have hpos:0<l.length:=by rw[hl0];simp
  cases o with
  |none=>have:=hq (ho rfl);omega
  |some g=>
   obtain⟨arr,fr,rfl,hg,hsz,_,harr⟩:=hown g rfl;have hUS:=Lib.run_unsafeString_row (P:=P) w.drew (ρ.t 127) (ρ.t 3) (ρ.t 9) (ρ.t 5) L.t127 X.cellsByte g arr.size (by have hg':w.drew.heap[g]? =some (.cells arr (ρ.t 5) fr):=hg;simp[World.shape?,hg']) l (by rw[hl0];simp) F0 F0 (λj x hx=>by
    have hj:=(List.getElem?_eq_some_iff.1 hx).1;have hg':w.drew.heap[g]? =some (.cells arr (ρ.t 5) fr):=hg;rw[Lib.addr_add,K1,Lib.cell_of_heap hg',harr j F0];simp[Go.Lv.We,hx];rfl)
   refine(P4 L X b w w.drew _ _ l.length cap l _ hlt (cell _ rfl) (cell _ rfl) (cell _ rfl) (Lib.run_unsafeSliceData_row _ _ _ _ _ _ F0) hUS).mono ?_;rintro e w' ⟨rfl,rfl⟩;exact⟨rfl,⟨by unfold World.freeze;split<;>simp,by unfold World.freeze;split<;>rfl,by unfold World.freeze;split<;>rfl,by unfold World.freeze;split<;>rfl⟩,λk hk hne=>Aha λe=>hne (by rw[e])⟩
end Go.Proofs.Rf
namespace Go
theorem F2{p:Prop}(h:p:=by kernel_rfl):p:=h
end Go
namespace Go.Proofs.Rf
open Go.RowKit Go.Shelf Go Go.Rx Go.Lv Go.Proofs
variable {P:Program} {ρ:Ren}
theorem Ahl{w:World}{a:Addr}{v:Value}{o:Obj}(h:a.block<w.heap.size):(w.setCell a v).alloc o=(w.alloc o).setCell a v:=by
 unfold World.setCell World.alloc;congr 1;apply Zz;intro k;show((w.heap.modify a.block _).push o)[k]? =((w.heap.push o).modify a.block _)[k]?;rw[Array.getElem?_push,WT,WT,Array.getElem?_push,Array.size_modify];by_cases hk:k=w.heap.size
 ·subst hk;have hne:a.block≠w.heap.size:=F0
  rw[A7 rfl,A4 hne,A7 rfl]
 ·rw[A4 hk,A4 hk]
set_option maxHeartbeats 2000000 in
set_option maxRecDepth 1000000 in
theorem Agr(L:Lays.n241 P ρ)(X:Builder.Extra P ρ)(b n:Nat)(w:World)(hbk:w.heap[b]? =some (.cells #[.pointer (some ⟨b,0,none⟩), .slice none 0 0] (ρ.t 72) (0,0))) (hn:n<=281474976710656):
  Calls P (ρ.f 241) #[.pointer (some ⟨b,0,none⟩), .int .i64 n] w λe w'=>e= .returned (.tuple #[])/\∃cs,w'=((w.alloc (.cells cs (ρ.t 5))).setCell ⟨b,1,none⟩ (.slice (some ⟨w.heap.size,0,none⟩) 0 cs.size)).drew.drew.drew:=by
 obtain⟨cs,hrun,hle,hmax⟩:=Lib.run_makeNoZero (P:=P) w.drew #[(ρ.t 3)] (ρ.t 37) (ρ.t 5) L.t37 n hn;have hw:IntKind.i64.wrap (IntKind.i64.wrap 0+(n:Int))=n:=by
  rw[IntKind.wrap_i64,IntKind.wrap_i64];omega
 have hcall:(callFunc (ρ.f 277) #[.int .i64 (IntKind.i64.wrap (IntKind.i64.wrap 0+(n:Int)))]).run P w.drew= .ok (.value (.slice (some ⟨w.drew.heap.size,0,none⟩) n cs.size)) (w.drew.drew.drew.alloc (.cells cs (ρ.t 5))):=by
  rw[hw,run_callFunc_extern L.f277 F2 F2 F2 (e:=Extern.BytealgMakeNoZero.makeNoZero #[(ρ.t 3)] #[(ρ.t 37)]) F2,hrun];rfl
 have hlt:=Go.Lv.lt_of_heap hbk;have c1:w.drew.cell? ⟨b,1,none⟩=some (.slice none 0 0):=by
  have:w.drew.heap[b]? =_:=hbk;rw[Lib.cell_of_heap this];rfl
 have c2:(w.alloc (.cells cs (ρ.t 5))).cell? ⟨b,1,none⟩=some (.slice none 0 0):=by
  have:(w.alloc (.cells cs (ρ.t 5))).heap[b]? =_:=(Lib.alloc_old w _ b hlt).trans hbk;rw[Lib.cell_of_heap this];rfl
 have f2:(w.alloc (.cells cs (ρ.t 5))).frozen? ⟨b,1,none⟩=false:=Lib.frozen_of_heap ((Lib.alloc_old w _ b hlt).trans hbk) 1;have hcopy:∀W:World,(Builtin.copy_ #[(ρ.t 37),(ρ.t 37)] (ρ.t 3) #[.slice (some ⟨w.heap.size,0,none⟩) 0 cs.size, .slice none 0 0]).run P W= .ok (goInt 0) W:=
  λW=>run_copy_none W (ρ.t 37) (ρ.t 37) (ρ.t 3) (ρ.t 5) _ _ 0 cs.size 0 0 L.t37 X.sizeByte rfl
 clear hw;have mixed:=L.mixed;have t72:=L.t72;have a72:=L.a72;have z72:=L.z72;have v72:=L.v72;have u72:=A_ L.t72;have t70:=L.t70;have a70:=L.a70;have z70:=L.z70;have v70:=L.v70;have u70:=A_ L.t70;have t37:=L.t37;have a37:=L.a37;have z37:=L.z37;have v37:=L.v37;have u37:=A_ L.t37;have t3:=L.t3;have a3:=L.a3;have z3:=L.z3;have v3:=L.v3;have u3:=A_ L.t3;have t5:=X.t5;have a5:=X.a5;have z5:=X.z5;have v5:=X.v5;have u5:=A_ X.t5
 go_enter L.f241,Body.n241_ntmps ρ
 go_wp2
 have hcap:(((w.alloc (.cells cs (ρ.t 5))).setCell ⟨b,1,none⟩ (.slice (some ⟨w.heap.size,0,none⟩) 0 cs.size)).drew.drew.drew).cell? ⟨b,1,none⟩=some (.slice (some ⟨w.heap.size,0,none⟩) 0 cs.size):=by
  show((w.alloc (.cells cs (ρ.t 5))).setCell ⟨b,1,none⟩ (.slice (some ⟨w.heap.size,0,none⟩) 0 cs.size)).cell? ⟨b,1,none⟩=_;exact World.cell?_setCell_same _ _ _ c2
 go_region_o
 all_goals (go_wp2;go_end0;first|exact⟨rfl,cs,rfl⟩|exact⟨rfl,cs,by rw[Ahl hlt]⟩)
theorem iJ{w:World}{a:Addr}{v:Value}{k:Nat}(h:k≠a.block):(w.setCell a v).heap[k]? =w.heap[k]? :=by
 unfold World.setCell;simp[WT,S? h]
theorem x!(w:World)(a:Addr)(v:Value):Gr w (w.setCell a v):=⟨by simp[World.setCell],rfl,rfl,rfl⟩
set_option maxHeartbeats 2000000 in
set_option maxRecDepth 1000000 in
theorem Atg(L:Lays.n165 P ρ)(X:Builder.Extra P ρ):jO P (ρ.f 165) (ρ.t 72) (ρ.t 5):=by
 intro w b n hbk hn;have hlt:=Go.Lv.lt_of_heap hbk;have hbk1:(w.setCell ⟨b,0,none⟩ (.pointer (some ⟨b,0,none⟩))).heap[b]? =some (.cells #[.pointer (some ⟨b,0,none⟩), .slice none 0 0] (ρ.t 72) (0,0)):=by
  simp[World.setCell,WT,hbk]
 have c1:(w.setCell ⟨b,0,none⟩ (.pointer (some ⟨b,0,none⟩))).cell? ⟨b,1,none⟩=some (.slice none 0 0):=by rw[Lib.cell_of_heap hbk1];rfl
 have hg1:Gr w (w.setCell ⟨b,0,none⟩ (.pointer (some ⟨b,0,none⟩))):=x! _ _ _;have hs1:∀k,k<w.heap.size->k≠b-> (w.setCell ⟨b,0,none⟩ (.pointer (some ⟨b,0,none⟩))).heap[k]? =w.heap[k]? :=λk _ hk=>iJ hk;have Bbm:Gr w (w.setCell ⟨b,0,none⟩ (.pointer (some ⟨b,0,none⟩))).drew/\ (∀k,k<w.heap.size->k≠b-> (w.setCell ⟨b,0,none⟩ (.pointer (some ⟨b,0,none⟩))).drew.heap[k]? =w.heap[k]?)/\∃v o,(w.setCell ⟨b,0,none⟩ (.pointer (some ⟨b,0,none⟩))).drew.heap[b]? =some (.cells #[.pointer (some ⟨b,0,none⟩),v] (ρ.t 72) (0,0))/\ (Mob.own 1 (ρ.t 5) v []).holds o (w.setCell ⟨b,0,none⟩ (.pointer (some ⟨b,0,none⟩))).drew/\∀k,o=some k->w.heap.size<=k/\k<(w.setCell ⟨b,0,none⟩ (.pointer (some ⟨b,0,none⟩))).drew.heap.size:=
  ⟨hg1.trans ⟨C4 _,rfl,rfl,rfl⟩,hs1, .slice none 0 0,none,hbk1,⟨none,0,0,rfl,rfl,C4 _,λ_=>rfl,λ_=>rfl,λb h=>nomatch h⟩,λk h=>nomatch h⟩
 have Bbn:∀(cs:Array Value) (w2:World),w2=(((w.setCell ⟨b,0,none⟩ (.pointer (some ⟨b,0,none⟩))).drew.alloc (.cells cs (ρ.t 5))).setCell ⟨b,1,none⟩ (.slice (some ⟨(w.setCell ⟨b,0,none⟩ (.pointer (some ⟨b,0,none⟩))).drew.heap.size,0,none⟩) 0 cs.size)).drew.drew.drew->
   Gr w w2/\ (∀k,k<w.heap.size->k≠b->w2.heap[k]? =w.heap[k]?)/\∃v o,w2.heap[b]? =some (.cells #[.pointer (some ⟨b,0,none⟩),v] (ρ.t 72) (0,0))/\ (Mob.own 1 (ρ.t 5) v []).holds o w2/\∀k,o=some k->w.heap.size<=k/\k<w2.heap.size:=by
  intro cs w2 e;subst e;generalize hw1:w.setCell ⟨b,0,none⟩ (.pointer (some ⟨b,0,none⟩))=w1 at*
  have hsz:w1.heap.size=w.heap.size:=by rw[<-hw1];simp[World.setCell]
  have hold:∀k,k<w1.heap.size-> (w1.drew.alloc (.cells cs (ρ.t 5))).heap[k]? =w1.heap[k]? :=λk hk=>Lib.alloc_old w1.drew _ k hk;have hnew:(w1.drew.alloc (.cells cs (ρ.t 5))).heap[w1.heap.size]? =some (.cells cs (ρ.t 5)):=nH w1.drew _;refine⟨hg1.trans ((⟨C4 _,rfl,rfl,rfl⟩:Gr w1 w1.drew).trans ((U6 w1.drew (.cells cs (ρ.t 5))).trans ((x! _ _ _).trans ⟨C4 _,rfl,rfl,rfl⟩))),λk hk hne=>(iJ hne).trans ((hold k F0).trans (hs1 k hk hne)),_,some w1.heap.size,?_,⟨some ⟨w1.heap.size,0,none⟩,0,cs.size,rfl,rfl,Nat.zero_le _,(λh=>nomatch h),(λh=>nomatch h),λk hk=>?_⟩,λk hk=>?_⟩
  ·have:(w1.drew.alloc (.cells cs (ρ.t 5))).heap[b]? =_:=(hold b F0).trans hbk1;show((w1.drew.alloc (.cells cs (ρ.t 5))).setCell ⟨b,1,none⟩ (.slice (some ⟨w1.heap.size,0,none⟩) 0 cs.size)).heap[b]? =_;rw[Aw4 this];unfold Ec;rw[Zu (Go.Lv.lt_of_heap this)];rfl
  ·cases hk;exact⟨cs,(0,0),rfl,(iJ F5).trans hnew,F8, .inl rfl,λi hi=>absurd hi F8⟩
  ·cases hk;refine⟨F0,?_⟩;have:=Go.Lv.lt_of_heap hnew
   show _<((w1.drew.alloc (.cells cs (ρ.t 5))).setCell _ _).heap.size;simp[World.setCell]
 have mixed:=L.mixed;have t72:=L.t72;have a72:=L.a72;have z72:=L.z72;have v72:=L.v72;have u72:=A_ L.t72;have t70:=L.t70;have a70:=L.a70;have z70:=L.z70;have v70:=L.v70;have u70:=A_ L.t70;have t37:=L.t37;have a37:=L.a37;have z37:=L.z37;have v37:=L.v37;have u37:=A_ L.t37;have t3:=L.t3;have a3:=L.a3;have z3:=L.z3;have v3:=L.v3;have u3:=A_ L.t3;have t9:=L.t9;have a9:=L.a9;have z9:=L.z9;have v9:=L.v9;have u9:=A_ L.t9;have t4:=L.t4;have a4:=L.a4;have z4:=L.z4;have v4:=L.v4;have u4:=A_ L.t4;have t164:=L.t164;have a164:=L.a164;have z164:=L.z164;have v164:=L.v164;have u164:=A_ L.t164;have t5:=X.t5;have a5:=X.a5;have z5:=X.z5;have v5:=X.v5;have u5:=A_ X.t5;have e240:∀args w,(callFunc (ρ.f 240) args).run P w= .ok (.enter (ρ.f 240) args) w:=enters_of L.f240 F2 rfl;have e241:∀args w,(callFunc (ρ.f 241) args).run P w= .ok (.enter (ρ.f 241) args) w:=enters_of L.f241 F2 rfl
 go_enter L.f165,Body.n165_ntmps ρ
 have c1':(w.setCell ⟨b,0,none⟩ (.pointer (some ⟨b,0,none⟩))).drew.cell? ⟨b,1,none⟩=some (.slice none 0 0):=c1
 go_wp2_with (go_at_fn (ρ.f 240);refine(Any.Builder_copyCheck_fresh {L with} X.toX72 b w (by rw[Lib.cell_of_heap hbk];rfl) (by simp[World.shape?,hbk]) (Lib.frozen_of_heap hbk 0)).mono ?_;rintro e w' ⟨rfl,rfl⟩)
 go_region_o
 all_goals go_wp2_with (go_at_fn (ρ.f 241);refine(Agr {L with} X b n (w.setCell ⟨b,0,none⟩ (.pointer (some ⟨b,0,none⟩))).drew hbk1 hn).mono ?_;rintro e w' ⟨rfl,cs,hw'⟩;have hf:=Bbn _ _ hw';clear hw')
 all_goals first
  |(go_end0;exact⟨rfl,hf⟩)
  |(go_end0;exact⟨rfl,Bbm⟩)
end Go.Proofs.Rf
