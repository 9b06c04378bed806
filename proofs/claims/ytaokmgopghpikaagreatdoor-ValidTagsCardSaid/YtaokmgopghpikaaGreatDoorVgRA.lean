/- A part of a proof (see the text that ends in Proof). No conditions. -/
import Derived.Shelf.Bytes.WriteAny
import Derived.Shelf.Bytes.Bytes
import Derived.Shelf.Bytes.GrowRowOwn
import Derived.Test.YtaokmgopghpikaaGreatDoorVgBC
import Derived.OwnWalkIn
import Derived.TacticsInMore
import Derived.BigFrameIn
import Derived.Shelf.Bytes.SlJoin
set_option linter.unusedVariables false
set_option linter.unusedSimpArgs false
namespace Go
theorem F3{p:Prop}(h:p:=by kernel_rfl):p:=h
end Go
namespace Go.Proofs.Rf
open Go.Shelf Go.RowKit Go Go.Proofs
variable {P:Program} {ρ:Ren}
def kO(b:Nat)(w w':World):Prop:=∀k,k<w.heap.size->k≠b-> (∀ad n c,w.cell? ⟨b,0,none⟩=some (.slice (some ad) n c)->k≠ad.block)->w'.heap[k]? =w.heap[k]?
def yO(b m:Nat)(w':World):Prop:=∃g len cap,w'.cell? ⟨b,0,none⟩=some (.slice (some ⟨g,0,none⟩) len cap)/\m<=g
set_option maxHeartbeats 6400000 in
set_option maxRecDepth 100000 in
theorem Aks(L:LaysM.n252 P ρ)(B b n:Nat)(lr:Int)(w:World)(hB:B<=b)(hBw:B<=w.heap.size)
  (hbk:w.heap[b]? =some (.cells #[.slice none 0 0, .int .i64 0, .int .i8 lr] (ρ.t 93) (0,0))) (hn:1<=n) (h64:n<=64):
  Calls P (ρ.f 252) #[.pointer (some ⟨b,0,none⟩), .int .i64 n] w λe w'=>e= .returned (.int .i64 0)/\ (∃xs,xs.length=n/\Lib.IsBuffer (ρ.t 93) (ρ.t 5) B b xs w'/\Below B w w')/\w.grownBy w' (some b)/\yO b w.heap.size w':=by
 have mixed:=L.mixed;have t5:=L.t5;have a5:=L.a5;have z5:=L.z5;have v5:=L.v5;have t130:=L.t130;have a130:=L.a130;have z130:=L.z130;have v130:=L.v130;have t3:=L.t3;have a3:=L.a3;have z3:=L.z3;have v3:=L.v3;have t4:=L.t4;have a4:=L.a4;have z4:=L.z4;have v4:=L.v4;have t0:=L.t0;have a0:=L.a0;have z0:=L.z0;have v0:=L.v0;have t93:=L.t93;have u93:=D0 L.t93;have a93:=L.a93;have z93:=L.z93;have v93:=L.v93;have t131:=L.t131;have a131:=L.a131;have z131:=L.z131;have v131:=L.v131;have t37:=L.t37;have a37:=L.a37;have z37:=L.z37;have v37:=L.v37;have t75:=L.t75;have a75:=L.a75;have z75:=L.z75;have v75:=L.v75;have e181:∀args w,(callFunc (ρ.f 181) args).run P w= .ok (.enter (ρ.f 181) args) w:=enters_of L.f181 F3 rfl;have e251:∀args w,(callFunc (ρ.f 251) args).run P w= .ok (.enter (ρ.f 251) args) w:=enters_of L.f251 F3 rfl;obtain⟨i0,hi,hz0,hz1,hz2⟩:=info_parts L.i5;obtain⟨M,hM⟩:∃M,M=madeCells (Value.int .u8 0).cells ((64:Int).toNat*i0.size):=⟨_,rfl⟩;have hMs:M.size=64:=by rw[hM,size_madeCells,hz1];rfl
 have hmk:∀W:World,(Instr.makeSlice (ρ.t 37) (.int .i64 (n:Int)) (.int .i64 64)).run P W= .ok (.slice (some ⟨W.heap.size,0,none⟩) n 64) (W.alloc (.cells M (ρ.t 5))):=λW=>by
  have h:=run_makeSlice (P:=P) W (ρ.t 37) (ρ.t 5) i0 (.int .u8 0) L.t37 hi hz0 .i64 .i64 (n:Int) 64 F0 F0 (by rw[hz1];decide) (by rw[hz2];decide) F6;rw[<-hM]at h;simpa using h
 clear hM;have hIs:Lib.IsBuffer (ρ.t 93) (ρ.t 5) B b [] w:=⟨hB,_,_,hbk,World.ownsRow_nil _ _ _ _,by simp[Value.ownBlock]⟩;have hnil:∀W,(binOp .eql (ρ.t 37) (.slice none 0 0) (.slice none 0 0)).run P W= .ok (.bool true) W:=λW=>Lib.run_eql_slice_nil_nil W _ _ L.t37
 go_enter L.f252,Body.n252_ntmps ρ
 go_wp2_with (go_at_fn (ρ.f 181);refine(Any.Buffer_Len {L with} B b [] _ hIs).mono ?_)
 rintro e W0 ⟨rfl,k,hW0⟩;have hbk0:W0.heap[b]? =some (.cells #[.slice none 0 0, .int .i64 0, .int .i8 lr] (ρ.t 93) (0,0)):=by rw[hW0];exact hbk
 have c0:W0.cell? ⟨b,0,none⟩=some (.slice none 0 0):=by rw[Lib.cell_of_heap hbk0];rfl
 have c1:W0.cell? ⟨b,1,none⟩=some (.int .i64 0):=by rw[Lib.cell_of_heap hbk0];rfl
 have f0:W0.frozen? ⟨b,0,none⟩=false:=Lib.frozen_of_heap hbk0 0;have f1:W0.frozen? ⟨b,1,none⟩=false:=Lib.frozen_of_heap hbk0 1;have hbW0:=Lib.lt_of_heap hbk0;have c0a:∀o,(W0.alloc o).cell? ⟨b,0,none⟩=some (.slice none 0 0):=λo=>(lS (a:=⟨b,0,none⟩) (Below.heap_alloc W0 o b hbW0)).trans c0;have f0a:∀o,(W0.alloc o).frozen? ⟨b,0,none⟩=false:=λo=>(World.frozen?_of_block (a:=⟨b,0,none⟩) (Below.heap_alloc W0 o b hbW0)).trans f0;have HW0:=Lib.hid hW0;clear hW0 hIs
 go_wp2_with (go_at_fn (ρ.f 251);refine(Any.Buffer_tryGrow_none {L with} b _ 0 0 n _ c0 (D1 _) (Nat.zero_le _) F0).mono ?_;rintro e w' ⟨rfl,rfl⟩)
 go_ret
 have hsz0:w'.heap.size=w.heap.size:=by rw[HW0.out];rfl
 have hb0:Below B w w':=by rw[HW0.out];exact⟨rfl,rfl,rfl,D1 _,λ_ _=>rfl⟩
 have hg0:w.grownBy w' (some b):=by rw[HW0.out];exact⟨rfl,rfl,rfl,D1 _,λ_ _ _=>rfl⟩
 obtain⟨xs,q1,q2,q3⟩:=Lib.grow_small_end hB hbk0 F0 hMs h64 (by unfold maxLen;omega) hb0;refine⟨rfl,⟨xs,q1,q2,q3⟩,Lib.grownBy_allocR (Lib.grownBy_setB hg0 0 _) _,?_⟩;refine⟨w'.heap.size,n,64,?_,F0⟩;exact(lS (a:=⟨b,0,none⟩) (Below.heap_alloc _ _ b (by simpa using hbW0))).trans (lB _ _ _ (by rw[c0];rfl))
set_option maxHeartbeats 12800000 in
set_option maxRecDepth 100000 in
theorem Ait(L:LaysM.n252 P ρ)(B b g l cap n:Nat)(lr:Int)(cur:Array Value)(bs:List Value)(w:World)(hB:B<=b)(hBw:B<=w.heap.size)
  (hbk:w.heap[b]? =some (.cells #[.slice (some ⟨g,0,none⟩) l cap, .int .i64 0, .int .i8 lr] (ρ.t 93) (0,0)))
  (hl:bs.length=l) (hBg:B<=g) (hg:w.heap[g]? =some (.cells cur (ρ.t 5) (0,0))) (hlc:l<=cap) (hcm:cap<=maxLen) (hcs:cur.size=cap) (htake:cur.toList.take l=bs) (hgb:g≠b)
  (h1:∀v∈bs,v.oneCell'=true) (hn:1<=n) (hroom:cap-l<n) (hlim:l+n<=140737488355328) (hl0:l≠0):
  Calls P (ρ.f 252) #[.pointer (some ⟨b,0,none⟩), .int .i64 n] w λe w'=>e= .returned (.int .i64 l)/\ (∃xs,xs.length=n/\Lib.IsBuffer (ρ.t 93) (ρ.t 5) B b (bs++xs) w'/\Below B w w')/\w.grownBy w' (some b)/\yO b w.heap.size w':=by
 have mixed:=L.mixed;have t5:=L.t5;have a5:=L.a5;have z5:=L.z5;have v5:=L.v5;have t130:=L.t130;have a130:=L.a130;have z130:=L.z130;have v130:=L.v130;have t3:=L.t3;have a3:=L.a3;have z3:=L.z3;have v3:=L.v3;have t4:=L.t4;have a4:=L.a4;have z4:=L.z4;have v4:=L.v4;have t0:=L.t0;have a0:=L.a0;have z0:=L.z0;have v0:=L.v0;have t93:=L.t93;have u93:=D0 L.t93;have a93:=L.a93;have z93:=L.z93;have v93:=L.v93;have t131:=L.t131;have a131:=L.a131;have z131:=L.z131;have v131:=L.v131;have t37:=L.t37;have a37:=L.a37;have z37:=L.z37;have v37:=L.v37;have t75:=L.t75;have a75:=L.a75;have z75:=L.z75;have v75:=L.v75;have e181:∀args w,(callFunc (ρ.f 181) args).run P w= .ok (.enter (ρ.f 181) args) w:=enters_of L.f181 F3 rfl;have e251:∀args w,(callFunc (ρ.f 251) args).run P w= .ok (.enter (ρ.f 251) args) w:=enters_of L.f251 F3 rfl;have e290:∀args w,(callFunc (ρ.f 290) args).run P w= .ok (.enter (ρ.f 290) args) w:=enters_of L.f290 F3 rfl;have hIs:Lib.IsBuffer (ρ.t 93) (ρ.t 5) B b bs w:=⟨hB,_,_,hbk,⟨by rw[hl,R2], .inr ⟨g,cap,cur,by rw[hl],hBg,hg,F0,hcm,F0,by rw[hl,R2];exact htake⟩⟩,by simp[Value.ownBlock];exact hgb⟩;have hnil:∀W,(binOp .eql (ρ.t 37) (.slice (some ⟨g,0,none⟩) l cap) (.slice none 0 0)).run P W= .ok (.bool false) W:=λW=>Lib.run_eql_slice_some_nil W _ _ _ L.t37
 go_enter L.f252,Body.n252_ntmps ρ
 go_wp2_with (go_at_fn (ρ.f 181);refine(Any.Buffer_Len {L with} B b bs _ hIs).mono ?_)
 rintro e W0 ⟨rfl,k,hW0⟩;rw[hl];have hbk0:W0.heap[b]? =some (.cells #[.slice (some ⟨g,0,none⟩) l cap, .int .i64 0, .int .i8 lr] (ρ.t 93) (0,0)):=by rw[hW0];exact hbk
 have hg0:W0.heap[g]? =some (.cells cur (ρ.t 5) (0,0)):=by rw[hW0];exact hg
 have c0:W0.cell? ⟨b,0,none⟩=some (.slice (some ⟨g,0,none⟩) l cap):=by rw[Lib.cell_of_heap hbk0];rfl
 have c1:W0.cell? ⟨b,1,none⟩=some (.int .i64 0):=by rw[Lib.cell_of_heap hbk0];rfl
 have f0:W0.frozen? ⟨b,0,none⟩=false:=Lib.frozen_of_heap hbk0 0;have f1:W0.frozen? ⟨b,1,none⟩=false:=Lib.frozen_of_heap hbk0 1;have HW0:=Lib.hid hW0;clear hW0 hIs;have hcm':=hcm;unfold maxLen at hcm'
 go_wp2_with (go_at_fn (ρ.f 251);refine(Any.Buffer_tryGrow_none {L with} b _ l cap n _ c0 hlc hcm hroom).mono ?_;rintro e w' ⟨rfl,rfl⟩)
 have hc2:cap<=140737488355328:=F0
 have h1':∀v∈cur.toList.take l,v.oneCell'=true:=by rw[htake];exact h1
 have hbW:=Lib.lt_of_heap hbk0;have hwn:IntKind.i64.wrap (n:Int)=n:=by rw[IntKind.wrap_i64];omega
 go_region_with_o (
   go_at_fn (ρ.f 290)
   refine(Any.bytes_growSlice_row {L with} g l cap n cur _ ?_ hcs hlc hn hlim hc2 h1').mono ?_;exact hg0;rintro e w2 ⟨cap2,cells,rfl,hN,hcsz,htk,hcap2,hcm2,hbel⟩;have hbk2:w2.heap[b]? =some (.cells #[.slice (some ⟨g,0,none⟩) l cap, .int .i64 0, .int .i8 lr] (ρ.t 93) (0,0)):=(hbel.block b hbW).trans hbk0;have d0:w2.cell? ⟨b,0,none⟩=some (.slice (some ⟨g,0,none⟩) l cap):=by rw[Lib.cell_of_heap hbk2];rfl
   have d1:w2.cell? ⟨b,1,none⟩=some (.int .i64 0):=by rw[Lib.cell_of_heap hbk2];rfl
   have e0:w2.frozen? ⟨b,0,none⟩=false:=Lib.frozen_of_heap hbk2 0;have e1:w2.frozen? ⟨b,1,none⟩=false:=Lib.frozen_of_heap hbk2 1)
 all_goals (
  go_wp2
  go_ret
  have hsz0:w'.heap.size=w.heap.size:=by rw[HW0.out];rfl
  have hb0:Below B w w'.drew:=by rw[HW0.out];exact⟨rfl,rfl,rfl,D1 _,λ_ _=>rfl⟩
  have hg2:w.grownBy w2 (some b):=Lib.grownBy_below (w:=w'.drew) (by rw[HW0.out];exact⟨rfl,rfl,rfl,D1 _,λ_ _ _=>rfl⟩) hbel;obtain⟨xs,q1,q2,q3⟩:=Lib.grow_end hB hbk2 hN (by show B<=w'.heap.size;omega) (by show w'.heap.size≠b;omega) hcsz (htk.trans htake) hcap2 hcm2 (hb0.trans (hbel.mono (by show B<=w'.heap.size;omega))) _;refine⟨rfl,⟨xs,q1,q2,q3⟩,Lib.grownBy_setB (Lib.grownBy_setB (Lib.grownBy_setB hg2 0 _) 1 _) 0 _,?_⟩;refine⟨w'.heap.size,l+n,cap2,?_,F0⟩;refine lB _ _ _ ?_;rw[World.cell?_setCell_other _ _ _ _ A7,lB _ _ _ (by rw[d0];rfl)];rfl)
theorem UB{b:Nat}{w W W':World}(h:w.grownBy W (some b))(hk:∀k,k<w.heap.size->k≠b-> (∀ad n c,w.cell? ⟨b,0,none⟩=some (.slice (some ad) n c)->k≠ad.block)->W'.heap[k]? =W.heap[k]?):kO b w W':=
 λk h1 h2 h3=>(hk k h1 h2 h3).trans (h.block k h1 (λe=>h2 (O9 e)))
set_option maxHeartbeats 6400000 in
set_option maxRecDepth 100000 in
theorem Bd4(L:LaysM.n178 P ρ)(B b:Nat)(bs:List Value)(s:ByteArray)(w:World)(h:Lib.IsBuffer (ρ.t 93) (ρ.t 5) B b bs w)(hf:bs=[]->w.cell? ⟨b,0,none⟩=some (.slice none 0 0)/\1<=s.size/\s.size<=64)
  (hBw:B<=w.heap.size) (h1:∀v∈bs,v.oneCell'=true) (hlim:bs.length+s.size<=140737488355328):
  Calls P (ρ.f 178) #[.pointer (some ⟨b,0,none⟩), .string s] w λe w'=>e= .returned (.tuple #[.int .i64 s.size, .nilIface])/\Lib.IsBuffer (ρ.t 93) (ρ.t 5) B b (bs++Lib.byteCells s.data.toList) w'/\Below B w w'/\kO b w w':=by
 have mixed:=L.mixed;have t5:=L.t5;have a5:=L.a5;have z5:=L.z5;have v5:=L.v5;have t130:=L.t130;have a130:=L.a130;have z130:=L.z130;have v130:=L.v130;have t9:=L.t9;have a9:=L.a9;have z9:=L.z9;have v9:=L.v9;have t3:=L.t3;have a3:=L.a3;have z3:=L.z3;have v3:=L.v3;have t75:=L.t75;have a75:=L.a75;have z75:=L.z75;have v75:=L.v75;have t0:=L.t0;have a0:=L.a0;have z0:=L.z0;have v0:=L.v0;have t93:=L.t93;have u93:=D0 L.t93;have a93:=L.a93;have z93:=L.z93;have v93:=L.v93;have t91:=L.t91;have a91:=L.a91;have z91:=L.z91;have v91:=L.v91;have t131:=L.t131;have a131:=L.a131;have z131:=L.z131;have v131:=L.v131;have t4:=L.t4;have a4:=L.a4;have z4:=L.z4;have v4:=L.v4;have t37:=L.t37;have a37:=L.a37;have z37:=L.z37;have v37:=L.v37;have e251:∀args w,(callFunc (ρ.f 251) args).run P w= .ok (.enter (ρ.f 251) args) w:=enters_of L.f251 F3 rfl;have e252:∀args w,(callFunc (ρ.f 252) args).run P w= .ok (.enter (ρ.f 252) args) w:=enters_of L.f252 F3 rfl;obtain⟨hB,lr,hcase⟩:=h.cases;have hinfo:(P.info? (ρ.t 5)).map (·.size)=some 1:=by
  obtain⟨i0,hi, -,hz1, -⟩:=info_parts L.i5;rw[hi];simp[hz1]
 have hnl:(Lib.byteCells s.data.toList).length=s.size:=by rw[Lib.byteCells_length,<-Lib.size_eq]
 have fin:∀{W1:World} {xs:List Value},xs.length=s.size->Lib.IsBuffer (ρ.t 93) (ρ.t 5) B b (bs++xs) W1->Below B w W1->w.grownBy W1 (some b)->yO b w.heap.size W1->s.size≠0->
   ∃g cap,∃cur:Array Value,W1.heap[g]? =some (.cells cur (ρ.t 5) (0,0))/\W1.cell? ⟨b,0,none⟩=some (.slice (some ⟨g,0,none⟩) (bs.length+s.size) cap)/\bs.length+s.size<=cap/\cap<=maxLen/\cur.size=cap/\
    Lib.IsBuffer (ρ.t 93) (ρ.t 5) B b (bs++Lib.byteCells s.data.toList) (W1.setRow g (cur.toList.take bs.length++Lib.byteCells s.data.toList++cur.toList.drop (bs.length+s.size)).toArray)/\
    Below B w (W1.setRow g (cur.toList.take bs.length++Lib.byteCells s.data.toList++cur.toList.drop (bs.length+s.size)).toArray)/\
    kO b w (W1.setRow g (cur.toList.take bs.length++Lib.byteCells s.data.toList++cur.toList.drop (bs.length+s.size)).toArray):=by
  intro W1 xs hxl hI hbel Axx hnew hs0;obtain⟨-,lr2,hc⟩:=hI.cases;rcases hc with⟨hnil, -⟩|⟨g,cap,cur,hbk2,hBg,hg,hnc,hcm,hcs,htk,hgb⟩
  ·exact absurd (congrArg List.length hnil) (by rw[B6,hxl,Zv];omega)
  rw[B6,hxl]at hbk2 hnc htk;have d0:W1.cell? ⟨b,0,none⟩=some (.slice (some ⟨g,0,none⟩) (bs.length+s.size) cap):=by rw[Lib.cell_of_heap hbk2];rfl
  obtain⟨r1,r2⟩:=Lib.written_end (news:=Lib.byteCells s.data.toList) (l:=bs.length) hB (by rw[hnl];exact hbk2) hBg hg hcm hcs hgb (by rw[hnl];exact hnc);have e1:cur.toList.take bs.length=bs:=by
   have h3:=congrArg (List.take bs.length) htk;rwa [Z_,QM (Nat.le_add_right _ _),dD rfl]at h3
  rw[hnl]at r1 r2;refine⟨g,cap,cur,hg,d0,hnc,hcm,hcs,by rw[e1]at r1⊢;exact r1,hbel.trans r2,UB Axx λk h1 h2 h3=>?_⟩;obtain⟨g',len',cap',hn1,hn2⟩:=hnew;rw[d0]at hn1;cases hn1;exact setRow_other _ _ _ _ F0
 rcases hcase with⟨hnil,hbk⟩|⟨g,cap,cur,hbk,hBg,hg,hnc,hcm,hcs,htk,hgb⟩
 ·
  obtain⟨hc0,hs1,Axy⟩:=hf hnil;subst hnil;have c2:w.cell? ⟨b,2,none⟩=some (.int .i8 lr):=by rw[Lib.cell_of_heap hbk];rfl
  have f2:w.frozen? ⟨b,2,none⟩=false:=Lib.frozen_of_heap hbk 2;have hbk':=Lib.heap_setCell_same (i:=2) hbk (.int .i8 0);have hcx:(w.setCell ⟨b,2,none⟩ (.int .i8 0)).cell? ⟨b,0,none⟩=some (.slice none 0 0):=by rw[Lib.cell_of_heap hbk'];rfl
  go_enter L.f178,Body.n178_ntmps ρ
  go_wp2_with (go_at_fn (ρ.f 251);refine(Any.Buffer_tryGrow_none {L with} b none 0 0 s.size _ hcx (D1 _) (Nat.zero_le _) F0).mono ?_;rintro e W1 ⟨rfl,rfl⟩)
  refine(Aks {L with} B b s.size 0 _ hB ?_ ?_ hs1 Axy).mono ?_
  ·simpa [World.setCell]using hBw
  ·exact hbk'
  rintro e W1 ⟨rfl,⟨xs,hxl,hI,hbel⟩,hgr,hnew⟩;obtain⟨g,cap,cur,hg,d0,hnc,hcm,hcs,r1,r2,r3⟩:=fin (W1:=W1) hxl (by simpa using hI) (((Below.refl B w).setCell (p:=⟨b,2,none⟩) hB _).trans hbel) (Lib.grownBy_trans (Lib.grownBy_setCell w b 2 _) hgr) (by simpa [yO,World.setCell]using hnew) F0;have hne:¬cap=(0:Nat):=by simp at hnc;omega
  have hcp:=Lib.run_copy_row_string (P:=P) W1 (ρ.t 37) (ρ.t 9) (ρ.t 3) (ρ.t 5) g 0 s.size (cap-0) s cur (ρ.t 5) L.t37 hinfo hg (D1 _) (by simp at hnc⊢;omega);have hcm':=hcm;unfold maxLen at hcm';simp only[Zv,J?,R!,OJ,Zx]at d0 hnc hcp r1 r2 r3 hne
  go_wp2
  go_ret2
  exact⟨rfl,r1,r2,r3⟩
 ·have c2:w.cell? ⟨b,2,none⟩=some (.int .i8 lr):=by rw[Lib.cell_of_heap hbk];rfl
  have f2:w.frozen? ⟨b,2,none⟩=false:=Lib.frozen_of_heap hbk 2;have c0:w.cell? ⟨b,0,none⟩=some (.slice (some ⟨g,0,none⟩) bs.length cap):=by rw[Lib.cell_of_heap hbk];rfl
  have hl0:bs.length≠0:=λe=>by
   have:=(hf (R3 e)).1;rw[c0]at this;cases this
  have hbk':=Lib.heap_setCell_same (i:=2) hbk (.int .i8 0);have c0':(w.setCell ⟨b,2,none⟩ (.int .i8 0)).cell? ⟨b,0,none⟩=some (.slice (some ⟨g,0,none⟩) bs.length cap):=by rw[Lib.cell_of_heap hbk'];rfl
  have f0':(w.setCell ⟨b,2,none⟩ (.int .i8 0)).frozen? ⟨b,0,none⟩=false:=Lib.frozen_of_heap hbk' 0;have hg':(w.setCell ⟨b,2,none⟩ (.int .i8 0)).heap[g]? =some (.cells cur (ρ.t 5) (0,0)):=by rw[Below.heap_setCell _ _ _ _ hgb];exact hg
  have hbel0:Below B w (w.setCell ⟨b,2,none⟩ (.int .i8 0)):=(Below.refl B w).setCell (p:=⟨b,2,none⟩) hB _;have hrow:∀n:Nat,(w.setCell ⟨b,2,none⟩ (.int .i8 0)).heap[g]? =some (.cells cur (ρ.t 5) (0,0))->True:=λ_ _=>trivial;by_cases hr:s.size<=cap-bs.length
  ·by_cases hs0:s.size=0
   ·have hce:∀d dLen dCap W,(Builtin.copy_ #[(ρ.t 37),(ρ.t 9)] (ρ.t 3) #[.slice d dLen dCap, .string s]).run P W= .ok (goInt 0) W:=λd dLen dCap W=>Lib.run_copy_empty_string W (ρ.t 37) (ρ.t 9) (ρ.t 3) (ρ.t 5) d dLen dCap s L.t37 (by rw[hinfo];rfl) hs0;have hbc:Lib.byteCells s.data.toList=[]:=R3 (by rw[hnl];exact hs0);have hT:Calls P (ρ.f 251) #[.pointer (some ⟨b,0,none⟩), .int .i64 0] (w.setCell ⟨b,2,none⟩ (.int .i8 0)) λe w'=>e= .returned (.tuple #[.int .i64 bs.length, .bool true])/\w'=(w.setCell ⟨b,2,none⟩ (.int .i8 0)).setCell ⟨b,0,none⟩ (.slice (some ⟨g,0,none⟩) bs.length cap):=Any.Buffer_tryGrow_room {L with} b _ bs.length cap 0 _ c0' f0' hnc hcm (Nat.zero_le _);clear hrow
    go_enter L.f178,Body.n178_ntmps ρ
    go_wp2_with (go_at_fn (ρ.f 251);refine hT.mono ?_;refine Hid.out ?_)
    refine Lib.hid ?_;rintro e W1 ⟨rfl,hW1⟩;have hbk1:W1.heap[b]? =some (.cells #[.slice (some ⟨g,0,none⟩) bs.length cap, .int .i64 0, .int .i8 0] (ρ.t 93) (0,0)):=by rw[hW1];exact Lib.heap_setCell_same (i:=0) hbk' _
    have hg1:W1.heap[g]? =some (.cells cur (ρ.t 5) (0,0)):=by rw[hW1,Below.heap_setCell _ _ _ _ hgb];exact hg'
    have hgr:w.grownBy W1 (some b):=by rw[hW1];exact Lib.grownBy_setB (Lib.grownBy_setCell w b 2 _) 0 _
    have hbel:Below B w W1:=by rw[hW1];exact hbel0.setCell (p:=⟨b,0,none⟩) hB _
    clear hW1;have d0:W1.cell? ⟨b,0,none⟩=some (.slice (some ⟨g,0,none⟩) bs.length cap):=by rw[Lib.cell_of_heap hbk1];rfl
    have hI:=Lib.isBuffer_mk (T:=ρ.t 93) (e:=ρ.t 5) (lr:=0) hB hbk1 hBg hg1 hnc hcm hcs hgb;rw[htk]at hI;have hcm':=hcm;unfold maxLen at hcm'
    go_wp2
    all_goals (go_ret2;exact⟨by simp[hs0],by simpa [hbc]using hI,hbel,UB hgr λk _ _ _=>rfl⟩)
   ·go_enter L.f178,Body.n178_ntmps ρ
    go_wp2_with (go_at_fn (ρ.f 251);refine(Any.Buffer_tryGrow_room {L with} b _ bs.length cap s.size _ c0' f0' hnc hcm hr).mono ?_;refine Hid.out ?_)
    refine Lib.hid ?_;rintro e W1 ⟨rfl,hW1⟩;have hbk1:W1.heap[b]? =some (.cells #[.slice (some ⟨g,0,none⟩) (bs.length+s.size) cap, .int .i64 0, .int .i8 0] (ρ.t 93) (0,0)):=by rw[hW1];exact Lib.heap_setCell_same (i:=0) hbk' _
    have hg1:W1.heap[g]? =some (.cells cur (ρ.t 5) (0,0)):=by rw[hW1,Below.heap_setCell _ _ _ _ hgb];exact hg'
    have hgr:w.grownBy W1 (some b):=by rw[hW1];exact Lib.grownBy_setB (Lib.grownBy_setCell w b 2 _) 0 _
    have hbel:Below B w W1:=by rw[hW1];exact hbel0.setCell (p:=⟨b,0,none⟩) hB _
    clear hW1;have d0:W1.cell? ⟨b,0,none⟩=some (.slice (some ⟨g,0,none⟩) (bs.length+s.size) cap):=by rw[Lib.cell_of_heap hbk1];rfl
    have hne:¬cap=bs.length:=F0
    have hcp:=Lib.run_copy_row_string (P:=P) W1 (ρ.t 37) (ρ.t 9) (ρ.t 3) (ρ.t 5) g bs.length s.size (cap-bs.length) s cur (ρ.t 5) L.t37 hinfo hg1 (D1 _) F0;have hcm':=hcm;unfold maxLen at hcm'
    go_wp2
    go_ret2
    obtain⟨r1,r2⟩:=Lib.written_end (news:=Lib.byteCells s.data.toList) (l:=bs.length) hB (by rw[hnl];exact hbk1) hBg hg1 hcm hcs hgb (by rw[hnl];omega);rw[hnl]at r1 r2;rw[htk]at r1;refine⟨rfl,?_,hbel.trans ?_,UB hgr λk h1 h2 h3=>setRow_other _ _ _ _ (h3 _ _ _ c0)⟩
    ·simpa [htk]using r1
    ·simpa [htk]using r2
  ·go_enter L.f178,Body.n178_ntmps ρ
   go_wp2_with (go_at_fn (ρ.f 251);refine(Any.Buffer_tryGrow_none {L with} b _ bs.length cap s.size _ c0' hnc hcm F0).mono ?_;rintro e W1 ⟨rfl,rfl⟩)
   refine(Ait {L with} B b g bs.length cap s.size 0 cur bs _ hB ?_ ?_ rfl hBg ?_ hnc hcm hcs htk hgb h1 F0 F0 hlim hl0).mono ?_
   ·simpa [World.setCell]using hBw
   ·exact hbk'
   ·exact hg'
   rintro e W1 ⟨rfl,⟨xs,hxl,hI,hbel⟩,hgr,hnew⟩;obtain⟨g,cap,cur,hg,d0,hnc,hcm,hcs,r1,r2,r3⟩:=fin (W1:=W1) hxl hI (hbel0.trans hbel) (Lib.grownBy_trans (Lib.grownBy_setCell w b 2 _) hgr) (by simpa [yO,World.setCell]using hnew) F0;have hne:¬cap=bs.length:=F0
   have hcp:=Lib.run_copy_row_string (P:=P) W1 (ρ.t 37) (ρ.t 9) (ρ.t 3) (ρ.t 5) g bs.length s.size (cap-bs.length) s cur (ρ.t 5) L.t37 hinfo hg (D1 _) F0;have hcm':=hcm;unfold maxLen at hcm';simp only[D2]at r1 r2 r3
   go_wp2
   go_ret2
   exact⟨rfl,r1,r2,r3⟩
set_option maxHeartbeats 6400000 in
set_option maxRecDepth 100000 in
theorem Abq(L:LaysM.n180 P ρ)(B b:Nat)(bs:List Value)(ad:Option Addr)(c:Nat)(w:World)(h:Lib.IsBuffer (ρ.t 93) (ρ.t 5) B b bs w)(hBw:B<=w.heap.size):
  Calls P (ρ.f 180) #[.pointer (some ⟨b,0,none⟩), .slice ad 0 c] w λe w'=>e= .returned (.tuple #[.int .i64 0, .nilIface])/\Lib.IsBuffer (ρ.t 93) (ρ.t 5) B b bs w'/\Below B w w'/\Lib.OthersKept (ρ.t 5) (some b) w w':=by
 have mixed:=L.mixed;have t5:=L.t5;have a5:=L.a5;have z5:=L.z5;have v5:=L.v5;have t130:=L.t130;have a130:=L.a130;have z130:=L.z130;have v130:=L.v130;have t37:=L.t37;have a37:=L.a37;have z37:=L.z37;have v37:=L.v37;have t3:=L.t3;have a3:=L.a3;have z3:=L.z3;have v3:=L.v3;have t75:=L.t75;have a75:=L.a75;have z75:=L.z75;have v75:=L.v75;have t0:=L.t0;have a0:=L.a0;have z0:=L.z0;have v0:=L.v0;have t93:=L.t93;have u93:=D0 L.t93;have a93:=L.a93;have z93:=L.z93;have v93:=L.v93;have t91:=L.t91;have a91:=L.a91;have z91:=L.z91;have v91:=L.v91;have t131:=L.t131;have a131:=L.a131;have z131:=L.z131;have v131:=L.v131;have t4:=L.t4;have a4:=L.a4;have z4:=L.z4;have v4:=L.v4;have e251:∀args w,(callFunc (ρ.f 251) args).run P w= .ok (.enter (ρ.f 251) args) w:=enters_of L.f251 F3 rfl;have e252:∀args w,(callFunc (ρ.f 252) args).run P w= .ok (.enter (ρ.f 252) args) w:=enters_of L.f252 F3 rfl;have hinfo:(P.info? (ρ.t 5)).map (·.size)=some 1:=by
  obtain⟨i0,hi, -,hz1, -⟩:=info_parts L.i5;rw[hi];simp[hz1]
 have hce:∀d dLen dCap W,(Builtin.copy_ #[(ρ.t 37),(ρ.t 37)] (ρ.t 3) #[.slice d dLen dCap, .slice ad 0 c]).run P W= .ok (goInt 0) W:=by
  intro d dLen dCap W;cases hq:P.info? (ρ.t 5)with
  |none=>simp[hq]at hinfo
  |some i=>cases d<;>cases ad<;>simp[Builtin.copy_,D0 L.t37,Builtin.lenOf,Builtin.firstCells,sizeOf,typeInfo,hq,loadCells,loadCellsFrom,storeCells]
 obtain⟨hB,v0,lr,hbk, -, -⟩:=id h;have c2:w.cell? ⟨b,2,none⟩=some (.int .i8 lr):=by rw[Lib.cell_of_heap hbk];rfl
 have f2:w.frozen? ⟨b,2,none⟩=false:=Lib.frozen_of_heap hbk 2;have h':=h.setLast 0;have hbel0:Below B w (w.setCell ⟨b,2,none⟩ (.int .i8 0)):=(Below.refl B w).setCell (p:=⟨b,2,none⟩) hB _;have hk0:Lib.OthersKept (ρ.t 5) (some b) w (w.setCell ⟨b,2,none⟩ (.int .i8 0)):=(Lib.OthersKept.refl _ _ w).setCell ⟨b,2,none⟩ rfl _;clear hbk v0;have hT:∀W,Lib.IsBuffer (ρ.t 93) (ρ.t 5) B b bs W->Calls P (ρ.f 251) #[.pointer (some ⟨b,0,none⟩), .int .i64 0] W _:=λW hW=>Any.Buffer_tryGrow_own {L with} B b 0 bs W hW
 go_enter L.f180,Body.n180_ntmps ρ
 go_wp2_with (go_at_fn (ρ.f 251);refine(hT _ ?_).mono ?_)
 ·exact h'
 rintro e W1 (⟨rfl,xs,hxl,hI,hbel,hk, -⟩|⟨rfl,rfl,hnr⟩)
 ·clear h' c2 f2 hT;have hx0:xs=[]:=R3 hxl;subst hx0;rw[OU]at hI;obtain⟨-,lr2,hc⟩:=hI.cases;rcases hc with⟨hb0,hbk2⟩|⟨g,cap,cur,hbk2, -, -,hnc,hcm, -, -, -⟩
  ·subst hb0;have d0:W1.cell? ⟨b,0,none⟩=some (.slice none 0 0):=by rw[Lib.cell_of_heap hbk2];rfl
   go_wp2
   all_goals (go_ret2;exact⟨rfl,hI,hbel0.trans hbel,hk0.trans hk⟩)
  ·have d0:W1.cell? ⟨b,0,none⟩=some (.slice (some ⟨g,0,none⟩) bs.length cap):=by rw[Lib.cell_of_heap hbk2];rfl
   unfold maxLen at hcm
   go_wp2
   all_goals (go_ret2;exact⟨rfl,hI,hbel0.trans hbel,hk0.trans hk⟩)
 ·obtain⟨_,_,_,_,hlt⟩:=hnr;omega
end Go.Proofs.Rf
namespace Go.Proofs.Rf
open Go.RowKit Go.Shelf Go Go.Rx Go.Lv Go.Proofs
theorem PU{B:Reg}{w:World}:∀{l:List UInt8} {c:List Value},Bp (Al B w (.int .u8)) l c->c=Lib.byteCells l
 |[],c,h=>h
 |x::l,c,⟨c1,c2,h1,h2,h3⟩=>by
  rw[h1,show c1=_ from h2,PU h3];rfl
theorem RU{B:Reg}{w:World}:∀(l:List UInt8),Bp (Al B w (.int .u8)) l (Lib.byteCells l)
 |[]=>rfl
 |x::l=>⟨[.int .u8 x.toNat],Lib.byteCells l,rfl,rfl,RU l⟩
def Src(A:Nat->Prop)(W:World)(l:List UInt8)(v:Value):Prop:=
 ∃p len cap,v= .slice p len cap/\l.length=len/\len<=cap/\ (0<len->∃a:Addr,p=some a/\A a.block/\∀j x,(Lib.byteCells l)[j]? =some x->W.cell? (a.add j)=some x)
theorem Src.keep{A:Nat->Prop}{W W':World}{l:List UInt8}{v:Value}(h:Src A W l v)(hk:∀k,A k->W'.heap[k]? =W.heap[k]?):Src A W' l v:=by
 obtain⟨p,len,cap,h1,h2,h3,h4⟩:=h;refine⟨p,len,cap,h1,h2,h3,λhl=>?_⟩;obtain⟨a,e1,e2,e3⟩:=h4 hl;exact⟨a,e1,e2,λj x hx=>(lS (by rw[Lib.block_add];exact hk _ e2)).trans (e3 j x hx)⟩
theorem vB{A:Reg}{w:World}{l:List UInt8}{v:Value}(h:Al A w (.list (.int .u8)) l [v]):Src A w l v:=by
 obtain⟨v1,c0,e1,⟨p,len,cap,rfl,g1,g2,g3,g4⟩,h2⟩:=h;cases e1;obtain rfl:=PU h2;have hlen:l.length=len:=by simpa [ET.size,Lib.byteCells]using g1
 refine⟨p,len,cap,rfl,hlen,g2,λhl=>?_⟩;obtain⟨b,off,arr,T,fr,rfl,e2,e3,e4,e5⟩:=g4 F0;refine⟨_,rfl,e2,λj x hx=>?_⟩;have hj:j<len*ET.size (.int .u8):=by
  have:=(List.getElem?_eq_some_iff.1 hx).1;simpa [Lib.byteCells,hlen,ET.size]using this
 rw[Lib.addr_add,Lib.cell_of_heap e3,e5 j hj];exact hx
theorem An9{w:World}{E:TypeId}{l:List UInt8}{v:Value}{o:Option Nat}(A:Reg)(h:(Mob.own 1 E v (Lib.byteCells l)).holds o w)(hA:∀b,o=some b->A b):Src A w l v:=by
 obtain⟨p,len,cap,rfl,g1,g2,g3,g4,g5⟩:=h;have hlen:l.length=len:=by simpa [Lib.byteCells]using g1
 refine⟨p,len,cap,rfl,hlen,g2,λhl=>?_⟩;cases o with
 |none=>have:=g4 rfl;omega
 |some k=>
  obtain⟨arr,fr,rfl,e2,e3,e4,e5⟩:=g5 k rfl;refine⟨_,rfl,hA k rfl,λj x hx=>?_⟩;have hj:j<len*1:=by
   have:=(List.getElem?_eq_some_iff.1 hx).1;simpa [Lib.byteCells,hlen]using this
  rw[Lib.addr_add,J?,Lib.cell_of_heap e2,e5 j hj];exact hx
theorem tC(l:List UInt8):∀v∈Lib.byteCells l,v.oneCell'=true:=Lib.byteCells_one l
theorem Afe{P:Program}{ρ:Ren}(L:LaysM.n180 P ρ){A:Nat->Prop}(B b:Nat)(bs l:List UInt8)(v:Value)(w:World)(h:Lib.IsBuffer (ρ.t 93) (ρ.t 5) B b (Lib.byteCells bs) w)(hBw:B<=w.heap.size)
  (hs:Src A w l v) (hA:¬A b) (hlim:bs.length+l.length<=140737488355328):
  Calls P (ρ.f 180) #[.pointer (some ⟨b,0,none⟩),v] w λe w'=>e= .returned (.tuple #[.int .i64 l.length, .nilIface])/\Lib.IsBuffer (ρ.t 93) (ρ.t 5) B b (Lib.byteCells (bs++l)) w'/\Below B w w'/\Lib.OthersKept (ρ.t 5) (some b) w w':=by
 obtain⟨p,len,cap,rfl,hlen,h3,h4⟩:=hs;rcases ZT len with h0|h0
 ·subst h0;obtain rfl:l=[]:=R3 hlen;simpa using Abq L B b (Lib.byteCells bs) p cap w h hBw
 ·obtain⟨a,rfl,e2,e3⟩:=h4 h0;subst hlen;have:=Any.Buffer_Write_any L B b (Lib.byteCells bs) (Lib.byteCells l) a l.length cap w h hBw (tC bs) (by simp[Lib.byteCells]) (λe=>hA (e▸e2)) e3 (tC l) (by simpa [Lib.byteCells]using hlim);rw[<-Lib.byteCells_append]at this;exact this
theorem Af1{P:Program}{ρ:Ren}(L:LaysM.n178 P ρ)(B b:Nat)(bs l:List UInt8)(w:World)(h:Lib.IsBuffer (ρ.t 93) (ρ.t 5) B b (Lib.byteCells bs) w)(hf:bs=[]->w.cell? ⟨b,0,none⟩=some (.slice none 0 0)/\1<=l.length/\l.length<=64)
  (hBw:B<=w.heap.size) (hlim:bs.length+l.length<=140737488355328):
  Calls P (ρ.f 178) #[.pointer (some ⟨b,0,none⟩),sv l] w λe w'=>e= .returned (.tuple #[.int .i64 l.length, .nilIface])/\Lib.IsBuffer (ρ.t 93) (ρ.t 5) B b (Lib.byteCells (bs++l)) w'/\Below B w w'/\kO b w w':=by
 have hz:(⟨l.toArray⟩:ByteArray).size=l.length:=by simp[ByteArray.size]
 have:=Bd4 L B b (Lib.byteCells bs) ⟨l.toArray⟩ w h (λe=>by rw[hz];exact hf (by simpa [Lib.byteCells]using e)) hBw (tC bs) (by rw[hz];simpa [Lib.byteCells]using hlim);rw[hz]at this;simpa [Lib.byteCells_append]using this
theorem Aqh{P:Program}{f:Nat}{gl:List (Nat×List Value)}{E:TypeId}{F:UInt64->Int->Option (List UInt8×Int)}(hC:ConOk P gl f ⟨[.lf (.int .u64) none, .lf (.int .i64) none],[.lf (.list (.int .u8)) (some E), .lf (.int .i64) none],λx=>F x.1 x.2⟩)
  {W:World} {x:UInt64} {n:Int} {r:List UInt8×Int} (hgl:GlOk gl (λ_=>True) W) (h:F x n=some r):
  Calls P f #[iv (T:=UInt64) (k:= .u64) x, .int .i64 n] W λe W'=>∃v,e= .returned (.tuple #[v, .int .i64 r.2])/\KeepN (λ_=>True) W W'/\Src (λk=>W.heap.size<=k/\k<W'.heap.size) W' r.1 v:=by
 refine(hC.ok (λ_=>True) (λ_=>True) W [] [iv (T:=UInt64) (k:= .u64) x, .int .i64 n] [.val (.int .u64) x, .val (.int .i64) n] (x,n) r rfl rfl (λi a m _ h=>by simp at h) trivial ⟨_,_,rfl,rfl,_,_,rfl,rfl,rfl⟩ hgl h).mono ?_;rintro e w' ⟨us,rfl,hk,A1,L1,g1,g2,g3⟩;obtain⟨ps,its,k1,k2,k3,k4,k5⟩:=g3 ⟨[],[],[]⟩ [] (λ_=>True) rfl (λ_ _=>trivial) (λ_ _ _=>trivial);have ei: [Item.arr E (.int .u8) r.1]=its:=congrArg S.it k1;subst ei;obtain⟨m,rfl⟩:∃m,L1=[m]:=by
  cases L1 with
  |nil=>cases k4
  |cons m t=>cases t with
   |nil=>exact⟨m,rfl⟩
   |cons _ _=>cases k4
 have hm:=k5 0 _ m rfl rfl;obtain rfl:=O9 (show some [PV.own 0,PV.val (.int .i64) r.2]=some ps from k2);obtain⟨v,_,rfl,e1,_,_,rfl,e2,rfl⟩:=k3;obtain⟨s,E',v',c0,q1,q2⟩:=(show∃s E' v' c0,([m]:List MD)[0]? =some (.own s E' v' c0)/\ [v]=[v']from e1);cases q1;cases q2;cases(show [_]=[Value.int .i64 r.2]from e2);obtain⟨rfl,rfl,hall⟩:=(show E'=E/\s=1/\Bp (Al _ _ (.int .u8)) r.1 c0 from hm);obtain rfl:=PU hall;obtain⟨o,h1,h2,_⟩:=g2;exact⟨v,rfl,hk,An9 _ h1 λb hb=>⟨dO λhlt=>(h2 b hb).1 (.inr ⟨hlt,trivial⟩),(h2 b hb).2⟩⟩
theorem rN{T e:TypeId}{B b:Nat}{bs:List Value}{w:World}(h:Lib.IsBuffer T e B b bs w){ad:Addr}{n c:Nat}(hc:w.cell? ⟨b,0,none⟩=some (.slice (some ad) n c)):∃cur,w.heap[ad.block]? =some (.cells cur e (0,0)):=by
 obtain⟨hB,lr,hcs⟩:=h.cases;rcases hcs with⟨_,hbk⟩|⟨g,cap,cur,hbk,_,hg,_⟩
 ·rw[Lib.cell_of_heap hbk]at hc;cases hc
 ·rw[Lib.cell_of_heap hbk]at hc;cases hc;exact⟨cur,hg⟩
theorem As5{T e:TypeId}{B b:Nat}{bs:List Value}{w:World}(h:Lib.IsBuffer T e B b bs w){ad:Addr}{n c:Nat}(hc:w.cell? ⟨b,0,none⟩=some (.slice (some ad) n c)):ad.block<w.heap.size:=by
 obtain⟨cur,hg⟩:=rN h hc;exact Lib.lt_of_heap hg
theorem Azb{T e:TypeId}{B b:Nat}{bs:List Value}{w w':World}(h:Lib.IsBuffer T e B b bs w)(hr:kO b w w'):Lib.OthersKept e (some b) w w':=by
 intro k o hk hb ho;refine(hr k (Lib.lt_of_heap hk) (λe=>hb (by rw[e])) λad n c hc hek=>?_).trans hk;obtain⟨cur,hg⟩:=rN h hc;rw[hek,hg]at hk;exact ho _ _ (O9 hk).symm
theorem xI{T e:TypeId}{B b:Nat}{bs:List Value}{w w':World}(h:Lib.IsBuffer T e B b bs w)(hb:∀k,k<w.heap.size->w'.heap[k]? =w.heap[k]?):Lib.IsBuffer T e B b bs w':=by
 have hlt:=h.lt;obtain⟨hB,v,lr,hbk,hown,hne⟩:=h;refine⟨hB,v,lr,(hb b hlt).trans hbk,⟨hown.1,?_⟩,hne⟩;rcases hown.2 with hn|⟨g,cap,cur,hv,hbg,hg,rest⟩
 ·exact .inl hn
 ·exact .inr ⟨g,cap,cur,hv,hbg,(hb g (Lib.lt_of_heap hg)).trans hg,rest⟩
abbrev CH:ET:= .cons .str (.cons (.list (.int .u8)) .nil)
theorem Atr{A:Reg}{w:World}:∀{l:List (List UInt8×List UInt8×Unit)} {c0:List Value},Bp (Al A w CH) l c0->∀{i:Nat} {c:List UInt8×List UInt8×Unit},l[i]? =some c->∃vd,c0[2*i]? =some (sv c.1)/\c0[2*i+1]? =some vd/\Al A w (.list (.int .u8)) c.2.1 [vd]
 |[],_,_,i,c,h=>by simp at h
 |x::l,c0,⟨c1,c2,h1,h2,h3⟩,i,c,h=>by
  obtain⟨k1,k2,rfl,e1,e2⟩:=(show∃k1 k2,c1=k1++k2/\Al A w .str x.1 k1/\Al A w (.cons (.list (.int .u8)) .nil) x.2 k2 from h2);obtain⟨k3,k4,rfl,e3,e4⟩:=(show∃k3 k4,k2=k3++k4/\Al A w (.list (.int .u8)) x.2.1 k3/\Al A w .nil x.2.2 k4 from e2);obtain rfl:k1=[sv x.1]:=e1;obtain rfl:k4=[]:=e4;obtain⟨vd,c3,rfl,e5⟩:=(show∃vd c3,k3=[vd]/\ _/\ _ from e3);subst h1;cases i with
  |zero=>cases h;exact⟨vd,rfl,rfl,e3⟩
  |succ i=>
   obtain⟨vd',q1,q2,q3⟩:=Atr h3 (i:=i) (by simpa using h);refine⟨vd',?_,?_,q3⟩
   ·rw[show 2*(i+1)=2*i+1+1 by omega];simpa using q1
   ·rw[show 2*(i+1)+1=2*i+1+1+1 by omega];simpa using q2
theorem Asf{A:Reg}{w:World}{x:List UInt8×List UInt8×Unit}{c:List Value}(h:Al A w CH x c):c.length=2:=by
 obtain⟨k1,k2,rfl,e1,e2⟩:=(show∃k1 k2,c=k1++k2/\Al A w .str x.1 k1/\Al A w (.cons (.list (.int .u8)) .nil) x.2 k2 from h);obtain⟨k3,k4,rfl,e3,e4⟩:=(show∃k3 k4,k2=k3++k4/\Al A w (.list (.int .u8)) x.2.1 k3/\Al A w .nil x.2.2 k4 from e2);obtain rfl:k1=[sv x.1]:=e1;obtain rfl:k4=[]:=e4;obtain⟨vd,c3,rfl,e5⟩:=(show∃vd c3,k3=[vd]/\ _/\ _ from e3);rfl
theorem Apw{P:Program}{f:Nat}{gl:List (Nat×List Value)}{t:ET}{F:List UInt8->t.list.T->Option Int}(hC:ConOk P gl f ⟨[.lf .str none, .lf t.list none],[.lf (.int .i64) none],λx=>F x.1 x.2⟩)
  {A:Reg} {W:World} {s:List UInt8} {l:t.list.T} {v:Value} {r:Int} (hv:Al A W t.list l [v]) (hgl:GlOk gl (λ_=>True) W) (h:F s l=some r):
  Calls P f #[sv s,v] W λe W'=>e= .returned (.int .i64 r)/\KeepN (λ_=>True) W W':=by
 have hv':Al (λ_=>True/\True) W t.list l [v]:=Al.step (λ_ _=>⟨trivial,trivial⟩) (λ_ _=>rfl) hv;refine(hC.ok (λ_=>True) (λ_=>True) W [] [sv s,v] [.val .str s, .val t.list l] (s,l) r rfl rfl (λi a m _ h=>by simp at h) trivial ⟨_,_,rfl,rfl,_,_,rfl,hv',rfl⟩ hgl h).mono ?_;rintro e w' ⟨us,rfl,hk,A1,L1,g1,g2,g3⟩;obtain⟨ps,its,k1,k2,k3,k4,k5⟩:=g3 ⟨[],[],[]⟩ [] (λ_=>True) rfl (λ_ _=>trivial) (λ_ _ _=>trivial);obtain rfl:=O9 (show some [PV.val (.int .i64) r]=some ps from k2);obtain⟨_,_,rfl,e1,rfl⟩:=k3;cases(show [_]=[Value.int .i64 r]from e1);exact⟨rfl,hk⟩
theorem Apb{P:Program}{f:Nat}{gl:List (Nat×List Value)}{t:ET}{F:t.list.T->Option Int}(hC:ConOk P gl f ⟨[.lf t.list none],[.lf (.int .i64) none],F⟩)
  {A:Reg} {W:World} {l:t.list.T} {v:Value} {r:Int} (hv:Al A W t.list l [v]) (hgl:GlOk gl (λ_=>True) W) (h:F l=some r):
  Calls P f #[v] W λe W'=>e= .returned (.int .i64 r)/\KeepN (λ_=>True) W W':=by
 have hv':Al (λ_=>True/\True) W t.list l [v]:=Al.step (λ_ _=>⟨trivial,trivial⟩) (λ_ _=>rfl) hv;refine(hC.ok (λ_=>True) (λ_=>True) W [] [v] [.val t.list l] l r rfl rfl (λi a m _ h=>by simp at h) trivial ⟨_,_,rfl,hv',rfl⟩ hgl h).mono ?_;rintro e w' ⟨us,rfl,hk,A1,L1,g1,g2,g3⟩;obtain⟨ps,its,k1,k2,k3,k4,k5⟩:=g3 ⟨[],[],[]⟩ [] (λ_=>True) rfl (λ_ _=>trivial) (λ_ _ _=>trivial);obtain rfl:=O9 (show some [PV.val (.int .i64) r]=some ps from k2);obtain⟨_,_,rfl,e1,rfl⟩:=k3;cases(show [_]=[Value.int .i64 r]from e1);exact⟨rfl,hk⟩
theorem sE{E:TypeId}{w:World}:(Mob.own 1 E (.slice none 0 0) (Lib.byteCells [])).holds none w:=⟨none,0,0,rfl,rfl,D1 _,(λ_=>rfl),(λ_=>rfl),(λ_ h=>nomatch h)⟩
theorem Aa9{E:TypeId}{B:Nat}{w:World}{v:Value}{l:List UInt8}(h:w.ownsRow B E 1 v (Lib.byteCells l).length (Lib.byteCells l)):∃o,(Mob.own 1 E v (Lib.byteCells l)).holds o w/\∀k,o=some k->B<=k/\k<w.heap.size:=by
 rcases h.2 with⟨rfl,h0⟩|⟨g,cap,cur,rfl,hBg,hg,hnc,hcm,hcs,htk⟩
 ·obtain rfl:l=[]:=R3 (by simpa [Lib.byteCells]using h0);exact⟨none,sE,(λ_ h=>nomatch h)⟩
 ·refine⟨some g,⟨_,_,cap,rfl,by rw[R2],hnc,(λh=>nomatch h),(λh=>nomatch h),λb hb=>?_⟩,λk hk=>?_⟩
  ·cases hb;refine⟨cur,(0,0),rfl,hg,hcs, .inl rfl,λi hi=>?_⟩;have:cur.toList[i]? =(cur.toList.take ((Lib.byteCells l).length*1))[i]? :=(lD hi).symm;rw[<-cP,this,htk]
  ·cases hk;exact⟨hBg,Lib.lt_of_heap hg⟩
theorem Akj(n:Nat)(h:n<4611686018427387904):bits BinOp.and IntKind.i64 (n:Int) 1=((n %2:Nat):Int):=by
 have e:bits BinOp.and IntKind.i64 (n:Int) 1=Go.Lv.wrap64 ((BitVec.ofInt 64 (n:Int)&&&BitVec.ofInt 64 1).toNat:Int):=rfl;rw[e,XP,R5,R5];have h1:((n:Int) %((2^64:Nat):Int)).toNat=n:=F0
 have h2:((1:Int) %((2^64:Nat):Int)).toNat=2^1-1:=F6
 rw[h1,h2,W?,Go.Lv.Bq F0 F0]
theorem Aaz{P:Program}{TB U8:TypeId}{i:TypeInfo}(ht:P.underlying TB=some (.slice U8))(hi:P.info? U8=some i)(hz:i.zero=some (.int .u8 0))(h1:i.size=1)(h2:i.bytes=1)(m:Nat)(hm:m<=1):
  ∃M:Array Value,(∀W:World,(Instr.makeSlice TB (.int .i64 (m:Int)) (.int .i64 (m:Int))).run P W= .ok (.slice (some ⟨W.heap.size,0,none⟩) m m) (W.alloc (.cells M U8)))/\
   ∀W:World,Src (λk=>k=W.heap.size) (W.alloc (.cells M U8)) (List.replicate m 0) (.slice (some ⟨W.heap.size,0,none⟩) m m):=by
 refine⟨madeCells (Value.int .u8 0).cells ((m:Int).toNat*i.size),λW=>?_,λW=>?_⟩
 ·have:=run_makeSlice (P:=P) W TB U8 i (.int .u8 0) ht hi hz .i64 .i64 (m:Int) (m:Int) F0 F0 (by rw[h1];simp;omega) (by rw[h2];omega) F0;simpa using this
 ·refine⟨_,m,m,rfl,A7,D1 _,λhm0=>⟨_,rfl,rfl,λj x hx=>?_⟩⟩;obtain rfl:m=1:=F0
  rw[Lib.addr_add,J?,Lib.cell_of_heap (Z7 W _),h1];have hj:=(List.getElem?_eq_some_iff.1 hx).1;obtain rfl:j=0:=by simp[Lib.byteCells]at hj;omega
  cases(show some (Value.int .u8 0)=some x from hx)
  first|kernel_rfl|rfl|simp[madeCells,Value.cells]
theorem jU{w W:World}(h:Below w.heap.size w W):KeepN (λ_=>True) w W:=⟨λk hk _=>h.block k hk,h.size,h.os,h.tape,h.output⟩
theorem Ay3(B:Nat)(w:World)(n:Nat):Below B w (w.drewN n):=⟨rfl,rfl,rfl,D1 _,λ_ _=>rfl⟩
theorem Up{W W1:World}(hk:KeepN (λ_=>True) W W1):Below W.heap.size W W1:=⟨hk.gr.os,hk.gr.tape,hk.gr.output,hk.gr.le,λj hj=>hk.same j hj trivial⟩
theorem Aor{P:Program}{f:Nat}{gl:List (Nat×List Value)}{E:TypeId}{F:List UInt8->Option (List UInt8)}(hC:ConOk P gl f ⟨[.lf .str none],[.lf (.list (.int .u8)) (some E)],F⟩)
  {W:World} {s r:List UInt8} (hgl:GlOk gl (λ_=>True) W) (h:F s=some r):
  Calls P f #[sv s] W λe W'=>∃v o,e= .returned v/\KeepN (λ_=>True) W W'/\ (Mob.own 1 E v (Lib.byteCells r)).holds o W'/\∀b,o=some b->W.heap.size<=b/\b<W'.heap.size:=by
 refine(hC.ok (λ_=>True) (λ_=>True) W [] [sv s] [.val .str s] s r rfl rfl (λi a m _ h=>by simp at h) trivial ⟨_,_,rfl,rfl,rfl⟩ hgl h).mono ?_;rintro e w' ⟨us,rfl,hk,A1,L1,g1,g2,g3⟩;obtain⟨ps,its,k1,k2,k3,k4,k5⟩:=g3 ⟨[],[],[]⟩ [] (λ_=>True) rfl (λ_ _=>trivial) (λ_ _ _=>trivial);have ei: [Item.arr E (.int .u8) r]=its:=congrArg S.it k1;subst ei;obtain⟨m,rfl⟩:∃m,L1=[m]:=by
  cases L1 with
  |nil=>cases k4
  |cons m t=>cases t with
   |nil=>exact⟨m,rfl⟩
   |cons _ _=>cases k4
 have hm:=k5 0 _ m rfl rfl;obtain rfl:=O9 (show some [PV.own 0]=some ps from k2);obtain⟨v,_,rfl,e1,rfl⟩:=k3;obtain⟨s',E',v',c0,q1,q2⟩:=(show∃s E' v' c0,([m]:List MD)[0]? =some (.own s E' v' c0)/\ [v]=[v']from e1);cases q1;cases q2;obtain⟨rfl,rfl,hall⟩:=(show E'=E/\s'=1/\Bp (Al _ _ (.int .u8)) r c0 from hm);obtain rfl:=PU hall;obtain⟨o,h1,h2,_⟩:=g2;exact⟨v,o,rfl,hk,h1,λb hb=>⟨dO λhlt=>(h2 b hb).1 (.inr ⟨hlt,trivial⟩),(h2 b hb).2⟩⟩
theorem WZ{P:Program}{f:Nat}{gl:List (Nat×List Value)}{F:List UInt8->List UInt8->Int->Option Bool}(hC:ConOk P gl f ⟨[.lf (.list (.int .u8)) none, .lf .str none, .lf (.int .i64) none],[.lf .bool none],λx=>F x.1 x.2.1 x.2.2⟩)
  {A:Reg} {W:World} {l s:List UInt8} {k:Int} {v:Value} {r:Bool} (hv:Al A W (.list (.int .u8)) l [v]) (hgl:GlOk gl (λ_=>True) W) (h:F l s k=some r):
  Calls P f #[v,sv s, .int .i64 k] W λe W'=>e= .returned (.bool r)/\KeepN (λ_=>True) W W':=by
 have hv':Al (λ_=>True/\True) W (.list (.int .u8)) l [v]:=Al.step (λ_ _=>⟨trivial,trivial⟩) (λ_ _=>rfl) hv;refine(hC.ok (λ_=>True) (λ_=>True) W [] [v,sv s, .int .i64 k] [.val (.list (.int .u8)) l, .val .str s, .val (.int .i64) k] (l,s,k) r rfl rfl (λi a m _ h=>by simp at h) trivial ⟨_,_,rfl,hv',_,_,rfl,rfl,_,_,rfl,rfl,rfl⟩ hgl h).mono ?_;rintro e w' ⟨us,rfl,hk,A1,L1,g1,g2,g3⟩;obtain⟨ps,its,k1,k2,k3,k4,k5⟩:=g3 ⟨[],[],[]⟩ [] (λ_=>True) rfl (λ_ _=>trivial) (λ_ _ _=>trivial);obtain rfl:=O9 (show some [PV.val .bool r]=some ps from k2);obtain⟨_,_,rfl,e1,rfl⟩:=k3;cases(show [_]=[Value.bool r]from e1);exact⟨rfl,hk⟩
theorem Aoz{W:World}{E:TypeId}{v:Value}{l:List UInt8}{o:Option Nat}(h:(Mob.own 1 E v (Lib.byteCells l)).holds o W):Al (λb=>o=some b) W (.list (.int .u8)) l [v]:=⟨v,_,rfl,Qs h,RU l⟩
theorem rQ{W:World}{E:TypeId}{v:Value}{l:List UInt8}{o:Option Nat}(h:(Mob.own 1 E v (Lib.byteCells l)).holds o W)(h0:0<l.length):
  ∃(k cap:Nat) (arr:Array Value) (fr:Nat×Nat),o=some k/\v= .slice (some ⟨k,0,none⟩) l.length cap/\l.length<=cap/\W.heap[k]? =some (.cells arr E fr)/\arr.size=cap/\ (fr.1=fr.2\/arr.size<=fr.1)/\∀i,i<l.length->arr[i]? =(Lib.byteCells l)[i]? :=by
 obtain⟨p,len,cap,rfl,g1,g2,g3,g4,g5⟩:=h;have hlen:l.length=len:=by simpa [Lib.byteCells]using g1
 subst hlen;cases o with
 |none=>have:=g4 rfl;omega
 |some k=>
  obtain⟨arr,fr,rfl,e2,e3,e4,e5⟩:=g5 k rfl;exact⟨k,cap,arr,fr,rfl,rfl,g2,e2,F0,e4,λi hi=>e5 i F0⟩
theorem Aqk{P:Program}{TB U8 ty:TypeId}{i:TypeInfo}(ht:P.underlying TB=some (.slice U8))(hi:P.info? U8=some i)(hz:i.zero=some (.int .u8 0))(h1:i.size=1)(h2:i.bytes=1)
  (W:World) (a1 a2:Addr) (l1 l2:List UInt8) (n1 n2 cap c2:Nat) (hn1:n1=l1.length) (hn2:n2=l2.length) (s1:∀j v,(Lib.byteCells l1)[j]? =some v->W.cell? (a1.add j)=some v) (s2:∀j v,(Lib.byteCells l2)[j]? =some v->W.cell? (a2.add j)=some v)
  (hg:cap<l1.length+l2.length) (hlim:l1.length+l2.length<=17179869184):
  ∃v W',(Builtin.append_ #[TB,TB] ty #[.slice (some a1) n1 cap, .slice (some a2) n2 c2]).run P W= .ok v W'/\ (Mob.own 1 U8 v (Lib.byteCells (l1++l2))).holds (some W.heap.size) W'/\Below W.heap.size W W'/\W.heap.size<W'.heap.size:=by
 subst hn1 hn2;have hl1:(Lib.byteCells l1).length=l1.length:=by simp[Lib.byteCells]
 have hl2:(Lib.byteCells l2).length=l2.length:=by simp[Lib.byteCells]
 have hr:=run_append_grow (P:=P) W TB ty U8 i (.int .u8 0) ht hi hz a1 l1.length cap (Lib.byteCells l1) (by rw[h1,hl1,R2]) s1 a2 l2.length c2 (Lib.byteCells l2) (by rw[h1,hl2,R2]) s2 hg F0 (ZW hg (by rw[h2];omega));have hge:=grownCap_ge W (l1.length+l2.length) cap U8;refine⟨_,_,hr,⟨_,_,_,rfl,by rw[Lib.byteCells_append,B6,hl1,hl2,R2],hge,(λh=>nomatch h),(λh=>nomatch h),λb hb=>?_⟩,⟨rfl,rfl,rfl,A7,λk hk=>Lib.alloc_old W.drew _ k hk⟩,by simp[World.alloc]⟩;cases hb;refine⟨_,(0,0),rfl,Z7 W.drew _,?_, .inl rfl,λj hj=>?_⟩
 ·simp only[Array.size_append,QF,size_zeroCells,hl1,hl2];rw[show(Value.int IntKind.u8 0).cells.size=1 from rfl];omega
 ·rw[Lib.byteCells_append,jq (by simp[hl1,hl2];omega)];simp
theorem fS{F:Fence}{n:Nat}{P:Program}(w:World){ops:Array Oper}{rest:List Oper}{o:Oper}{a:Act}{Q:Exit->Act->World->Prop}
  (hw:Region.wanted o (yielded ops a.tmps)=true) (s x:Operand) (t e:TypeId) (hop:o.op=Op.call {callee:=Callee.builtin Builtin.append,args:= #[s,x],argTypes:= #[t,t]})
  {i:TypeInfo} (ht:P.underlying t=some (.slice e)) (hi:P.info? e=some i) (hz:i.zero=some (.int .u8 0)) (h1:i.size=1) (h2:i.bytes=1)
  (a1 a2:Addr) (l1 l2:List UInt8) (n1 n2 cap c2:Nat) (hs:a.eval s= .slice (some a1) n1 cap) (hx:a.eval x= .slice (some a2) n2 c2) (hn1:n1=l1.length) (hn2:n2=l2.length)
  (s1:∀j v,(Lib.byteCells l1)[j]? =some v->w.cell? (a1.add j)=some v) (s2:∀j v,(Lib.byteCells l2)[j]? =some v->w.cell? (a2.add j)=some v) (hg:cap<l1.length+l2.length) (hlim:l1.length+l2.length<=17179869184)
  (hK:∀v W',(Mob.own 1 e v (Lib.byteCells (l1++l2))).holds (some w.heap.size) W'->Below w.heap.size w W'->w.heap.size<W'.heap.size->wpListIn F n P ops Q rest (a.put o.dst v) W'):
  wpListIn F n P ops Q (o::rest) a w:=by
 refine Go.BigFrame.wpListIn_want hw λK hK'=>?_;obtain⟨v',w',hrun,r1,r2,r3⟩:=Aqk (P:=P) (ty:=o.type) ht hi hz h1 h2 w a1 a2 l1 l2 n1 n2 cap c2 hn1 hn2 s1 s2 hg hlim;unfold Oper.wpIn;refine⟨?_,?_⟩
 ·simp[Oper.about,hop,resolve,Target.leads,H9]
 ·rw[Oper.semAt_plain F _ _ (by rw[hop];intro c hc';cases hc')];simp[execOp,hop,resolve,invoke,builtin,hs,hx,hrun,Result.andThen];exact hK' _ _ (hK v' w' r1 r2 r3)
theorem qQ{W:World}{E:TypeId}{k cap:Nat}{l:List UInt8}{fr:Nat×Nat}{arr:Array Value}(hk:W.heap[k]? =some (.cells arr E fr))(hsz:arr.size=cap)(harr:∀i,i<l.length->arr[i]? =(Lib.byteCells l)[i]?)(i:Nat)(hi:i<l.length)(g:UInt8):
  (W.setCell ⟨k,i,none⟩ (.int .u8 g.toNat)).heap[k]? =some (.cells (arr.setIfInBounds i (.int .u8 g.toNat)) E fr)/\ (arr.setIfInBounds i (.int .u8 g.toNat)).size=cap/\∀j,j<(l.set i g).length-> (arr.setIfInBounds i (.int .u8 g.toNat))[j]? =(Lib.byteCells (l.set i g))[j]? :=by
 refine⟨Lib.heap_setCell_same hk _,by simpa using hsz,λj hj=>?_⟩;rw[R?]at hj;have e:Lib.byteCells (l.set i g)=(Lib.byteCells l).set i (.int .u8 g.toNat):=by simp only[Lib.byteCells,U6]
 rw[e,Array.getElem?_setIfInBounds,List.getElem?_set];have hl:(Lib.byteCells l).length=l.length:=by simp[Lib.byteCells]
 by_cases hij:i=j
 ·subst hij;have:=(Array.getElem?_eq_some_iff.1 ((harr i hi).trans (KV F0))).1;rw[A4 rfl,A4 rfl,A4 this,A4 F0]
 ·rw[A! hij,A! hij,harr j hj]
theorem enc_row{W:World}{E:TypeId}{k cap n:Nat}{l:List UInt8}{fr:Nat×Nat}{arr:Array Value}(hk:W.heap[k]? =some (.cells arr E fr))(hsz:arr.size=cap)(harr:∀i,i<l.length->arr[i]? =(Lib.byteCells l)[i]?)(hn:n<=l.length)(hcap:l.length<=cap):
  Al (λj=>some k=some j) W (.list (.int .u8)) (l.take n) [.slice (some ⟨k,0,none⟩) n cap]:=by
 have hl:(Lib.byteCells (l.take n)).length=n:=by simp[Lib.byteCells];omega
 refine⟨_,Lib.byteCells (l.take n),rfl,⟨_,n,cap,rfl,by rw[hl];exact(R2 n).symm,F0,(λh=>nomatch h),λ_=>⟨k,0,arr,E,fr,rfl,rfl,hk,by rw[hsz,J?];exact Y5 (R2 _),λi hi=>?_⟩⟩,RU _⟩;have hi:i<n:=by simpa [ET.size]using hi
 rw[J?,harr i F0];simp[Lib.byteCells,lD hi]
theorem nu{W:World}{E:TypeId}{k:Nat}{l:List UInt8}{fr:Nat×Nat}{arr:Array Value}(hk:W.heap[k]? =some (.cells arr E fr))(harr:∀i,i<l.length->arr[i]? =(Lib.byteCells l)[i]?):
  ∀j v,(Lib.byteCells l)[j]? =some v->W.cell? ((⟨k,0,none⟩:Addr).add j)=some v:=λj v hj=>by
 have hj':j<l.length:=by have:=(List.getElem?_eq_some_iff.1 hj).1;simpa [Lib.byteCells]using this
 rw[Lib.addr_add,J?,Lib.cell_of_heap hk,harr j hj'];exact hj
theorem zT{l m r:List UInt8}(h:Cm l m=some r):r=l++m:=by
 unfold Cm at h;split at h
 ·cases h;rfl
 ·cases h
theorem rL{l m r:List UInt8}(h:Cm l m=some r):l.length+m.length<=17179869184:=by
 unfold Cm Q8 at h;split at h
 ·assumption
 ·cases h
theorem Acu{A:Nat->Prop}{W:World}{l:List UInt8}{v:Value}(h:Src A W l v):Lib.HoldsBytes W v l:=by
 obtain⟨p,len,cap,rfl,rfl,_,h3⟩:=h;refine⟨p,cap,rfl,λhp=>?_,λa ha i x hx=>?_⟩
 ·rcases ZT l.length with h0|h0
  ·exact R3 h0
  ·obtain⟨a,ha,_⟩:=h3 h0;rw[hp]at ha;cases ha
 ·have hi:=(List.getElem?_eq_some_iff.1 hx).1;obtain⟨b,hb,_,h4⟩:=h3 F0;obtain rfl:b=a:=O9 (hb.symm.trans ha);exact h4 i _ (by simp[Lib.byteCells,hx])
theorem KT{W:World}{E:TypeId}{k cap:Nat}{l:List UInt8}{fr:Nat×Nat}{arr:Array Value}(hk:W.heap[k]? =some (.cells arr E fr))(harr:∀i,i<l.length->arr[i]? =(Lib.byteCells l)[i]?):Lib.HoldsBytes W (.slice (some ⟨k,0,none⟩) l.length cap) l:=by
 refine⟨_,cap,rfl,(λh=>nomatch h),λa ha i x hx=>?_⟩;cases ha;have hi:=(List.getElem?_eq_some_iff.1 hx).1;rw[Lib.addr_add,J?,Lib.cell_of_heap hk,harr i hi];simp[Lib.byteCells,hx]
theorem Aeq{W:World}{E:TypeId}{k:Nat}{fr:Nat×Nat}{arr:Array Value}{vs:List Value}{ls:List (List UInt8)}(hk:W.heap[k]? =some (.cells arr E fr))(hl:vs.length=ls.length)(harr:∀(i:Nat) (v:Value),vs[i]? =some v->arr[i]? =some v)
  (h:∀(i:Nat) v l,vs[i]? =some v->ls[i]? =some l->Lib.HoldsBytes W v l):Lib.PartsAt W ⟨k,0,none⟩ vs ls:=by
 refine⟨hl,λi v hv=>?_,h⟩;rw[Lib.addr_add,J?,Lib.cell_of_heap hk];exact harr i v hv
theorem Adb{B:Nat}{W:World}{v:Value}{l:List UInt8}(h:Lib.FreshBytes B W v l):Al (λk=>B<=k/\k<W.heap.size) W (.list (.int .u8)) l [v]:=by
 obtain⟨g,cap,zs,rfl,hB,hlc,_,hz,hz2,hb,hc,_⟩:=h;have hl:(Lib.byteCells l).length=l.length:=by simp[Lib.byteCells]
 refine⟨_,Lib.byteCells l,rfl,⟨_,l.length,cap,rfl,by rw[hl];exact(R2 _).symm,hlc,(λh=>nomatch h),λh0=>?_⟩,RU l⟩;have h1:=hc (cap-1) F0;unfold World.cell? at h1;cases hg:W.heap[g]? with
 |none=>rw[hg]at h1;cases h1
 |some b=>
  cases b with
  |cells arr T fr=>
   have hcell:∀i,i<cap->arr[i]? =some (.int .u8 (zs.getD i 0)):=λi hi=>by
    have:=hc i hi;rw[Lib.cell_of_heap hg]at this;exact this
   have hsz:cap<=arr.size:=by
    have:=(Array.getElem?_eq_some_iff.1 (hcell (cap-1) F0)).1;omega
   refine⟨g,0,arr,T,fr,rfl,⟨hB,Lib.lt_of_heap hg⟩,hg,by simpa [ET.size]using hsz,λi hi=>?_⟩;have hi:i<l.length:=by simpa [ET.size]using hi
   rw[J?,hcell i F0];have e1:l[i]? =some (UInt8.ofNat (zs.getD i 0).toNat):=by
    rw[<-hb];have hi2:i<zs.length:=F0
    simp only[Lib.bytesOf,RC,lD hi,KV hi2,S!,D!,dN]
   obtain⟨z1,z2⟩:=hz2 (zs.getD i 0) (by rw[D!,KV (show i<zs.length by omega)];exact P1 _);simp only[Lib.byteCells,RC,e1,S!];rw[M5,B4 F0,Int.toNat_of_nonneg z1]
  |_=>rw[hg]at h1;cases h1
theorem Anh{P:Program}{f:Nat}{gl:List (Nat×List Value)}{E:TypeId}{F:Int->Option (List UInt8)}(hC:ConOk P gl f ⟨[.lf (.int .i64) none],[.lf (.list (.int .u8)) (some E)],F⟩)
  {W:World} {s:Int} {r:List UInt8} (hgl:GlOk gl (λ_=>True) W) (h:F s=some r):
  Calls P f #[.int .i64 s] W λe W'=>∃v o,e= .returned v/\KeepN (λ_=>True) W W'/\ (Mob.own 1 E v (Lib.byteCells r)).holds o W'/\∀b,o=some b->W.heap.size<=b/\b<W'.heap.size:=by
 refine(hC.ok (λ_=>True) (λ_=>True) W [] [.int .i64 s] [.val (.int .i64) s] s r rfl rfl (λi a m _ h=>by simp at h) trivial ⟨_,_,rfl,rfl,rfl⟩ hgl h).mono ?_;rintro e w' ⟨us,rfl,hk,A1,L1,g1,g2,g3⟩;obtain⟨ps,its,k1,k2,k3,k4,k5⟩:=g3 ⟨[],[],[]⟩ [] (λ_=>True) rfl (λ_ _=>trivial) (λ_ _ _=>trivial);have ei: [Item.arr E (.int .u8) r]=its:=congrArg S.it k1;subst ei;obtain⟨m,rfl⟩:∃m,L1=[m]:=by
  cases L1 with
  |nil=>cases k4
  |cons m t=>cases t with
   |nil=>exact⟨m,rfl⟩
   |cons _ _=>cases k4
 have hm:=k5 0 _ m rfl rfl;obtain rfl:=O9 (show some [PV.own 0]=some ps from k2);obtain⟨v,_,rfl,e1,rfl⟩:=k3;obtain⟨s',E',v',c0,q1,q2⟩:=(show∃s E' v' c0,([m]:List MD)[0]? =some (.own s E' v' c0)/\ [v]=[v']from e1);cases q1;cases q2;obtain⟨rfl,rfl,hall⟩:=(show E'=E/\s'=1/\Bp (Al _ _ (.int .u8)) r c0 from hm);obtain rfl:=PU hall;obtain⟨o,h1,h2,_⟩:=g2;exact⟨v,o,rfl,hk,h1,λb hb=>⟨dO λhlt=>(h2 b hb).1 (.inr ⟨hlt,trivial⟩),(h2 b hb).2⟩⟩
theorem Afp {P:Program}{t e E:TypeId}(ht:P.underlying t=some (.slice e))(he:P.underlying e=some (.int .u8)){W:World}{b:Nat}{arr:Array Value}{lo hi:Nat}(hb:W.heap[b]? =some (.cells arr E (lo,hi)))(n c:Nat):
  ∃(W':World) (fr:Nat×Nat),(convert t t (.slice (some ⟨b,0,none⟩) n c)).run P W= .ok (.slice (some ⟨b,0,none⟩) n c) W'/\W'.heap[b]? =some (.cells arr E fr)/\W'.heap.size=W.heap.size/\Below b W W':=by
 have hlt:b<W.heap.size:=Lib.lt_of_heap hb;have hfr:W.freeze ⟨b,arr.size,none⟩ 1=Dx W b (.cells arr E (if lo==hi then(arr.size,arr.size+1)else(min lo arr.size,max hi (arr.size+1)))):=by
  unfold World.freeze Dx;rw[A! F6];congr 1;apply Array.ext
  ·simp
  ·intro k h1 h2;simp only[Array.getElem_modify,zi];by_cases hk:b=k
   ·subst hk;have:W.heap[b]= .cells arr E (lo,hi):=by
     have:=l! (xs:=W.heap) hlt;rw[hb]at this;exact(O9 this).symm
    simp[this]
   ·rw[A! hk,zn _ hk]
 have hsh:W.shape? b=some (E,arr.size):=by simp[World.shape?,hb]
 refine⟨Dx W b (.cells arr E (if lo==hi then(arr.size,arr.size+1)else(min lo arr.size,max hi (arr.size+1)))),_,?_,by simp[Dx,hlt];rfl,by simp[Dx],⟨rfl,rfl,rfl,by simp[Dx],λk hk=>by
  simp only[Dx];rw[W! F0]⟩⟩
 simp[convert,D0 ht,D0 he,markStringish,hsh,hfr]
theorem Akt{F:Fence}{n:Nat}{P:Program}(w:World){ops:Array Oper}{rest:List Oper}{o:Oper}{a:Act}{Q:Exit->Act->World->Prop}
  (hw:Region.wanted o (yielded ops a.tmps)=true) (s x:Operand) (t e:TypeId) (hop:o.op=Op.call {callee:=Callee.builtin Builtin.append,args:= #[s,x],argTypes:= #[t,t]})
  {i:TypeInfo} {z:Value} (ht:P.underlying t=some (.slice e)) (hi:P.info? e=some i) (hz:i.zero=some z) (h1:i.size=1) (h2:i.bytes=24)
  (a1 a2:Addr) (l1 l2:List Value) (n1 n2 cap c2:Nat) (hs:a.eval s= .slice (some a1) n1 cap) (hx:a.eval x= .slice (some a2) n2 c2) (hn1:l1.length=n1) (hn2:l2.length=n2)
  (s1:∀(j:Nat) (v:Value),l1[j]? =some v->w.cell? (a1.add j)=some v) (s2:∀(j:Nat) (v:Value),l2[j]? =some v->w.cell? (a2.add j)=some v) (hg:cap<n1+n2) (hlim:n1+n2<=1000)
  (hK:∀(c:Nat) (W':World) (arr:Array Value) (fr:Nat×Nat),n1+n2<=c->W'.heap[w.heap.size]? =some (.cells arr e fr)-> (∀(j:Nat) (v:Value),(l1++l2)[j]? =some v->arr[j]? =some v)->Below w.heap.size w W'->wpListIn F n P ops Q rest (a.put o.dst (.slice (some ⟨w.heap.size,0,none⟩) (n1+n2) c)) W'):
  wpListIn F n P ops Q (o::rest) a w:=by
 refine Go.BigFrame.wpListIn_want hw λK hK'=>?_;have hr:=run_append_grow (P:=P) w t o.type e i z ht hi hz a1 n1 cap l1 (by rw[h1,hn1,R2]) s1 a2 n2 c2 l2 (by rw[h1,hn2,R2]) s2 hg F0 (ZW hg (by rw[h2];omega));have hge:=grownCap_ge w (n1+n2) cap e;have hk:=hK (grownCap w (n1+n2) cap e) (w.drew.alloc (.cells ((l1++l2).toArray++Builtin.zeroCells z.cells (grownCap w (n1+n2) cap e-(n1+n2))) e)) ((l1++l2).toArray++Builtin.zeroCells z.cells (grownCap w (n1+n2) cap e-(n1+n2))) (0,0) hge (Z7 w.drew _) (λj v hv=>by
  have hj:=(List.getElem?_eq_some_iff.1 hv).1;rw[jq (by simpa using hj)];simpa using hv) ⟨rfl,rfl,rfl,A7,λk hk=>Lib.alloc_old w.drew _ k hk⟩
 unfold Oper.wpIn;refine⟨?_,?_⟩
 ·simp[Oper.about,hop,resolve,Target.leads,H9]
 ·rw[Oper.semAt_plain F _ _ (by rw[hop];intro c hc';cases hc')];simp[execOp,hop,resolve,invoke,builtin,hs,hx,hr,Result.andThen];exact hK' _ _ hk
end Go.Proofs.Rf
